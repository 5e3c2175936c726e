/- The row of FnEdges, with what it needs: text 3 of 9. -/
import Derived.Test.YtpoiiaephcddoaaL1
set_option maxHeartbeats 8000000
set_option maxRecDepth 100000
section
namespace Go.Proofs.Ytpoiiaephcddoaa.F
open Go.RowKit Go.Proofs.YtpoiiaephcddoaaW.PrintWords Go.Proofs.YtpoiiaephcddoaaW.PrintLast Go.Proofs.YtpoiiaephcddoaaW.PrintMore
attribute [local go_sem] max2_int min2_int max_two min_two max_three min_three max_four min_four
set_option linter.unusedVariables false
set_option linter.unusedSimpArgs false
attribute [local go_sem high] eqA35
theorem spec_CornerCount.calls (k : Nat) (A0 : Option Addr) (c0 : Nat) (l0 : List (S35)) (r1 : Int) (r2 : Int) (w : World) (hr0 : Kd.C k35 w A0 l0.length l0) (hc0 : l0.length ≤ c0) (h : spec_CornerCount.f k l0 = some (r1, r2)) :
  Calls Try.prog 6 #[.slice A0 l0.length c0] w fun e w' => e = .returned (.tuple #[.int .i64 r1, .int .i64 r2]) ∧ Below w.heap.size w w' := by
 have hu35 := Try.underlying35
 have HR0 := aM hr0
 have HC0 := aM hc0
 clear hr0 hc0
 have HB := aM (Below.refl w.heap.size w)
 have H : ((spec_IsShape.f k l0).bind fun t114 => (if t114 = true then (spec_CornerCount.l0 k l0 0 (([] : List (S35))) 0) else (some (0, 1)))) = some (r1, r2) := h
 clear h
 replace H := Option.bind_eq_some_iff.mp H
 obtain ⟨t114, A20, H⟩ := H
 replace H : (if t114 = true then (spec_CornerCount.l0 k l0 0 (([] : List (S35))) 0) else (some (0, 1))) = some (r1, r2) := H
 have A2 := aM A20
 clear A20
 by_cases c3 : t114 = true
 rotate_left
 ·replace c3 := Bool.eq_false_iff.mpr c3
  subst c3
  have H1 : (some (0, 1)) = some (r1, r2) := by rw [if_neg (show ¬ (false = true) by decide)] at H; exact H
  clear H
  have H := H1
  clear H1
  simp only [Option.some.injEq, Prod.mk.injEq] at H
  obtain ⟨rfl, rfl⟩ := H
  go_enter Try.func6, Try.ntmps6
  go_wp2_with (first | (go_at_call 16; (with_reducible refine (spec_IsShape.calls k _ _ l0 false _ ?side1 ?side2 A2.out).mono ?_); (case side1 => repeat (first | exact HR0.out | (with_reducible refine Kd.C_alloc ?_ _) | (with_reducible refine Kd.C_drewN ?_ _) | (with_reducible refine Kd.C_drew ?_))); (case side2 => exact HC0.out); rintro e w57 ⟨rfl, hb⟩; have n0_ := aM (below_step zb hb); clear HB; have HB := n0_; clear n0_; (try clear hb); (try clear hb2); (try clear hk); (try clear hi)))
  repeat (go_quiet (first | (go_at_call 16; (try simp only [i64_w]); (with_reducible refine (spec_IsShape.calls k _ _ l0 false _ ?side1 ?side2 A2.out).mono ?_); (case side1 => repeat (first | exact HR0.out | (with_reducible refine Kd.C_alloc ?_ _) | (with_reducible refine Kd.C_drewN ?_ _) | (with_reducible refine Kd.C_drew ?_))); (case side2 => exact HC0.out); rintro e w57 ⟨rfl, hb⟩; have n0_ := aM (below_step zb hb); clear HB; have HB := n0_; clear n0_; (try clear hb); (try clear hb2); (try clear hk); (try clear hi))); try go_wp2_with (first | (go_at_call 16; (try simp only [i64_w]); (with_reducible refine (spec_IsShape.calls k _ _ l0 false _ ?side1 ?side2 A2.out).mono ?_); (case side1 => repeat (first | exact HR0.out | (with_reducible refine Kd.C_alloc ?_ _) | (with_reducible refine Kd.C_drewN ?_ _) | (with_reducible refine Kd.C_drew ?_))); (case side2 => exact HC0.out); rintro e w57 ⟨rfl, hb⟩; have n0_ := aM (below_step zb hb); clear HB; have HB := n0_; clear n0_; (try clear hb); (try clear hb2); (try clear hk); (try clear hi))))
  go_ret2
  exact ⟨zw, zb⟩
 subst c3
 have H1 : (spec_CornerCount.l0 k l0 0 (([] : List (S35))) 0) = some (r1, r2) := by rw [if_pos rfl] at H; exact H
 clear H
 have H := H1
 clear H1
 obtain ⟨y115, hy115⟩ : ∃ y_ : List (S35), y_ = (([] : List (S35))) := ⟨_, rfl⟩
 replace H : (spec_CornerCount.l0 k l0 0 y115 0) = some (r1, r2) := zy H hy115
 have Ny115 := aM hy115
 clear hy115
 have H' := aM H
 clear H
 go_enter Try.func6, Try.ntmps6
 go_wp2_with (first | (go_at_call 16; (with_reducible refine (spec_IsShape.calls k _ _ l0 true _ ?side1 ?side2 A2.out).mono ?_); (case side1 => repeat (first | exact HR0.out | (with_reducible refine Kd.C_alloc ?_ _) | (with_reducible refine Kd.C_drewN ?_ _) | (with_reducible refine Kd.C_drew ?_))); (case side2 => exact HC0.out); rintro e w4 ⟨rfl, hb⟩; have n0_ := aM (below_step zb hb); clear HB; have HB := n0_; clear n0_; (try clear hb); (try clear hb2); (try clear hk); (try clear hi)) | ((with_reducible refine gate_dst (N := 20) rfl ?_); refine Kd.R_lit k35 _ 35 ?hg (N := 20) ?hd (xs := ([] : List (S35))) (inner := []) (ok := fun _ => True) (okp := fun _ => True) ?hr ?hp (fun _ hk => hk) trivial (Below.refl _ _) (Nat.le_refl _) (by simp) ?_; (case hd => rfl); (case hg => rfl); (case hr => first | (go_simp; done) | (go_simp; rfl)); (case hp => exact (Reps.none _ _)); intro v116 w5 ho6 hb hg_ hnew_; clear hg_ hnew_; (first | rw [← Ny115.out] at ho6 | (simp only [Int.reduceToNat] at ho6; rw [← Ny115.out] at ho6)); have n0_ := aM (Kd.R_lower ho6 (below_size zb)); have n1_ := aM (below_step zb hb); clear HB; have HO117 := n0_; have HB := n1_; clear n0_ n1_; clear hb ho6))
 repeat (go_quiet (first | (go_at_call 16; (try simp only [i64_w]); (with_reducible refine (spec_IsShape.calls k _ _ l0 true _ ?side1 ?side2 A2.out).mono ?_); (case side1 => repeat (first | exact HR0.out | (with_reducible refine Kd.C_alloc ?_ _) | (with_reducible refine Kd.C_drewN ?_ _) | (with_reducible refine Kd.C_drew ?_))); (case side2 => exact HC0.out); rintro e w4 ⟨rfl, hb⟩; have n0_ := aM (below_step zb hb); clear HB; have HB := n0_; clear n0_; (try clear hb); (try clear hb2); (try clear hk); (try clear hi)) | ((with_reducible refine gate_dst (N := 20) rfl ?_); refine Kd.R_lit k35 _ 35 ?hg (N := 20) ?hd (xs := ([] : List (S35))) (inner := []) (ok := fun _ => True) (okp := fun _ => True) ?hr ?hp (fun _ hk => hk) trivial (Below.refl _ _) (Nat.le_refl _) (by simp) ?_; (case hd => rfl); (case hg => rfl); (case hr => first | (go_simp; done) | (go_simp; rfl)); (case hp => exact (Reps.none _ _)); intro v116 w5 ho6 hb hg_ hnew_; clear hg_ hnew_; (first | rw [← Ny115.out] at ho6 | (simp only [Int.reduceToNat] at ho6; rw [← Ny115.out] at ho6)); have n0_ := aM (Kd.R_lower ho6 (below_size zb)); have n1_ := aM (below_step zb hb); clear HB; have HO117 := n0_; have HB := n1_; clear n0_ n1_; clear hb ho6)); try go_wp2_with (first | (go_at_call 16; (try simp only [i64_w]); (with_reducible refine (spec_IsShape.calls k _ _ l0 true _ ?side1 ?side2 A2.out).mono ?_); (case side1 => repeat (first | exact HR0.out | (with_reducible refine Kd.C_alloc ?_ _) | (with_reducible refine Kd.C_drewN ?_ _) | (with_reducible refine Kd.C_drew ?_))); (case side2 => exact HC0.out); rintro e w4 ⟨rfl, hb⟩; have n0_ := aM (below_step zb hb); clear HB; have HB := n0_; clear n0_; (try clear hb); (try clear hb2); (try clear hk); (try clear hi)) | ((with_reducible refine gate_dst (N := 20) rfl ?_); refine Kd.R_lit k35 _ 35 ?hg (N := 20) ?hd (xs := ([] : List (S35))) (inner := []) (ok := fun _ => True) (okp := fun _ => True) ?hr ?hp (fun _ hk => hk) trivial (Below.refl _ _) (Nat.le_refl _) (by simp) ?_; (case hd => rfl); (case hg => rfl); (case hr => first | (go_simp; done) | (go_simp; rfl)); (case hp => exact (Reps.none _ _)); intro v116 w5 ho6 hb hg_ hnew_; clear hg_ hnew_; (first | rw [← Ny115.out] at ho6 | (simp only [Int.reduceToNat] at ho6; rw [← Ny115.out] at ho6)); have n0_ := aM (Kd.R_lower ho6 (below_size zb)); have n1_ := aM (below_step zb hb); clear HB; have HO117 := n0_; have HB := n1_; clear n0_ n1_; clear hb ho6)))
 go_loopg [5, 6] k (fun kq v5 v6 w' => ∃ (x5_1 : List (S35)) (x6_1 : Int), v6 = .int .i64 x6_1 ∧ Aside0 (spec_CornerCount.l0 kq l0 0 x5_1 x6_1 = some (r1, r2)) ∧ Aside0 (kq ≤ k) ∧ Aside0 (Kd.R k35 35 w' w.heap.size (fun _ => True) v5 x5_1) ∧ Aside0 (Below w.heap.size w w'))
 case atStart => exact ⟨(y115), (0), zr, H', ⟨Nat.le_refl _⟩, ⟨mR_ HO117.out⟩, ⟨zb⟩⟩
 case round =>
  clear H'
  try clear p2
  try clear c3
  try clear c6
  obtain ⟨x5_1, x6_1, rfl, HA, HK1, HO_5, HB⟩ := hrel
  cases gk with
  | zero => exact absurd HA.out (by simp [spec_CornerCount.l0])
  | succ k1 =>
   have H := HA.out
   clear HA
   simp only [spec_CornerCount.l0] at H
   by_cases c7 : x6_1 < (l0.length : Int)
   ·rw [if_pos c7] at H
    have c7b0 : decide (x6_1 < (l0.length : Int)) = true := decide_eq_true c7
    clear c7
    by_cases c8 : 0 ≤ x6_1
    rotate_left
    ·rw [if_neg c8] at H
     exact absurd H (by simp)
    rw [if_pos c8] at H
    have c8b0 : decide (0 ≤ x6_1) = true := decide_eq_true c8
    clear c8
    obtain ⟨y120, hy120⟩ : ∃ y_ : List (S35), y_ = (([(⟨(rd_T35 l0 x6_1).f0, (rd_T35 l0 x6_1).f1⟩ : S35), (⟨wrap64 (((rd_T35 l0 x6_1).f0) + 1), (rd_T35 l0 x6_1).f1⟩ : S35), (⟨(rd_T35 l0 x6_1).f0, wrap64 (((rd_T35 l0 x6_1).f1) + 1)⟩ : S35), (⟨wrap64 (((rd_T35 l0 x6_1).f0) + 1), wrap64 (((rd_T35 l0 x6_1).f1) + 1)⟩ : S35)] : List (S35))) := ⟨_, rfl⟩
    replace H : (spec_CornerCount.l1 k1 l0 0 x5_1 x6_1 y120 0) = some (r1, r2) := zy H hy120
    have Ny120 := aM hy120
    clear hy120
    have H' := aM H
    clear H
    have p118 : 0 ≤ (x6_1 : Int) := of_decide_eq_true za
    have q118 : x6_1 < (l0.length : Int) := of_decide_eq_true za
    obtain ⟨ad118, e118, hx118_0, hx118_1⟩ := at_T35 HR0.out x6_1 p118 q118
    cases e118
    replace hx118_0 := zk HB.out hx118_0
    replace hx118_1 := zk HB.out hx118_1
    replace p118 := eq_true p118
    replace q118 := eq_true q118
    go_wp2_with (first | ((with_reducible refine gate_dst (N := 7) rfl ?_); refine zx 7 #[.int .i64 0, .int .i64 0] 35 ?_; intro gb119 hg w9 hbox hb; have n0_ := aM (Kd.R_below (Kd.R_elderB (mR_ HO_5.out) gb119 (Nat.le_of_eq hg.symm)) hb); have n1_ := aM (below_step zb hb); have n2_ := aM (hbox); have n3_ := aM ((ze : w.heap.size ≤ gb119)); have n4_ := aM ((ze : w.heap.size ≤ gb119)); clear HO_5 HB; have HO_5 := n0_; have HB := n1_; have BK119 := n2_; have GW119 := n3_; have GE119 := n4_; clear n0_ n1_ n2_ n3_ n4_ hb hbox hg; have hcz10_0 : w9.cell? ⟨gb119, 0, none⟩ = some (.int .i64 0) := (blk_cell BK119.out 0).trans rfl; have hcz10_1 : w9.cell? ⟨gb119, 1, none⟩ = some (.int .i64 0) := (blk_cell BK119.out 1).trans rfl; have hfz10_0 := blk_frozen BK119.out 0; have hfz10_1 := blk_frozen BK119.out 1) | ((with_reducible refine gate_dst (N := 51) rfl ?_); refine Kd.R_lit k35 _ 35 ?hg (N := 51) ?hd (xs := ([(⟨(rd_T35 l0 x6_1).f0, (rd_T35 l0 x6_1).f1⟩ : S35), (⟨wrap64 (((rd_T35 l0 x6_1).f0) + 1), (rd_T35 l0 x6_1).f1⟩ : S35), (⟨(rd_T35 l0 x6_1).f0, wrap64 (((rd_T35 l0 x6_1).f1) + 1)⟩ : S35), (⟨wrap64 (((rd_T35 l0 x6_1).f0) + 1), wrap64 (((rd_T35 l0 x6_1).f1) + 1)⟩ : S35)] : List (S35))) (inner := [.int .i64 ((rd_T35 l0 x6_1).f0), .int .i64 ((rd_T35 l0 x6_1).f1), .int .i64 (wrap64 (((rd_T35 l0 x6_1).f0) + 1)), .int .i64 ((rd_T35 l0 x6_1).f1), .int .i64 ((rd_T35 l0 x6_1).f0), .int .i64 (wrap64 (((rd_T35 l0 x6_1).f1) + 1)), .int .i64 (wrap64 (((rd_T35 l0 x6_1).f0) + 1)), .int .i64 (wrap64 (((rd_T35 l0 x6_1).f1) + 1))]) (ok := fun _ => True) (okp := fun _ => True) ?hr ?hp (fun _ hk => hk) trivial (Below.refl _ _) (Nat.le_refl _) (by simp) ?_; (case hd => rfl); (case hg => rfl); (case hr => first | (go_simp; done) | (go_simp; rfl)); (case hp => exact (Reps.c2 (show Kd.M k35 _ _ _ (⟨(rd_T35 l0 x6_1).f0, (rd_T35 l0 x6_1).f1⟩ : S35) [.int .i64 ((rd_T35 l0 x6_1).f0), .int .i64 ((rd_T35 l0 x6_1).f1)] from (k35_mkM _ _ _ (⟨(rd_T35 l0 x6_1).f0, (rd_T35 l0 x6_1).f1⟩ : S35) )) (Reps.c2 (show Kd.M k35 _ _ _ (⟨wrap64 (((rd_T35 l0 x6_1).f0) + 1), (rd_T35 l0 x6_1).f1⟩ : S35) [.int .i64 (wrap64 (((rd_T35 l0 x6_1).f0) + 1)), .int .i64 ((rd_T35 l0 x6_1).f1)] from (k35_mkM _ _ _ (⟨wrap64 (((rd_T35 l0 x6_1).f0) + 1), (rd_T35 l0 x6_1).f1⟩ : S35) )) (Reps.c2 (show Kd.M k35 _ _ _ (⟨(rd_T35 l0 x6_1).f0, wrap64 (((rd_T35 l0 x6_1).f1) + 1)⟩ : S35) [.int .i64 ((rd_T35 l0 x6_1).f0), .int .i64 (wrap64 (((rd_T35 l0 x6_1).f1) + 1))] from (k35_mkM _ _ _ (⟨(rd_T35 l0 x6_1).f0, wrap64 (((rd_T35 l0 x6_1).f1) + 1)⟩ : S35) )) (Reps.c2 (show Kd.M k35 _ _ _ (⟨wrap64 (((rd_T35 l0 x6_1).f0) + 1), wrap64 (((rd_T35 l0 x6_1).f1) + 1)⟩ : S35) [.int .i64 (wrap64 (((rd_T35 l0 x6_1).f0) + 1)), .int .i64 (wrap64 (((rd_T35 l0 x6_1).f1) + 1))] from (k35_mkM _ _ _ (⟨wrap64 (((rd_T35 l0 x6_1).f0) + 1), wrap64 (((rd_T35 l0 x6_1).f1) + 1)⟩ : S35) )) (Reps.none _ _)))))); intro v121 w11 ho12 hb hg_ hnew_; clear hg_ hnew_; (first | rw [← Ny120.out] at ho12 | (simp only [Int.reduceToNat] at ho12; rw [← Ny120.out] at ho12)); have n0_ := aM (Kd.R_elder' (by (with_reducible repeat (first | apply Kd.R_alloc | apply Kd.R_drewN | apply Kd.R_drew)); exact (Kd.R_mono (Kd.R_far (p := ⟨gb119, 1, none⟩) (Kd.R_far (p := ⟨gb119, 0, none⟩) (Kd.R_mono HO_5.out (fun k_ hk => (⟨hk, hk.2⟩ : _ ∧ k_ ≠ gb119))) (fun _ hk => hk.2) (.int .i64 ((rd_T35 l0 x6_1).f0))) (fun _ hk => hk.2) (.int .i64 ((rd_T35 l0 x6_1).f1))) (fun _ h_ => h_.1))) (Kd.R_base ho12) hb); have n1_ := aM (Kd.R_lower (Kd.R_newB (Kd.R_new' ho12 (Kd.R_lt (by (with_reducible repeat (first | apply Kd.R_alloc | apply Kd.R_drewN | apply Kd.R_drew)); exact (Kd.R_mono (Kd.R_far (p := ⟨gb119, 1, none⟩) (Kd.R_far (p := ⟨gb119, 0, none⟩) (Kd.R_mono HO_5.out (fun k_ hk => (⟨hk, hk.2⟩ : _ ∧ k_ ≠ gb119))) (fun _ hk => hk.2) (.int .i64 ((rd_T35 l0 x6_1).f0))) (fun _ hk => hk.2) (.int .i64 ((rd_T35 l0 x6_1).f1))) (fun _ h_ => h_.1))))) (g := gb119) (o := .cells #[.int .i64 ((rd_T35 l0 x6_1).f0), .int .i64 ((rd_T35 l0 x6_1).f1)] 35 (0, 0)) (by (with_reducible repeat (first | refine blk_drewN ?_ _ | refine blk_drew ?_ | refine blk_alloc ?_ _)); refine blk_put (cs := #[.int .i64 ((rd_T35 l0 x6_1).f0), .int .i64 0]) ?_ 1 _ rfl; (with_reducible repeat (first | refine blk_drewN ?_ _ | refine blk_drew ?_ | refine blk_alloc ?_ _)); refine blk_put (cs := #[.int .i64 0, .int .i64 0]) ?_ 0 _ rfl; (with_reducible repeat (first | refine blk_drewN ?_ _ | refine blk_drew ?_ | refine blk_alloc ?_ _)); exact BK119.out)) (below_size (zs GE119.out))); have n2_ := aM (blk_below (g := gb119) (o := .cells #[.int .i64 ((rd_T35 l0 x6_1).f0), .int .i64 ((rd_T35 l0 x6_1).f1)] 35 (0, 0)) (by (with_reducible repeat (first | refine blk_drewN ?_ _ | refine blk_drew ?_ | refine blk_alloc ?_ _)); refine blk_put (cs := #[.int .i64 ((rd_T35 l0 x6_1).f0), .int .i64 0]) ?_ 1 _ rfl; (with_reducible repeat (first | refine blk_drewN ?_ _ | refine blk_drew ?_ | refine blk_alloc ?_ _)); refine blk_put (cs := #[.int .i64 0, .int .i64 0]) ?_ 0 _ rfl; (with_reducible repeat (first | refine blk_drewN ?_ _ | refine blk_drew ?_ | refine blk_alloc ?_ _)); exact BK119.out) hb); have n3_ := aM (below_step (zs GE119.out) hb); clear HO_5 BK119 HB; have HO_5 := n0_; have HO122 := n1_; have BK119 := n2_; have HB := n3_; clear n0_ n1_ n2_ n3_; clear hb ho12))
    repeat (go_quiet (first | ((with_reducible refine gate_dst (N := 7) rfl ?_); refine zx 7 #[.int .i64 0, .int .i64 0] 35 ?_; intro gb119 hg w9 hbox hb; have n0_ := aM (Kd.R_below (Kd.R_elderB (mR_ HO_5.out) gb119 (Nat.le_of_eq hg.symm)) hb); have n1_ := aM (below_step zb hb); have n2_ := aM (hbox); have n3_ := aM ((ze : w.heap.size ≤ gb119)); have n4_ := aM ((ze : w.heap.size ≤ gb119)); clear HO_5 HB; have HO_5 := n0_; have HB := n1_; have BK119 := n2_; have GW119 := n3_; have GE119 := n4_; clear n0_ n1_ n2_ n3_ n4_ hb hbox hg; have hcz10_0 : w9.cell? ⟨gb119, 0, none⟩ = some (.int .i64 0) := (blk_cell BK119.out 0).trans rfl; have hcz10_1 : w9.cell? ⟨gb119, 1, none⟩ = some (.int .i64 0) := (blk_cell BK119.out 1).trans rfl; have hfz10_0 := blk_frozen BK119.out 0; have hfz10_1 := blk_frozen BK119.out 1) | ((with_reducible refine gate_dst (N := 51) rfl ?_); refine Kd.R_lit k35 _ 35 ?hg (N := 51) ?hd (xs := ([(⟨(rd_T35 l0 x6_1).f0, (rd_T35 l0 x6_1).f1⟩ : S35), (⟨wrap64 (((rd_T35 l0 x6_1).f0) + 1), (rd_T35 l0 x6_1).f1⟩ : S35), (⟨(rd_T35 l0 x6_1).f0, wrap64 (((rd_T35 l0 x6_1).f1) + 1)⟩ : S35), (⟨wrap64 (((rd_T35 l0 x6_1).f0) + 1), wrap64 (((rd_T35 l0 x6_1).f1) + 1)⟩ : S35)] : List (S35))) (inner := [.int .i64 ((rd_T35 l0 x6_1).f0), .int .i64 ((rd_T35 l0 x6_1).f1), .int .i64 (wrap64 (((rd_T35 l0 x6_1).f0) + 1)), .int .i64 ((rd_T35 l0 x6_1).f1), .int .i64 ((rd_T35 l0 x6_1).f0), .int .i64 (wrap64 (((rd_T35 l0 x6_1).f1) + 1)), .int .i64 (wrap64 (((rd_T35 l0 x6_1).f0) + 1)), .int .i64 (wrap64 (((rd_T35 l0 x6_1).f1) + 1))]) (ok := fun _ => True) (okp := fun _ => True) ?hr ?hp (fun _ hk => hk) trivial (Below.refl _ _) (Nat.le_refl _) (by simp) ?_; (case hd => rfl); (case hg => rfl); (case hr => first | (go_simp; done) | (go_simp; rfl)); (case hp => exact (Reps.c2 (show Kd.M k35 _ _ _ (⟨(rd_T35 l0 x6_1).f0, (rd_T35 l0 x6_1).f1⟩ : S35) [.int .i64 ((rd_T35 l0 x6_1).f0), .int .i64 ((rd_T35 l0 x6_1).f1)] from (k35_mkM _ _ _ (⟨(rd_T35 l0 x6_1).f0, (rd_T35 l0 x6_1).f1⟩ : S35) )) (Reps.c2 (show Kd.M k35 _ _ _ (⟨wrap64 (((rd_T35 l0 x6_1).f0) + 1), (rd_T35 l0 x6_1).f1⟩ : S35) [.int .i64 (wrap64 (((rd_T35 l0 x6_1).f0) + 1)), .int .i64 ((rd_T35 l0 x6_1).f1)] from (k35_mkM _ _ _ (⟨wrap64 (((rd_T35 l0 x6_1).f0) + 1), (rd_T35 l0 x6_1).f1⟩ : S35) )) (Reps.c2 (show Kd.M k35 _ _ _ (⟨(rd_T35 l0 x6_1).f0, wrap64 (((rd_T35 l0 x6_1).f1) + 1)⟩ : S35) [.int .i64 ((rd_T35 l0 x6_1).f0), .int .i64 (wrap64 (((rd_T35 l0 x6_1).f1) + 1))] from (k35_mkM _ _ _ (⟨(rd_T35 l0 x6_1).f0, wrap64 (((rd_T35 l0 x6_1).f1) + 1)⟩ : S35) )) (Reps.c2 (show Kd.M k35 _ _ _ (⟨wrap64 (((rd_T35 l0 x6_1).f0) + 1), wrap64 (((rd_T35 l0 x6_1).f1) + 1)⟩ : S35) [.int .i64 (wrap64 (((rd_T35 l0 x6_1).f0) + 1)), .int .i64 (wrap64 (((rd_T35 l0 x6_1).f1) + 1))] from (k35_mkM _ _ _ (⟨wrap64 (((rd_T35 l0 x6_1).f0) + 1), wrap64 (((rd_T35 l0 x6_1).f1) + 1)⟩ : S35) )) (Reps.none _ _)))))); intro v121 w11 ho12 hb hg_ hnew_; clear hg_ hnew_; (first | rw [← Ny120.out] at ho12 | (simp only [Int.reduceToNat] at ho12; rw [← Ny120.out] at ho12)); have n0_ := aM (Kd.R_elder' (by (with_reducible repeat (first | apply Kd.R_alloc | apply Kd.R_drewN | apply Kd.R_drew)); exact (Kd.R_mono (Kd.R_far (p := ⟨gb119, 1, none⟩) (Kd.R_far (p := ⟨gb119, 0, none⟩) (Kd.R_mono HO_5.out (fun k_ hk => (⟨hk, hk.2⟩ : _ ∧ k_ ≠ gb119))) (fun _ hk => hk.2) (.int .i64 ((rd_T35 l0 x6_1).f0))) (fun _ hk => hk.2) (.int .i64 ((rd_T35 l0 x6_1).f1))) (fun _ h_ => h_.1))) (Kd.R_base ho12) hb); have n1_ := aM (Kd.R_lower (Kd.R_newB (Kd.R_new' ho12 (Kd.R_lt (by (with_reducible repeat (first | apply Kd.R_alloc | apply Kd.R_drewN | apply Kd.R_drew)); exact (Kd.R_mono (Kd.R_far (p := ⟨gb119, 1, none⟩) (Kd.R_far (p := ⟨gb119, 0, none⟩) (Kd.R_mono HO_5.out (fun k_ hk => (⟨hk, hk.2⟩ : _ ∧ k_ ≠ gb119))) (fun _ hk => hk.2) (.int .i64 ((rd_T35 l0 x6_1).f0))) (fun _ hk => hk.2) (.int .i64 ((rd_T35 l0 x6_1).f1))) (fun _ h_ => h_.1))))) (g := gb119) (o := .cells #[.int .i64 ((rd_T35 l0 x6_1).f0), .int .i64 ((rd_T35 l0 x6_1).f1)] 35 (0, 0)) (by (with_reducible repeat (first | refine blk_drewN ?_ _ | refine blk_drew ?_ | refine blk_alloc ?_ _)); refine blk_put (cs := #[.int .i64 ((rd_T35 l0 x6_1).f0), .int .i64 0]) ?_ 1 _ rfl; (with_reducible repeat (first | refine blk_drewN ?_ _ | refine blk_drew ?_ | refine blk_alloc ?_ _)); refine blk_put (cs := #[.int .i64 0, .int .i64 0]) ?_ 0 _ rfl; (with_reducible repeat (first | refine blk_drewN ?_ _ | refine blk_drew ?_ | refine blk_alloc ?_ _)); exact BK119.out)) (below_size (zs GE119.out))); have n2_ := aM (blk_below (g := gb119) (o := .cells #[.int .i64 ((rd_T35 l0 x6_1).f0), .int .i64 ((rd_T35 l0 x6_1).f1)] 35 (0, 0)) (by (with_reducible repeat (first | refine blk_drewN ?_ _ | refine blk_drew ?_ | refine blk_alloc ?_ _)); refine blk_put (cs := #[.int .i64 ((rd_T35 l0 x6_1).f0), .int .i64 0]) ?_ 1 _ rfl; (with_reducible repeat (first | refine blk_drewN ?_ _ | refine blk_drew ?_ | refine blk_alloc ?_ _)); refine blk_put (cs := #[.int .i64 0, .int .i64 0]) ?_ 0 _ rfl; (with_reducible repeat (first | refine blk_drewN ?_ _ | refine blk_drew ?_ | refine blk_alloc ?_ _)); exact BK119.out) hb); have n3_ := aM (below_step (zs GE119.out) hb); clear HO_5 BK119 HB; have HO_5 := n0_; have HO122 := n1_; have BK119 := n2_; have HB := n3_; clear n0_ n1_ n2_ n3_; clear hb ho12)); try go_wp2_with (first | ((with_reducible refine gate_dst (N := 7) rfl ?_); refine zx 7 #[.int .i64 0, .int .i64 0] 35 ?_; intro gb119 hg w9 hbox hb; have n0_ := aM (Kd.R_below (Kd.R_elderB (mR_ HO_5.out) gb119 (Nat.le_of_eq hg.symm)) hb); have n1_ := aM (below_step zb hb); have n2_ := aM (hbox); have n3_ := aM ((ze : w.heap.size ≤ gb119)); have n4_ := aM ((ze : w.heap.size ≤ gb119)); clear HO_5 HB; have HO_5 := n0_; have HB := n1_; have BK119 := n2_; have GW119 := n3_; have GE119 := n4_; clear n0_ n1_ n2_ n3_ n4_ hb hbox hg; have hcz10_0 : w9.cell? ⟨gb119, 0, none⟩ = some (.int .i64 0) := (blk_cell BK119.out 0).trans rfl; have hcz10_1 : w9.cell? ⟨gb119, 1, none⟩ = some (.int .i64 0) := (blk_cell BK119.out 1).trans rfl; have hfz10_0 := blk_frozen BK119.out 0; have hfz10_1 := blk_frozen BK119.out 1) | ((with_reducible refine gate_dst (N := 51) rfl ?_); refine Kd.R_lit k35 _ 35 ?hg (N := 51) ?hd (xs := ([(⟨(rd_T35 l0 x6_1).f0, (rd_T35 l0 x6_1).f1⟩ : S35), (⟨wrap64 (((rd_T35 l0 x6_1).f0) + 1), (rd_T35 l0 x6_1).f1⟩ : S35), (⟨(rd_T35 l0 x6_1).f0, wrap64 (((rd_T35 l0 x6_1).f1) + 1)⟩ : S35), (⟨wrap64 (((rd_T35 l0 x6_1).f0) + 1), wrap64 (((rd_T35 l0 x6_1).f1) + 1)⟩ : S35)] : List (S35))) (inner := [.int .i64 ((rd_T35 l0 x6_1).f0), .int .i64 ((rd_T35 l0 x6_1).f1), .int .i64 (wrap64 (((rd_T35 l0 x6_1).f0) + 1)), .int .i64 ((rd_T35 l0 x6_1).f1), .int .i64 ((rd_T35 l0 x6_1).f0), .int .i64 (wrap64 (((rd_T35 l0 x6_1).f1) + 1)), .int .i64 (wrap64 (((rd_T35 l0 x6_1).f0) + 1)), .int .i64 (wrap64 (((rd_T35 l0 x6_1).f1) + 1))]) (ok := fun _ => True) (okp := fun _ => True) ?hr ?hp (fun _ hk => hk) trivial (Below.refl _ _) (Nat.le_refl _) (by simp) ?_; (case hd => rfl); (case hg => rfl); (case hr => first | (go_simp; done) | (go_simp; rfl)); (case hp => exact (Reps.c2 (show Kd.M k35 _ _ _ (⟨(rd_T35 l0 x6_1).f0, (rd_T35 l0 x6_1).f1⟩ : S35) [.int .i64 ((rd_T35 l0 x6_1).f0), .int .i64 ((rd_T35 l0 x6_1).f1)] from (k35_mkM _ _ _ (⟨(rd_T35 l0 x6_1).f0, (rd_T35 l0 x6_1).f1⟩ : S35) )) (Reps.c2 (show Kd.M k35 _ _ _ (⟨wrap64 (((rd_T35 l0 x6_1).f0) + 1), (rd_T35 l0 x6_1).f1⟩ : S35) [.int .i64 (wrap64 (((rd_T35 l0 x6_1).f0) + 1)), .int .i64 ((rd_T35 l0 x6_1).f1)] from (k35_mkM _ _ _ (⟨wrap64 (((rd_T35 l0 x6_1).f0) + 1), (rd_T35 l0 x6_1).f1⟩ : S35) )) (Reps.c2 (show Kd.M k35 _ _ _ (⟨(rd_T35 l0 x6_1).f0, wrap64 (((rd_T35 l0 x6_1).f1) + 1)⟩ : S35) [.int .i64 ((rd_T35 l0 x6_1).f0), .int .i64 (wrap64 (((rd_T35 l0 x6_1).f1) + 1))] from (k35_mkM _ _ _ (⟨(rd_T35 l0 x6_1).f0, wrap64 (((rd_T35 l0 x6_1).f1) + 1)⟩ : S35) )) (Reps.c2 (show Kd.M k35 _ _ _ (⟨wrap64 (((rd_T35 l0 x6_1).f0) + 1), wrap64 (((rd_T35 l0 x6_1).f1) + 1)⟩ : S35) [.int .i64 (wrap64 (((rd_T35 l0 x6_1).f0) + 1)), .int .i64 (wrap64 (((rd_T35 l0 x6_1).f1) + 1))] from (k35_mkM _ _ _ (⟨wrap64 (((rd_T35 l0 x6_1).f0) + 1), wrap64 (((rd_T35 l0 x6_1).f1) + 1)⟩ : S35) )) (Reps.none _ _)))))); intro v121 w11 ho12 hb hg_ hnew_; clear hg_ hnew_; (first | rw [← Ny120.out] at ho12 | (simp only [Int.reduceToNat] at ho12; rw [← Ny120.out] at ho12)); have n0_ := aM (Kd.R_elder' (by (with_reducible repeat (first | apply Kd.R_alloc | apply Kd.R_drewN | apply Kd.R_drew)); exact (Kd.R_mono (Kd.R_far (p := ⟨gb119, 1, none⟩) (Kd.R_far (p := ⟨gb119, 0, none⟩) (Kd.R_mono HO_5.out (fun k_ hk => (⟨hk, hk.2⟩ : _ ∧ k_ ≠ gb119))) (fun _ hk => hk.2) (.int .i64 ((rd_T35 l0 x6_1).f0))) (fun _ hk => hk.2) (.int .i64 ((rd_T35 l0 x6_1).f1))) (fun _ h_ => h_.1))) (Kd.R_base ho12) hb); have n1_ := aM (Kd.R_lower (Kd.R_newB (Kd.R_new' ho12 (Kd.R_lt (by (with_reducible repeat (first | apply Kd.R_alloc | apply Kd.R_drewN | apply Kd.R_drew)); exact (Kd.R_mono (Kd.R_far (p := ⟨gb119, 1, none⟩) (Kd.R_far (p := ⟨gb119, 0, none⟩) (Kd.R_mono HO_5.out (fun k_ hk => (⟨hk, hk.2⟩ : _ ∧ k_ ≠ gb119))) (fun _ hk => hk.2) (.int .i64 ((rd_T35 l0 x6_1).f0))) (fun _ hk => hk.2) (.int .i64 ((rd_T35 l0 x6_1).f1))) (fun _ h_ => h_.1))))) (g := gb119) (o := .cells #[.int .i64 ((rd_T35 l0 x6_1).f0), .int .i64 ((rd_T35 l0 x6_1).f1)] 35 (0, 0)) (by (with_reducible repeat (first | refine blk_drewN ?_ _ | refine blk_drew ?_ | refine blk_alloc ?_ _)); refine blk_put (cs := #[.int .i64 ((rd_T35 l0 x6_1).f0), .int .i64 0]) ?_ 1 _ rfl; (with_reducible repeat (first | refine blk_drewN ?_ _ | refine blk_drew ?_ | refine blk_alloc ?_ _)); refine blk_put (cs := #[.int .i64 0, .int .i64 0]) ?_ 0 _ rfl; (with_reducible repeat (first | refine blk_drewN ?_ _ | refine blk_drew ?_ | refine blk_alloc ?_ _)); exact BK119.out)) (below_size (zs GE119.out))); have n2_ := aM (blk_below (g := gb119) (o := .cells #[.int .i64 ((rd_T35 l0 x6_1).f0), .int .i64 ((rd_T35 l0 x6_1).f1)] 35 (0, 0)) (by (with_reducible repeat (first | refine blk_drewN ?_ _ | refine blk_drew ?_ | refine blk_alloc ?_ _)); refine blk_put (cs := #[.int .i64 ((rd_T35 l0 x6_1).f0), .int .i64 0]) ?_ 1 _ rfl; (with_reducible repeat (first | refine blk_drewN ?_ _ | refine blk_drew ?_ | refine blk_alloc ?_ _)); refine blk_put (cs := #[.int .i64 0, .int .i64 0]) ?_ 0 _ rfl; (with_reducible repeat (first | refine blk_drewN ?_ _ | refine blk_drew ?_ | refine blk_alloc ?_ _)); exact BK119.out) hb); have n3_ := aM (below_step (zs GE119.out) hb); clear HO_5 BK119 HB; have HO_5 := n0_; have HO122 := n1_; have BK119 := n2_; have HB := n3_; clear n0_ n1_ n2_ n3_; clear hb ho12)))
    go_loopg [5, 9] k1 (fun kq v5 v9 w' => ∃ (x5_2 : List (S35)) (x9_2 : Int), v9 = .int .i64 x9_2 ∧ Aside0 (spec_CornerCount.l1 kq l0 0 x5_2 x6_1 y120 x9_2 = some (r1, r2)) ∧ Aside0 (kq ≤ k1) ∧ Aside0 (Kd.R k35 35 w' w.heap.size (fun k_ => some k_ ≠ (v121 : Value).ownBlock ∧ k_ ≠ gb119) v5 x5_2) ∧ Aside0 (Kd.R k35 35 w' w.heap.size (fun k_ => some k_ ≠ (v5 : Value).ownBlock ∧ k_ ≠ gb119) v121 y120) ∧ Aside0 (w'.heap[gb119]? = some (.cells #[.int .i64 ((rd_T35 l0 x6_1).f0), .int .i64 ((rd_T35 l0 x6_1).f1)] 35 (0, 0))) ∧ Aside0 (Below w.heap.size w w'))
    case atStart => exact ⟨(x5_1), (0), zr, H', ⟨Nat.le_refl _⟩, ⟨zd0 HO_5.out⟩, ⟨zd1 HO122.out⟩, ⟨mB_ BK119.out⟩, ⟨zs GE119.out⟩⟩
    case round =>
     clear H'
     try clear p1
     try clear q1
     try clear hx1
     try clear c2
     try clear p2
     try clear c3
     try clear c6
     try clear p6
     try clear c7
     try clear c7b0
     try clear c8
     try clear c8b0
     try clear p11
     try clear q11
     try clear hx11
     try clear hcz10_0
     try clear hcz10_1
     try clear hfz10_0
     try clear hfz10_1
     try clear hx118_0
     try clear hx118_1
     try clear p118
     try clear p2
     try clear q118
     obtain ⟨x5_2, x9_2, rfl, HA, HK2, HO_5, HO_8, BK119, HB⟩ := hrel
     cases gk with
     | zero => exact absurd HA.out (by simp [spec_CornerCount.l1])
     | succ k2 =>
      have H := HA.out
      clear HA
      simp only [spec_CornerCount.l1] at H
      by_cases c13 : x9_2 < 4
      rotate_left
      ·rw [if_neg c13] at H
       have c13b0 : decide (x9_2 < 4) = false := decide_eq_false c13
       clear c13
       have H' := aM H
       clear H
       go_wp2
       repeat (go_quiet (fail); try go_wp2)
       go_roundg k2
       case measure => have := HK1.out; have := HK2.out; omega
       case rel => exact ⟨(x5_2), (wrap64 (x6_1 + 1)), zr, H', ⟨by have := HK1.out; have := HK2.out; omega⟩, ⟨zd2 HO_5.out⟩, ⟨zs GE119.out⟩⟩
      rw [if_pos c13] at H
      have c13b0 : decide (x9_2 < 4) = true := decide_eq_true c13
      clear c13
      by_cases c14 : 0 ≤ x9_2
      rotate_left
      ·rw [if_neg c14] at H
       exact absurd H (by simp)
      rw [if_pos c14] at H
      have c14b0 : decide (0 ≤ x9_2) = true := decide_eq_true c14
      clear c14
      by_cases c15 : x9_2 < (y120.length : Int)
      rotate_left
      ·rw [if_neg c15] at H
       exact absurd H (by simp)
      rw [if_pos c15] at H
      have c15b0 : decide (x9_2 < (y120.length : Int)) = true := decide_eq_true c15
      clear c15
      replace H := Option.bind_eq_some_iff.mp H
      obtain ⟨t124, A160, H⟩ := H
      replace H : (if t124 < 0 then (if x5_2.length < 8796093022208 then (spec_CornerCount.l1 k2 l0 0 (x5_2 ++ [(⟨(rd_T35 y120 x9_2).f0, (rd_T35 y120 x9_2).f1⟩ : S35)]) x6_1 y120 (wrap64 (x9_2 + 1))) else (none)) else (spec_CornerCount.l1 k2 l0 0 x5_2 x6_1 y120 (wrap64 (x9_2 + 1)))) = some (r1, r2) := H
      have A16 := aM A160
      clear A160
      by_cases c17 : t124 < 0
      rotate_left
      ·rw [if_neg c17] at H
       have c17b0 : decide (t124 < 0) = false := decide_eq_false c17
       clear c17
       have H' := aM H
       clear H
       obtain ⟨Ao23, co23, eo23⟩ := Kd.R_slice HO_8.out
       subst eo23
       have p123 : 0 ≤ (x9_2 : Int) := of_decide_eq_true za
       have q123 : x9_2 < (y120.length : Int) := of_decide_eq_true za
       obtain ⟨ad123, e123, hx123_0, hx123_1⟩ := at_T35 (Kd.R_reads' HO_8.out).2.2 x9_2 p123 q123
       cases e123
       replace p123 := eq_true p123
       replace q123 := eq_true q123
       obtain ⟨Ao24, co24, eo24⟩ := Kd.R_slice HO_5.out
       subst eo24
       go_wp2_with (first | (go_at_call 17; (with_reducible refine (spec_l02Index.calls k2 _ _ x5_2 ((rd_T35 y120 x9_2).f0) ((rd_T35 y120 x9_2).f1) t124 _ ?side1 ?side2 A16.out).mono ?_); (case side1 => exact zc HO_5.out); (case side2 => exact (Kd.R_reads' HO_5.out).2.1); rintro e w25 ⟨rfl, hb⟩; have n0_ := aM (Kd.R_below (mR_ HO_5.out) hb); have n1_ := aM (Kd.R_below (mR_ HO_8.out) hb); have n2_ := aM (blk_below (g := gb119) (o := .cells #[.int .i64 ((rd_T35 l0 x6_1).f0), .int .i64 ((rd_T35 l0 x6_1).f1)] 35 (0, 0)) (mB_ BK119.out) hb); have n3_ := aM (below_step (zs GE119.out) hb); clear HO_5 HO_8 BK119 HB; have HO_5 := n0_; have HO_8 := n1_; have BK119 := n2_; have HB := n3_; clear n0_ n1_ n2_ n3_; (try clear hb); (try clear hb2); (try clear hk); (try clear hi)))
       repeat (go_quiet (first | (go_at_call 17; (try simp only [i64_w]); (with_reducible refine (spec_l02Index.calls k2 _ _ x5_2 ((rd_T35 y120 x9_2).f0) ((rd_T35 y120 x9_2).f1) t124 _ ?side1 ?side2 A16.out).mono ?_); (case side1 => exact zc HO_5.out); (case side2 => exact (Kd.R_reads' HO_5.out).2.1); rintro e w25 ⟨rfl, hb⟩; have n0_ := aM (Kd.R_below (mR_ HO_5.out) hb); have n1_ := aM (Kd.R_below (mR_ HO_8.out) hb); have n2_ := aM (blk_below (g := gb119) (o := .cells #[.int .i64 ((rd_T35 l0 x6_1).f0), .int .i64 ((rd_T35 l0 x6_1).f1)] 35 (0, 0)) (mB_ BK119.out) hb); have n3_ := aM (below_step (zs GE119.out) hb); clear HO_5 HO_8 BK119 HB; have HO_5 := n0_; have HO_8 := n1_; have BK119 := n2_; have HB := n3_; clear n0_ n1_ n2_ n3_; (try clear hb); (try clear hb2); (try clear hk); (try clear hi))); try go_wp2_with (first | (go_at_call 17; (try simp only [i64_w]); (with_reducible refine (spec_l02Index.calls k2 _ _ x5_2 ((rd_T35 y120 x9_2).f0) ((rd_T35 y120 x9_2).f1) t124 _ ?side1 ?side2 A16.out).mono ?_); (case side1 => exact zc HO_5.out); (case side2 => exact (Kd.R_reads' HO_5.out).2.1); rintro e w25 ⟨rfl, hb⟩; have n0_ := aM (Kd.R_below (mR_ HO_5.out) hb); have n1_ := aM (Kd.R_below (mR_ HO_8.out) hb); have n2_ := aM (blk_below (g := gb119) (o := .cells #[.int .i64 ((rd_T35 l0 x6_1).f0), .int .i64 ((rd_T35 l0 x6_1).f1)] 35 (0, 0)) (mB_ BK119.out) hb); have n3_ := aM (below_step (zs GE119.out) hb); clear HO_5 HO_8 BK119 HB; have HO_5 := n0_; have HO_8 := n1_; have BK119 := n2_; have HB := n3_; clear n0_ n1_ n2_ n3_; (try clear hb); (try clear hb2); (try clear hk); (try clear hi))))
       go_roundg k2
       case measure => have := HK1.out; have := HK2.out; omega
       case rel => exact ⟨(x5_2), (wrap64 (x9_2 + 1)), zr, H', ⟨by have := HK1.out; have := HK2.out; omega⟩, ⟨mR_ HO_5.out⟩, ⟨mR_ HO_8.out⟩, ⟨mB_ BK119.out⟩, ⟨zs GE119.out⟩⟩
      rw [if_pos c17] at H
      have c17b0 : decide (t124 < 0) = true := decide_eq_true c17
      clear c17
      by_cases c18 : x5_2.length < 8796093022208
      rotate_left
      ·rw [if_neg c18] at H
       exact absurd H (by simp)
      rw [if_pos c18] at H
      have LMc18 := aM c18
      clear c18
      obtain ⟨y126, hy126⟩ : ∃ y_ : List (S35), y_ = (x5_2 ++ [(⟨(rd_T35 y120 x9_2).f0, (rd_T35 y120 x9_2).f1⟩ : S35)]) := ⟨_, rfl⟩
      replace H : (spec_CornerCount.l1 k2 l0 0 y126 x6_1 y120 (wrap64 (x9_2 + 1))) = some (r1, r2) := zy H hy126
      have Ny126 := aM hy126
      clear hy126
      have H' := aM H
      clear H
      obtain ⟨Ao19, co19, eo19⟩ := Kd.R_slice HO_8.out
      subst eo19
      have p123 : 0 ≤ (x9_2 : Int) := of_decide_eq_true za
      have q123 : x9_2 < (y120.length : Int) := of_decide_eq_true za
      obtain ⟨ad123, e123, hx123_0, hx123_1⟩ := at_T35 (Kd.R_reads' HO_8.out).2.2 x9_2 p123 q123
      cases e123
      replace p123 := eq_true p123
      replace q123 := eq_true q123
      obtain ⟨Ao20, co20, eo20⟩ := Kd.R_slice HO_5.out
      subst eo20
      go_wp2_with (first | (go_at_call 17; (with_reducible refine (spec_l02Index.calls k2 _ _ x5_2 ((rd_T35 y120 x9_2).f0) ((rd_T35 y120 x9_2).f1) t124 _ ?side1 ?side2 A16.out).mono ?_); (case side1 => exact zc HO_5.out); (case side2 => exact (Kd.R_reads' HO_5.out).2.1); rintro e w21 ⟨rfl, hb⟩; have n0_ := aM (Kd.R_below (mR_ HO_5.out) hb); have n1_ := aM (Kd.R_below (mR_ HO_8.out) hb); have n2_ := aM (blk_below (g := gb119) (o := .cells #[.int .i64 ((rd_T35 l0 x6_1).f0), .int .i64 ((rd_T35 l0 x6_1).f1)] 35 (0, 0)) (mB_ BK119.out) hb); have n3_ := aM (below_step (zs GE119.out) hb); clear HO_5 HO_8 BK119 HB; have HO_5 := n0_; have HO_8 := n1_; have BK119 := n2_; have HB := n3_; clear n0_ n1_ n2_ n3_; (try clear hb); (try clear hb2); (try clear hk); (try clear hi); have p125 : 0 ≤ (x9_2 : Int) := of_decide_eq_true za; have q125 : x9_2 < (y120.length : Int) := of_decide_eq_true za; obtain ⟨ad125, e125, hx125_0, hx125_1⟩ := at_T35 (Kd.R_reads' HO_8.out).2.2 x9_2 p125 q125; obtain rfl : ad123 = ad125 := (by injection e125); replace p125 := eq_true p125; replace q125 := eq_true q125) | ((with_reducible refine gate_builtin (b := .append) (xs := #[.tmp 63, .tmp 68]) rfl ?_); at_builtin; refine Kd.R_append k35 (w0 := w) w.heap.size rfl (.tmp 63) (.tmp 68) 26 35 (.agg #[(.int .i64 0), (.int .i64 0)]) 16 rfl Try.underlying26 info35 rfl (by decide) (by omega) (.slice Ao20 x5_2.length co20) x5_2 (⟨(rd_T35 y120 x9_2).f0, (rd_T35 y120 x9_2).f1⟩ : S35) [.int .i64 ((rd_T35 y120 x9_2).f0), .int .i64 ((rd_T35 y120 x9_2).f1)] (fun k_ => some k_ ≠ (.slice (some ad123) y120.length co19 : Value).ownBlock ∧ k_ ≠ gb119) (fun _ => False) rfl rfl ?aP (fun _ hk => hk.elim) ?aF ?aO ?aB ?aS ?aL ?_; (case aP => exact k35_mkM _ _ _ (⟨(rd_T35 y120 x9_2).f0, (rd_T35 y120 x9_2).f1⟩ : S35)); (case aB => exact (zs GE119.out)); (case aF => exact (fun k_ hk => ⟨Kd.fresh' (Kd.R_lt (mR_ HO_8.out)) k_ hk, Kd.freshB (g := gb119) (o := .cells #[.int .i64 ((rd_T35 l0 x6_1).f0), .int .i64 ((rd_T35 l0 x6_1).f1)] 35 (0, 0)) (mB_ BK119.out) k_ hk⟩)); (case aO => exact (mR_ HO_5.out)); (case aS => exact (below_size (zs GE119.out))); (case aL => have := LMc18.out; omega); intro v127 w22 ho hb hg hat; rw [← Ny126.out] at ho; have n0_ := aM (Kd.R_after (ok := (fun k_ => k_ ≠ gb119)) (zd3 HO_8.out) hg hat); have n1_ := aM (blk_grown (g := gb119) (o := .cells #[.int .i64 ((rd_T35 l0 x6_1).f0), .int .i64 ((rd_T35 l0 x6_1).f1)] 35 (0, 0)) (mB_ BK119.out) hg (Kd.R_away HO_5.out (fun _ hk => hk.2))); have n2_ := aM (hb); have n3_ := aM (ho); clear HO_8 BK119 HB HO_5; have HO_8 := n0_; have BK119 := n1_; have HB := n2_; have HO128 := n3_; clear n0_ n1_ n2_ n3_; clear ho hb hg hat))
      repeat (go_quiet (first | (go_at_call 17; (try simp only [i64_w]); (with_reducible refine (spec_l02Index.calls k2 _ _ x5_2 ((rd_T35 y120 x9_2).f0) ((rd_T35 y120 x9_2).f1) t124 _ ?side1 ?side2 A16.out).mono ?_); (case side1 => exact zc HO_5.out); (case side2 => exact (Kd.R_reads' HO_5.out).2.1); rintro e w21 ⟨rfl, hb⟩; have n0_ := aM (Kd.R_below (mR_ HO_5.out) hb); have n1_ := aM (Kd.R_below (mR_ HO_8.out) hb); have n2_ := aM (blk_below (g := gb119) (o := .cells #[.int .i64 ((rd_T35 l0 x6_1).f0), .int .i64 ((rd_T35 l0 x6_1).f1)] 35 (0, 0)) (mB_ BK119.out) hb); have n3_ := aM (below_step (zs GE119.out) hb); clear HO_5 HO_8 BK119 HB; have HO_5 := n0_; have HO_8 := n1_; have BK119 := n2_; have HB := n3_; clear n0_ n1_ n2_ n3_; (try clear hb); (try clear hb2); (try clear hk); (try clear hi); have p125 : 0 ≤ (x9_2 : Int) := of_decide_eq_true za; have q125 : x9_2 < (y120.length : Int) := of_decide_eq_true za; obtain ⟨ad125, e125, hx125_0, hx125_1⟩ := at_T35 (Kd.R_reads' HO_8.out).2.2 x9_2 p125 q125; obtain rfl : ad123 = ad125 := (by injection e125); replace p125 := eq_true p125; replace q125 := eq_true q125) | ((with_reducible refine gate_builtin (b := .append) (xs := #[.tmp 63, .tmp 68]) rfl ?_); at_builtin; refine Kd.R_append k35 (w0 := w) w.heap.size rfl (.tmp 63) (.tmp 68) 26 35 (.agg #[(.int .i64 0), (.int .i64 0)]) 16 rfl Try.underlying26 info35 rfl (by decide) (by omega) (.slice Ao20 x5_2.length co20) x5_2 (⟨(rd_T35 y120 x9_2).f0, (rd_T35 y120 x9_2).f1⟩ : S35) [.int .i64 ((rd_T35 y120 x9_2).f0), .int .i64 ((rd_T35 y120 x9_2).f1)] (fun k_ => some k_ ≠ (.slice (some ad123) y120.length co19 : Value).ownBlock ∧ k_ ≠ gb119) (fun _ => False) rfl rfl ?aP (fun _ hk => hk.elim) ?aF ?aO ?aB ?aS ?aL ?_; (case aP => exact k35_mkM _ _ _ (⟨(rd_T35 y120 x9_2).f0, (rd_T35 y120 x9_2).f1⟩ : S35)); (case aB => exact (zs GE119.out)); (case aF => exact (fun k_ hk => ⟨Kd.fresh' (Kd.R_lt (mR_ HO_8.out)) k_ hk, Kd.freshB (g := gb119) (o := .cells #[.int .i64 ((rd_T35 l0 x6_1).f0), .int .i64 ((rd_T35 l0 x6_1).f1)] 35 (0, 0)) (mB_ BK119.out) k_ hk⟩)); (case aO => exact (mR_ HO_5.out)); (case aS => exact (below_size (zs GE119.out))); (case aL => have := LMc18.out; omega); intro v127 w22 ho hb hg hat; rw [← Ny126.out] at ho; have n0_ := aM (Kd.R_after (ok := (fun k_ => k_ ≠ gb119)) (zd3 HO_8.out) hg hat); have n1_ := aM (blk_grown (g := gb119) (o := .cells #[.int .i64 ((rd_T35 l0 x6_1).f0), .int .i64 ((rd_T35 l0 x6_1).f1)] 35 (0, 0)) (mB_ BK119.out) hg (Kd.R_away HO_5.out (fun _ hk => hk.2))); have n2_ := aM (hb); have n3_ := aM (ho); clear HO_8 BK119 HB HO_5; have HO_8 := n0_; have BK119 := n1_; have HB := n2_; have HO128 := n3_; clear n0_ n1_ n2_ n3_; clear ho hb hg hat)); try go_wp2_with (first | (go_at_call 17; (try simp only [i64_w]); (with_reducible refine (spec_l02Index.calls k2 _ _ x5_2 ((rd_T35 y120 x9_2).f0) ((rd_T35 y120 x9_2).f1) t124 _ ?side1 ?side2 A16.out).mono ?_); (case side1 => exact zc HO_5.out); (case side2 => exact (Kd.R_reads' HO_5.out).2.1); rintro e w21 ⟨rfl, hb⟩; have n0_ := aM (Kd.R_below (mR_ HO_5.out) hb); have n1_ := aM (Kd.R_below (mR_ HO_8.out) hb); have n2_ := aM (blk_below (g := gb119) (o := .cells #[.int .i64 ((rd_T35 l0 x6_1).f0), .int .i64 ((rd_T35 l0 x6_1).f1)] 35 (0, 0)) (mB_ BK119.out) hb); have n3_ := aM (below_step (zs GE119.out) hb); clear HO_5 HO_8 BK119 HB; have HO_5 := n0_; have HO_8 := n1_; have BK119 := n2_; have HB := n3_; clear n0_ n1_ n2_ n3_; (try clear hb); (try clear hb2); (try clear hk); (try clear hi); have p125 : 0 ≤ (x9_2 : Int) := of_decide_eq_true za; have q125 : x9_2 < (y120.length : Int) := of_decide_eq_true za; obtain ⟨ad125, e125, hx125_0, hx125_1⟩ := at_T35 (Kd.R_reads' HO_8.out).2.2 x9_2 p125 q125; obtain rfl : ad123 = ad125 := (by injection e125); replace p125 := eq_true p125; replace q125 := eq_true q125) | ((with_reducible refine gate_builtin (b := .append) (xs := #[.tmp 63, .tmp 68]) rfl ?_); at_builtin; refine Kd.R_append k35 (w0 := w) w.heap.size rfl (.tmp 63) (.tmp 68) 26 35 (.agg #[(.int .i64 0), (.int .i64 0)]) 16 rfl Try.underlying26 info35 rfl (by decide) (by omega) (.slice Ao20 x5_2.length co20) x5_2 (⟨(rd_T35 y120 x9_2).f0, (rd_T35 y120 x9_2).f1⟩ : S35) [.int .i64 ((rd_T35 y120 x9_2).f0), .int .i64 ((rd_T35 y120 x9_2).f1)] (fun k_ => some k_ ≠ (.slice (some ad123) y120.length co19 : Value).ownBlock ∧ k_ ≠ gb119) (fun _ => False) rfl rfl ?aP (fun _ hk => hk.elim) ?aF ?aO ?aB ?aS ?aL ?_; (case aP => exact k35_mkM _ _ _ (⟨(rd_T35 y120 x9_2).f0, (rd_T35 y120 x9_2).f1⟩ : S35)); (case aB => exact (zs GE119.out)); (case aF => exact (fun k_ hk => ⟨Kd.fresh' (Kd.R_lt (mR_ HO_8.out)) k_ hk, Kd.freshB (g := gb119) (o := .cells #[.int .i64 ((rd_T35 l0 x6_1).f0), .int .i64 ((rd_T35 l0 x6_1).f1)] 35 (0, 0)) (mB_ BK119.out) k_ hk⟩)); (case aO => exact (mR_ HO_5.out)); (case aS => exact (below_size (zs GE119.out))); (case aL => have := LMc18.out; omega); intro v127 w22 ho hb hg hat; rw [← Ny126.out] at ho; have n0_ := aM (Kd.R_after (ok := (fun k_ => k_ ≠ gb119)) (zd3 HO_8.out) hg hat); have n1_ := aM (blk_grown (g := gb119) (o := .cells #[.int .i64 ((rd_T35 l0 x6_1).f0), .int .i64 ((rd_T35 l0 x6_1).f1)] 35 (0, 0)) (mB_ BK119.out) hg (Kd.R_away HO_5.out (fun _ hk => hk.2))); have n2_ := aM (hb); have n3_ := aM (ho); clear HO_8 BK119 HB HO_5; have HO_8 := n0_; have BK119 := n1_; have HB := n2_; have HO128 := n3_; clear n0_ n1_ n2_ n3_; clear ho hb hg hat)))
      go_roundg k2
      case measure => have := HK1.out; have := HK2.out; omega
      case rel => exact ⟨(y126), (wrap64 (x9_2 + 1)), zr, H', ⟨by have := HK1.out; have := HK2.out; omega⟩, ⟨mR_ HO128.out⟩, ⟨zd3 HO_8.out⟩, ⟨mB_ BK119.out⟩, ⟨zs GE119.out⟩⟩
   rw [if_neg c7] at H
   have c7b0 : decide (x6_1 < (l0.length : Int)) = false := decide_eq_false c7
   clear c7
   have H' := aM H
   clear H
   go_wp2
   repeat (go_quiet (fail); try go_wp2)
   go_loopg [4, 10] k1 (fun kq v4 v10 w' => ∃ (x4_2 : Int) (x10_2 : Int), v4 = .int .i64 x4_2 ∧ v10 = .int .i64 x10_2 ∧ Aside0 (spec_CornerCount.l2 kq l0 x4_2 x5_1 x10_2 = some (r1, r2)) ∧ Aside0 (kq ≤ k1) ∧ Aside0 (Kd.R k35 35 w' w.heap.size (fun _ => True) u5 x5_1) ∧ Aside0 (Below w.heap.size w w'))
   case atStart => exact ⟨(0), (0), zr, zr, H', ⟨Nat.le_refl _⟩, ⟨mR_ HO_5.out⟩, ⟨zb⟩⟩
   case round =>
    clear H'
    try clear c1
    try clear p1
    try clear q1
    try clear hx1
    try clear c2
    try clear p2
    try clear c3
    try clear c6
    try clear p6
    try clear c7
    try clear c7b0
    try clear c8
    try clear c8b0
    try clear p11
    try clear q11
    try clear hx11
    try clear p12
    try clear q12
    try clear hx12
    try clear c13
    try clear c13b0
    try clear c14
    try clear c14b0
    try clear c15
    try clear c15b0
    try clear c17
    try clear c17b0
    try clear c18
    try clear hcz10_0
    try clear hcz10_1
    try clear hfz10_0
    try clear hfz10_1
    try clear hx118_0
    try clear hx118_1
    try clear hx123_0
    try clear hx123_1
    try clear hx125_0
    try clear hx125_1
    try clear p1
    try clear p11
    try clear p118
    try clear p123
    try clear p125
    try clear p2
    try clear p6
    try clear q1
    try clear q11
    try clear q118
    try clear q123
    try clear q125
    obtain ⟨x4_2, x10_2, rfl, rfl, HA, HK2, HO_5, HB⟩ := hrel
    cases gk with
    | zero => exact absurd HA.out (by simp [spec_CornerCount.l2])
    | succ k2 =>
     have H := HA.out
     clear HA
     simp only [spec_CornerCount.l2] at H
     by_cases c26 : x10_2 < (x5_1.length : Int)
     rotate_left
     ·rw [if_neg c26] at H
      have c26b0 : decide (x10_2 < (x5_1.length : Int)) = false := decide_eq_false c26
      clear c26
      simp only [Option.some.injEq, Prod.mk.injEq] at H
      obtain ⟨rfl, rfl⟩ := H
      obtain ⟨Ao56, co56, eo56⟩ := Kd.R_slice HO_5.out
      subst eo56
      go_wp2
      repeat (go_quiet (fail); try go_wp2)
      go_ret2
      exact ⟨zw, zb⟩
     rw [if_pos c26] at H
     have c26b0 : decide (x10_2 < (x5_1.length : Int)) = true := decide_eq_true c26
     clear c26
     by_cases c27 : 0 ≤ x10_2
     rotate_left
     ·rw [if_neg c27] at H
      exact absurd H (by simp)
     rw [if_pos c27] at H
     have c27b0 : decide (0 ≤ x10_2) = true := decide_eq_true c27
     clear c27
     obtain ⟨y131, hy131⟩ : ∃ y_ : List (S35), y_ = (([(⟨wrap64 (((rd_T35 x5_1 x10_2).f0) - 1), wrap64 (((rd_T35 x5_1 x10_2).f1) - 1)⟩ : S35), (⟨(rd_T35 x5_1 x10_2).f0, wrap64 (((rd_T35 x5_1 x10_2).f1) - 1)⟩ : S35), (⟨(rd_T35 x5_1 x10_2).f0, (rd_T35 x5_1 x10_2).f1⟩ : S35), (⟨wrap64 (((rd_T35 x5_1 x10_2).f0) - 1), (rd_T35 x5_1 x10_2).f1⟩ : S35)] : List (S35))) := ⟨_, rfl⟩
     replace H : (spec_CornerCount.l3 k2 l0 x4_2 x5_1 x10_2 y131 (([] : List Bool)) 0 0) = some (r1, r2) := zy H hy131
     have Ny131 := aM hy131
     clear hy131
     obtain ⟨y134, hy134⟩ : ∃ y_ : List Bool, y_ = (([] : List Bool)) := ⟨_, rfl⟩
     replace H : (spec_CornerCount.l3 k2 l0 x4_2 x5_1 x10_2 y131 y134 0 0) = some (r1, r2) := zy H hy134
     have Ny134 := aM hy134
     clear hy134
     have H' := aM H
     clear H
     obtain ⟨Ao28, co28, eo28⟩ := Kd.R_slice HO_5.out
     subst eo28
     have p129 : 0 ≤ (x10_2 : Int) := of_decide_eq_true za
     have q129 : x10_2 < (x5_1.length : Int) := of_decide_eq_true za
     obtain ⟨ad129, e129, hx129_0, hx129_1⟩ := at_T35 (Kd.R_reads' HO_5.out).2.2 x10_2 p129 q129
     cases e129
     replace p129 := eq_true p129
     replace q129 := eq_true q129
     go_wp2_with (first | ((with_reducible refine gate_dst (N := 11) rfl ?_); refine zx 11 #[.int .i64 0, .int .i64 0] 35 ?_; intro gb130 hg w29 hbox hb; have n0_ := aM (Kd.R_below (Kd.R_elderB (mR_ HO_5.out) gb130 (Nat.le_of_eq hg.symm)) hb); have n1_ := aM (below_step zb hb); have n2_ := aM (hbox); have n3_ := aM ((ze : w.heap.size ≤ gb130)); have n4_ := aM ((ze : w.heap.size ≤ gb130)); clear HO_5 HB; have HO_5 := n0_; have HB := n1_; have BK130 := n2_; have GW130 := n3_; have GE130 := n4_; clear n0_ n1_ n2_ n3_ n4_ hb hbox hg; have hcz30_0 : w29.cell? ⟨gb130, 0, none⟩ = some (.int .i64 0) := (blk_cell BK130.out 0).trans rfl; have hcz30_1 : w29.cell? ⟨gb130, 1, none⟩ = some (.int .i64 0) := (blk_cell BK130.out 1).trans rfl; have hfz30_0 := blk_frozen BK130.out 0; have hfz30_1 := blk_frozen BK130.out 1) | ((with_reducible refine gate_dst (N := 104) rfl ?_); refine Kd.R_lit k35 _ 35 ?hg (N := 104) ?hd (xs := ([(⟨wrap64 (((rd_T35 x5_1 x10_2).f0) - 1), wrap64 (((rd_T35 x5_1 x10_2).f1) - 1)⟩ : S35), (⟨(rd_T35 x5_1 x10_2).f0, wrap64 (((rd_T35 x5_1 x10_2).f1) - 1)⟩ : S35), (⟨(rd_T35 x5_1 x10_2).f0, (rd_T35 x5_1 x10_2).f1⟩ : S35), (⟨wrap64 (((rd_T35 x5_1 x10_2).f0) - 1), (rd_T35 x5_1 x10_2).f1⟩ : S35)] : List (S35))) (inner := [.int .i64 (wrap64 (((rd_T35 x5_1 x10_2).f0) - 1)), .int .i64 (wrap64 (((rd_T35 x5_1 x10_2).f1) - 1)), .int .i64 ((rd_T35 x5_1 x10_2).f0), .int .i64 (wrap64 (((rd_T35 x5_1 x10_2).f1) - 1)), .int .i64 ((rd_T35 x5_1 x10_2).f0), .int .i64 ((rd_T35 x5_1 x10_2).f1), .int .i64 (wrap64 (((rd_T35 x5_1 x10_2).f0) - 1)), .int .i64 ((rd_T35 x5_1 x10_2).f1)]) (ok := fun _ => True) (okp := fun _ => True) ?hr ?hp (fun _ hk => hk) trivial (Below.refl _ _) (Nat.le_refl _) (by simp) ?_; (case hd => rfl); (case hg => rfl); (case hr => first | (go_simp; done) | (go_simp; rfl)); (case hp => exact (Reps.c2 (show Kd.M k35 _ _ _ (⟨wrap64 (((rd_T35 x5_1 x10_2).f0) - 1), wrap64 (((rd_T35 x5_1 x10_2).f1) - 1)⟩ : S35) [.int .i64 (wrap64 (((rd_T35 x5_1 x10_2).f0) - 1)), .int .i64 (wrap64 (((rd_T35 x5_1 x10_2).f1) - 1))] from (k35_mkM _ _ _ (⟨wrap64 (((rd_T35 x5_1 x10_2).f0) - 1), wrap64 (((rd_T35 x5_1 x10_2).f1) - 1)⟩ : S35) )) (Reps.c2 (show Kd.M k35 _ _ _ (⟨(rd_T35 x5_1 x10_2).f0, wrap64 (((rd_T35 x5_1 x10_2).f1) - 1)⟩ : S35) [.int .i64 ((rd_T35 x5_1 x10_2).f0), .int .i64 (wrap64 (((rd_T35 x5_1 x10_2).f1) - 1))] from (k35_mkM _ _ _ (⟨(rd_T35 x5_1 x10_2).f0, wrap64 (((rd_T35 x5_1 x10_2).f1) - 1)⟩ : S35) )) (Reps.c2 (show Kd.M k35 _ _ _ (⟨(rd_T35 x5_1 x10_2).f0, (rd_T35 x5_1 x10_2).f1⟩ : S35) [.int .i64 ((rd_T35 x5_1 x10_2).f0), .int .i64 ((rd_T35 x5_1 x10_2).f1)] from (k35_mkM _ _ _ (⟨(rd_T35 x5_1 x10_2).f0, (rd_T35 x5_1 x10_2).f1⟩ : S35) )) (Reps.c2 (show Kd.M k35 _ _ _ (⟨wrap64 (((rd_T35 x5_1 x10_2).f0) - 1), (rd_T35 x5_1 x10_2).f1⟩ : S35) [.int .i64 (wrap64 (((rd_T35 x5_1 x10_2).f0) - 1)), .int .i64 ((rd_T35 x5_1 x10_2).f1)] from (k35_mkM _ _ _ (⟨wrap64 (((rd_T35 x5_1 x10_2).f0) - 1), (rd_T35 x5_1 x10_2).f1⟩ : S35) )) (Reps.none _ _)))))); intro v132 w31 ho32 hb hg_ hnew_; clear hg_ hnew_; (first | rw [← Ny131.out] at ho32 | (simp only [Int.reduceToNat] at ho32; rw [← Ny131.out] at ho32)); have n0_ := aM (Kd.R_elder' (by (with_reducible repeat (first | apply Kd.R_alloc | apply Kd.R_drewN | apply Kd.R_drew)); exact (Kd.R_mono (Kd.R_far (p := ⟨gb130, 1, none⟩) (Kd.R_far (p := ⟨gb130, 0, none⟩) (Kd.R_mono HO_5.out (fun k_ hk => (⟨hk, hk.2⟩ : _ ∧ k_ ≠ gb130))) (fun _ hk => hk.2) (.int .i64 ((rd_T35 x5_1 x10_2).f0))) (fun _ hk => hk.2) (.int .i64 ((rd_T35 x5_1 x10_2).f1))) (fun _ h_ => h_.1))) (Kd.R_base ho32) hb); have n1_ := aM (Kd.R_lower (Kd.R_newB (Kd.R_new' ho32 (Kd.R_lt (by (with_reducible repeat (first | apply Kd.R_alloc | apply Kd.R_drewN | apply Kd.R_drew)); exact (Kd.R_mono (Kd.R_far (p := ⟨gb130, 1, none⟩) (Kd.R_far (p := ⟨gb130, 0, none⟩) (Kd.R_mono HO_5.out (fun k_ hk => (⟨hk, hk.2⟩ : _ ∧ k_ ≠ gb130))) (fun _ hk => hk.2) (.int .i64 ((rd_T35 x5_1 x10_2).f0))) (fun _ hk => hk.2) (.int .i64 ((rd_T35 x5_1 x10_2).f1))) (fun _ h_ => h_.1))))) (g := gb130) (o := .cells #[.int .i64 ((rd_T35 x5_1 x10_2).f0), .int .i64 ((rd_T35 x5_1 x10_2).f1)] 35 (0, 0)) (by (with_reducible repeat (first | refine blk_drewN ?_ _ | refine blk_drew ?_ | refine blk_alloc ?_ _)); refine blk_put (cs := #[.int .i64 ((rd_T35 x5_1 x10_2).f0), .int .i64 0]) ?_ 1 _ rfl; (with_reducible repeat (first | refine blk_drewN ?_ _ | refine blk_drew ?_ | refine blk_alloc ?_ _)); refine blk_put (cs := #[.int .i64 0, .int .i64 0]) ?_ 0 _ rfl; (with_reducible repeat (first | refine blk_drewN ?_ _ | refine blk_drew ?_ | refine blk_alloc ?_ _)); exact BK130.out)) (below_size (zs GE130.out))); have n2_ := aM (blk_below (g := gb130) (o := .cells #[.int .i64 ((rd_T35 x5_1 x10_2).f0), .int .i64 ((rd_T35 x5_1 x10_2).f1)] 35 (0, 0)) (by (with_reducible repeat (first | refine blk_drewN ?_ _ | refine blk_drew ?_ | refine blk_alloc ?_ _)); refine blk_put (cs := #[.int .i64 ((rd_T35 x5_1 x10_2).f0), .int .i64 0]) ?_ 1 _ rfl; (with_reducible repeat (first | refine blk_drewN ?_ _ | refine blk_drew ?_ | refine blk_alloc ?_ _)); refine blk_put (cs := #[.int .i64 0, .int .i64 0]) ?_ 0 _ rfl; (with_reducible repeat (first | refine blk_drewN ?_ _ | refine blk_drew ?_ | refine blk_alloc ?_ _)); exact BK130.out) hb); have n3_ := aM (below_step (zs GE130.out) hb); clear HO_5 BK130 HB; have HO_5 := n0_; have HO133 := n1_; have BK130 := n2_; have HB := n3_; clear n0_ n1_ n2_ n3_; clear hb ho32) | ((with_reducible refine gate_dst (N := 105) rfl ?_); refine Kd.R_lit Kd.bool _ 4 ?hg (N := 105) ?hd (xs := ([] : List Bool)) (inner := []) (ok := fun _ => True) (okp := fun _ => True) ?hr ?hp (fun _ hk => hk) trivial (Below.refl _ _) (Nat.le_refl _) (by simp) ?_; (case hd => rfl); (case hg => rfl); (case hr => first | (go_simp; done) | (go_simp; rfl)); (case hp => exact (Reps.none _ _)); intro v135 w33 ho34 hb hg_ hnew_; clear hg_ hnew_; (first | rw [← Ny134.out] at ho34 | (simp only [Int.reduceToNat] at ho34; rw [← Ny134.out] at ho34)); have n0_ := aM (Kd.R_below (mR_ HO_5.out) hb); have n1_ := aM (Kd.R_below (mR_ HO133.out) hb); have n2_ := aM (Kd.R_lower ho34 (below_size (zs GE130.out))); have n3_ := aM (blk_below (g := gb130) (o := .cells #[.int .i64 ((rd_T35 x5_1 x10_2).f0), .int .i64 ((rd_T35 x5_1 x10_2).f1)] 35 (0, 0)) (mB_ BK130.out) hb); have n4_ := aM (below_step (zs GE130.out) hb); clear HO_5 HO133 BK130 HB; have HO_5 := n0_; have HO133 := n1_; have HO136 := n2_; have BK130 := n3_; have HB := n4_; clear n0_ n1_ n2_ n3_ n4_; clear hb ho34))
     repeat (go_quiet (first | ((with_reducible refine gate_dst (N := 11) rfl ?_); refine zx 11 #[.int .i64 0, .int .i64 0] 35 ?_; intro gb130 hg w29 hbox hb; have n0_ := aM (Kd.R_below (Kd.R_elderB (mR_ HO_5.out) gb130 (Nat.le_of_eq hg.symm)) hb); have n1_ := aM (below_step zb hb); have n2_ := aM (hbox); have n3_ := aM ((ze : w.heap.size ≤ gb130)); have n4_ := aM ((ze : w.heap.size ≤ gb130)); clear HO_5 HB; have HO_5 := n0_; have HB := n1_; have BK130 := n2_; have GW130 := n3_; have GE130 := n4_; clear n0_ n1_ n2_ n3_ n4_ hb hbox hg; have hcz30_0 : w29.cell? ⟨gb130, 0, none⟩ = some (.int .i64 0) := (blk_cell BK130.out 0).trans rfl; have hcz30_1 : w29.cell? ⟨gb130, 1, none⟩ = some (.int .i64 0) := (blk_cell BK130.out 1).trans rfl; have hfz30_0 := blk_frozen BK130.out 0; have hfz30_1 := blk_frozen BK130.out 1) | ((with_reducible refine gate_dst (N := 104) rfl ?_); refine Kd.R_lit k35 _ 35 ?hg (N := 104) ?hd (xs := ([(⟨wrap64 (((rd_T35 x5_1 x10_2).f0) - 1), wrap64 (((rd_T35 x5_1 x10_2).f1) - 1)⟩ : S35), (⟨(rd_T35 x5_1 x10_2).f0, wrap64 (((rd_T35 x5_1 x10_2).f1) - 1)⟩ : S35), (⟨(rd_T35 x5_1 x10_2).f0, (rd_T35 x5_1 x10_2).f1⟩ : S35), (⟨wrap64 (((rd_T35 x5_1 x10_2).f0) - 1), (rd_T35 x5_1 x10_2).f1⟩ : S35)] : List (S35))) (inner := [.int .i64 (wrap64 (((rd_T35 x5_1 x10_2).f0) - 1)), .int .i64 (wrap64 (((rd_T35 x5_1 x10_2).f1) - 1)), .int .i64 ((rd_T35 x5_1 x10_2).f0), .int .i64 (wrap64 (((rd_T35 x5_1 x10_2).f1) - 1)), .int .i64 ((rd_T35 x5_1 x10_2).f0), .int .i64 ((rd_T35 x5_1 x10_2).f1), .int .i64 (wrap64 (((rd_T35 x5_1 x10_2).f0) - 1)), .int .i64 ((rd_T35 x5_1 x10_2).f1)]) (ok := fun _ => True) (okp := fun _ => True) ?hr ?hp (fun _ hk => hk) trivial (Below.refl _ _) (Nat.le_refl _) (by simp) ?_; (case hd => rfl); (case hg => rfl); (case hr => first | (go_simp; done) | (go_simp; rfl)); (case hp => exact (Reps.c2 (show Kd.M k35 _ _ _ (⟨wrap64 (((rd_T35 x5_1 x10_2).f0) - 1), wrap64 (((rd_T35 x5_1 x10_2).f1) - 1)⟩ : S35) [.int .i64 (wrap64 (((rd_T35 x5_1 x10_2).f0) - 1)), .int .i64 (wrap64 (((rd_T35 x5_1 x10_2).f1) - 1))] from (k35_mkM _ _ _ (⟨wrap64 (((rd_T35 x5_1 x10_2).f0) - 1), wrap64 (((rd_T35 x5_1 x10_2).f1) - 1)⟩ : S35) )) (Reps.c2 (show Kd.M k35 _ _ _ (⟨(rd_T35 x5_1 x10_2).f0, wrap64 (((rd_T35 x5_1 x10_2).f1) - 1)⟩ : S35) [.int .i64 ((rd_T35 x5_1 x10_2).f0), .int .i64 (wrap64 (((rd_T35 x5_1 x10_2).f1) - 1))] from (k35_mkM _ _ _ (⟨(rd_T35 x5_1 x10_2).f0, wrap64 (((rd_T35 x5_1 x10_2).f1) - 1)⟩ : S35) )) (Reps.c2 (show Kd.M k35 _ _ _ (⟨(rd_T35 x5_1 x10_2).f0, (rd_T35 x5_1 x10_2).f1⟩ : S35) [.int .i64 ((rd_T35 x5_1 x10_2).f0), .int .i64 ((rd_T35 x5_1 x10_2).f1)] from (k35_mkM _ _ _ (⟨(rd_T35 x5_1 x10_2).f0, (rd_T35 x5_1 x10_2).f1⟩ : S35) )) (Reps.c2 (show Kd.M k35 _ _ _ (⟨wrap64 (((rd_T35 x5_1 x10_2).f0) - 1), (rd_T35 x5_1 x10_2).f1⟩ : S35) [.int .i64 (wrap64 (((rd_T35 x5_1 x10_2).f0) - 1)), .int .i64 ((rd_T35 x5_1 x10_2).f1)] from (k35_mkM _ _ _ (⟨wrap64 (((rd_T35 x5_1 x10_2).f0) - 1), (rd_T35 x5_1 x10_2).f1⟩ : S35) )) (Reps.none _ _)))))); intro v132 w31 ho32 hb hg_ hnew_; clear hg_ hnew_; (first | rw [← Ny131.out] at ho32 | (simp only [Int.reduceToNat] at ho32; rw [← Ny131.out] at ho32)); have n0_ := aM (Kd.R_elder' (by (with_reducible repeat (first | apply Kd.R_alloc | apply Kd.R_drewN | apply Kd.R_drew)); exact (Kd.R_mono (Kd.R_far (p := ⟨gb130, 1, none⟩) (Kd.R_far (p := ⟨gb130, 0, none⟩) (Kd.R_mono HO_5.out (fun k_ hk => (⟨hk, hk.2⟩ : _ ∧ k_ ≠ gb130))) (fun _ hk => hk.2) (.int .i64 ((rd_T35 x5_1 x10_2).f0))) (fun _ hk => hk.2) (.int .i64 ((rd_T35 x5_1 x10_2).f1))) (fun _ h_ => h_.1))) (Kd.R_base ho32) hb); have n1_ := aM (Kd.R_lower (Kd.R_newB (Kd.R_new' ho32 (Kd.R_lt (by (with_reducible repeat (first | apply Kd.R_alloc | apply Kd.R_drewN | apply Kd.R_drew)); exact (Kd.R_mono (Kd.R_far (p := ⟨gb130, 1, none⟩) (Kd.R_far (p := ⟨gb130, 0, none⟩) (Kd.R_mono HO_5.out (fun k_ hk => (⟨hk, hk.2⟩ : _ ∧ k_ ≠ gb130))) (fun _ hk => hk.2) (.int .i64 ((rd_T35 x5_1 x10_2).f0))) (fun _ hk => hk.2) (.int .i64 ((rd_T35 x5_1 x10_2).f1))) (fun _ h_ => h_.1))))) (g := gb130) (o := .cells #[.int .i64 ((rd_T35 x5_1 x10_2).f0), .int .i64 ((rd_T35 x5_1 x10_2).f1)] 35 (0, 0)) (by (with_reducible repeat (first | refine blk_drewN ?_ _ | refine blk_drew ?_ | refine blk_alloc ?_ _)); refine blk_put (cs := #[.int .i64 ((rd_T35 x5_1 x10_2).f0), .int .i64 0]) ?_ 1 _ rfl; (with_reducible repeat (first | refine blk_drewN ?_ _ | refine blk_drew ?_ | refine blk_alloc ?_ _)); refine blk_put (cs := #[.int .i64 0, .int .i64 0]) ?_ 0 _ rfl; (with_reducible repeat (first | refine blk_drewN ?_ _ | refine blk_drew ?_ | refine blk_alloc ?_ _)); exact BK130.out)) (below_size (zs GE130.out))); have n2_ := aM (blk_below (g := gb130) (o := .cells #[.int .i64 ((rd_T35 x5_1 x10_2).f0), .int .i64 ((rd_T35 x5_1 x10_2).f1)] 35 (0, 0)) (by (with_reducible repeat (first | refine blk_drewN ?_ _ | refine blk_drew ?_ | refine blk_alloc ?_ _)); refine blk_put (cs := #[.int .i64 ((rd_T35 x5_1 x10_2).f0), .int .i64 0]) ?_ 1 _ rfl; (with_reducible repeat (first | refine blk_drewN ?_ _ | refine blk_drew ?_ | refine blk_alloc ?_ _)); refine blk_put (cs := #[.int .i64 0, .int .i64 0]) ?_ 0 _ rfl; (with_reducible repeat (first | refine blk_drewN ?_ _ | refine blk_drew ?_ | refine blk_alloc ?_ _)); exact BK130.out) hb); have n3_ := aM (below_step (zs GE130.out) hb); clear HO_5 BK130 HB; have HO_5 := n0_; have HO133 := n1_; have BK130 := n2_; have HB := n3_; clear n0_ n1_ n2_ n3_; clear hb ho32) | ((with_reducible refine gate_dst (N := 105) rfl ?_); refine Kd.R_lit Kd.bool _ 4 ?hg (N := 105) ?hd (xs := ([] : List Bool)) (inner := []) (ok := fun _ => True) (okp := fun _ => True) ?hr ?hp (fun _ hk => hk) trivial (Below.refl _ _) (Nat.le_refl _) (by simp) ?_; (case hd => rfl); (case hg => rfl); (case hr => first | (go_simp; done) | (go_simp; rfl)); (case hp => exact (Reps.none _ _)); intro v135 w33 ho34 hb hg_ hnew_; clear hg_ hnew_; (first | rw [← Ny134.out] at ho34 | (simp only [Int.reduceToNat] at ho34; rw [← Ny134.out] at ho34)); have n0_ := aM (Kd.R_below (mR_ HO_5.out) hb); have n1_ := aM (Kd.R_below (mR_ HO133.out) hb); have n2_ := aM (Kd.R_lower ho34 (below_size (zs GE130.out))); have n3_ := aM (blk_below (g := gb130) (o := .cells #[.int .i64 ((rd_T35 x5_1 x10_2).f0), .int .i64 ((rd_T35 x5_1 x10_2).f1)] 35 (0, 0)) (mB_ BK130.out) hb); have n4_ := aM (below_step (zs GE130.out) hb); clear HO_5 HO133 BK130 HB; have HO_5 := n0_; have HO133 := n1_; have HO136 := n2_; have BK130 := n3_; have HB := n4_; clear n0_ n1_ n2_ n3_ n4_; clear hb ho34)); try go_wp2_with (first | ((with_reducible refine gate_dst (N := 11) rfl ?_); refine zx 11 #[.int .i64 0, .int .i64 0] 35 ?_; intro gb130 hg w29 hbox hb; have n0_ := aM (Kd.R_below (Kd.R_elderB (mR_ HO_5.out) gb130 (Nat.le_of_eq hg.symm)) hb); have n1_ := aM (below_step zb hb); have n2_ := aM (hbox); have n3_ := aM ((ze : w.heap.size ≤ gb130)); have n4_ := aM ((ze : w.heap.size ≤ gb130)); clear HO_5 HB; have HO_5 := n0_; have HB := n1_; have BK130 := n2_; have GW130 := n3_; have GE130 := n4_; clear n0_ n1_ n2_ n3_ n4_ hb hbox hg; have hcz30_0 : w29.cell? ⟨gb130, 0, none⟩ = some (.int .i64 0) := (blk_cell BK130.out 0).trans rfl; have hcz30_1 : w29.cell? ⟨gb130, 1, none⟩ = some (.int .i64 0) := (blk_cell BK130.out 1).trans rfl; have hfz30_0 := blk_frozen BK130.out 0; have hfz30_1 := blk_frozen BK130.out 1) | ((with_reducible refine gate_dst (N := 104) rfl ?_); refine Kd.R_lit k35 _ 35 ?hg (N := 104) ?hd (xs := ([(⟨wrap64 (((rd_T35 x5_1 x10_2).f0) - 1), wrap64 (((rd_T35 x5_1 x10_2).f1) - 1)⟩ : S35), (⟨(rd_T35 x5_1 x10_2).f0, wrap64 (((rd_T35 x5_1 x10_2).f1) - 1)⟩ : S35), (⟨(rd_T35 x5_1 x10_2).f0, (rd_T35 x5_1 x10_2).f1⟩ : S35), (⟨wrap64 (((rd_T35 x5_1 x10_2).f0) - 1), (rd_T35 x5_1 x10_2).f1⟩ : S35)] : List (S35))) (inner := [.int .i64 (wrap64 (((rd_T35 x5_1 x10_2).f0) - 1)), .int .i64 (wrap64 (((rd_T35 x5_1 x10_2).f1) - 1)), .int .i64 ((rd_T35 x5_1 x10_2).f0), .int .i64 (wrap64 (((rd_T35 x5_1 x10_2).f1) - 1)), .int .i64 ((rd_T35 x5_1 x10_2).f0), .int .i64 ((rd_T35 x5_1 x10_2).f1), .int .i64 (wrap64 (((rd_T35 x5_1 x10_2).f0) - 1)), .int .i64 ((rd_T35 x5_1 x10_2).f1)]) (ok := fun _ => True) (okp := fun _ => True) ?hr ?hp (fun _ hk => hk) trivial (Below.refl _ _) (Nat.le_refl _) (by simp) ?_; (case hd => rfl); (case hg => rfl); (case hr => first | (go_simp; done) | (go_simp; rfl)); (case hp => exact (Reps.c2 (show Kd.M k35 _ _ _ (⟨wrap64 (((rd_T35 x5_1 x10_2).f0) - 1), wrap64 (((rd_T35 x5_1 x10_2).f1) - 1)⟩ : S35) [.int .i64 (wrap64 (((rd_T35 x5_1 x10_2).f0) - 1)), .int .i64 (wrap64 (((rd_T35 x5_1 x10_2).f1) - 1))] from (k35_mkM _ _ _ (⟨wrap64 (((rd_T35 x5_1 x10_2).f0) - 1), wrap64 (((rd_T35 x5_1 x10_2).f1) - 1)⟩ : S35) )) (Reps.c2 (show Kd.M k35 _ _ _ (⟨(rd_T35 x5_1 x10_2).f0, wrap64 (((rd_T35 x5_1 x10_2).f1) - 1)⟩ : S35) [.int .i64 ((rd_T35 x5_1 x10_2).f0), .int .i64 (wrap64 (((rd_T35 x5_1 x10_2).f1) - 1))] from (k35_mkM _ _ _ (⟨(rd_T35 x5_1 x10_2).f0, wrap64 (((rd_T35 x5_1 x10_2).f1) - 1)⟩ : S35) )) (Reps.c2 (show Kd.M k35 _ _ _ (⟨(rd_T35 x5_1 x10_2).f0, (rd_T35 x5_1 x10_2).f1⟩ : S35) [.int .i64 ((rd_T35 x5_1 x10_2).f0), .int .i64 ((rd_T35 x5_1 x10_2).f1)] from (k35_mkM _ _ _ (⟨(rd_T35 x5_1 x10_2).f0, (rd_T35 x5_1 x10_2).f1⟩ : S35) )) (Reps.c2 (show Kd.M k35 _ _ _ (⟨wrap64 (((rd_T35 x5_1 x10_2).f0) - 1), (rd_T35 x5_1 x10_2).f1⟩ : S35) [.int .i64 (wrap64 (((rd_T35 x5_1 x10_2).f0) - 1)), .int .i64 ((rd_T35 x5_1 x10_2).f1)] from (k35_mkM _ _ _ (⟨wrap64 (((rd_T35 x5_1 x10_2).f0) - 1), (rd_T35 x5_1 x10_2).f1⟩ : S35) )) (Reps.none _ _)))))); intro v132 w31 ho32 hb hg_ hnew_; clear hg_ hnew_; (first | rw [← Ny131.out] at ho32 | (simp only [Int.reduceToNat] at ho32; rw [← Ny131.out] at ho32)); have n0_ := aM (Kd.R_elder' (by (with_reducible repeat (first | apply Kd.R_alloc | apply Kd.R_drewN | apply Kd.R_drew)); exact (Kd.R_mono (Kd.R_far (p := ⟨gb130, 1, none⟩) (Kd.R_far (p := ⟨gb130, 0, none⟩) (Kd.R_mono HO_5.out (fun k_ hk => (⟨hk, hk.2⟩ : _ ∧ k_ ≠ gb130))) (fun _ hk => hk.2) (.int .i64 ((rd_T35 x5_1 x10_2).f0))) (fun _ hk => hk.2) (.int .i64 ((rd_T35 x5_1 x10_2).f1))) (fun _ h_ => h_.1))) (Kd.R_base ho32) hb); have n1_ := aM (Kd.R_lower (Kd.R_newB (Kd.R_new' ho32 (Kd.R_lt (by (with_reducible repeat (first | apply Kd.R_alloc | apply Kd.R_drewN | apply Kd.R_drew)); exact (Kd.R_mono (Kd.R_far (p := ⟨gb130, 1, none⟩) (Kd.R_far (p := ⟨gb130, 0, none⟩) (Kd.R_mono HO_5.out (fun k_ hk => (⟨hk, hk.2⟩ : _ ∧ k_ ≠ gb130))) (fun _ hk => hk.2) (.int .i64 ((rd_T35 x5_1 x10_2).f0))) (fun _ hk => hk.2) (.int .i64 ((rd_T35 x5_1 x10_2).f1))) (fun _ h_ => h_.1))))) (g := gb130) (o := .cells #[.int .i64 ((rd_T35 x5_1 x10_2).f0), .int .i64 ((rd_T35 x5_1 x10_2).f1)] 35 (0, 0)) (by (with_reducible repeat (first | refine blk_drewN ?_ _ | refine blk_drew ?_ | refine blk_alloc ?_ _)); refine blk_put (cs := #[.int .i64 ((rd_T35 x5_1 x10_2).f0), .int .i64 0]) ?_ 1 _ rfl; (with_reducible repeat (first | refine blk_drewN ?_ _ | refine blk_drew ?_ | refine blk_alloc ?_ _)); refine blk_put (cs := #[.int .i64 0, .int .i64 0]) ?_ 0 _ rfl; (with_reducible repeat (first | refine blk_drewN ?_ _ | refine blk_drew ?_ | refine blk_alloc ?_ _)); exact BK130.out)) (below_size (zs GE130.out))); have n2_ := aM (blk_below (g := gb130) (o := .cells #[.int .i64 ((rd_T35 x5_1 x10_2).f0), .int .i64 ((rd_T35 x5_1 x10_2).f1)] 35 (0, 0)) (by (with_reducible repeat (first | refine blk_drewN ?_ _ | refine blk_drew ?_ | refine blk_alloc ?_ _)); refine blk_put (cs := #[.int .i64 ((rd_T35 x5_1 x10_2).f0), .int .i64 0]) ?_ 1 _ rfl; (with_reducible repeat (first | refine blk_drewN ?_ _ | refine blk_drew ?_ | refine blk_alloc ?_ _)); refine blk_put (cs := #[.int .i64 0, .int .i64 0]) ?_ 0 _ rfl; (with_reducible repeat (first | refine blk_drewN ?_ _ | refine blk_drew ?_ | refine blk_alloc ?_ _)); exact BK130.out) hb); have n3_ := aM (below_step (zs GE130.out) hb); clear HO_5 BK130 HB; have HO_5 := n0_; have HO133 := n1_; have BK130 := n2_; have HB := n3_; clear n0_ n1_ n2_ n3_; clear hb ho32) | ((with_reducible refine gate_dst (N := 105) rfl ?_); refine Kd.R_lit Kd.bool _ 4 ?hg (N := 105) ?hd (xs := ([] : List Bool)) (inner := []) (ok := fun _ => True) (okp := fun _ => True) ?hr ?hp (fun _ hk => hk) trivial (Below.refl _ _) (Nat.le_refl _) (by simp) ?_; (case hd => rfl); (case hg => rfl); (case hr => first | (go_simp; done) | (go_simp; rfl)); (case hp => exact (Reps.none _ _)); intro v135 w33 ho34 hb hg_ hnew_; clear hg_ hnew_; (first | rw [← Ny134.out] at ho34 | (simp only [Int.reduceToNat] at ho34; rw [← Ny134.out] at ho34)); have n0_ := aM (Kd.R_below (mR_ HO_5.out) hb); have n1_ := aM (Kd.R_below (mR_ HO133.out) hb); have n2_ := aM (Kd.R_lower ho34 (below_size (zs GE130.out))); have n3_ := aM (blk_below (g := gb130) (o := .cells #[.int .i64 ((rd_T35 x5_1 x10_2).f0), .int .i64 ((rd_T35 x5_1 x10_2).f1)] 35 (0, 0)) (mB_ BK130.out) hb); have n4_ := aM (below_step (zs GE130.out) hb); clear HO_5 HO133 BK130 HB; have HO_5 := n0_; have HO133 := n1_; have HO136 := n2_; have BK130 := n3_; have HB := n4_; clear n0_ n1_ n2_ n3_ n4_; clear hb ho34)))
     go_loopg [13, 14, 15] k2 (fun kq v13 v14 v15 w' => ∃ (x13_3 : List Bool) (x14_3 : Int) (x15_3 : Int), v14 = .int .i64 x14_3 ∧ v15 = .int .i64 x15_3 ∧ Aside0 (spec_CornerCount.l3 kq l0 x4_2 x5_1 x10_2 y131 x13_3 x14_3 x15_3 = some (r1, r2)) ∧ Aside0 (kq ≤ k2) ∧ Aside0 (Kd.R k35 35 w' w.heap.size (fun k_ => some k_ ≠ (v132 : Value).ownBlock ∧ k_ ≠ gb130) (.slice (some ad129) x5_1.length co28) x5_1) ∧ Aside0 (Kd.R k35 35 w' w.heap.size (fun k_ => some k_ ≠ ((.slice (some ad129) x5_1.length co28) : Value).ownBlock ∧ k_ ≠ gb130) v132 y131) ∧ Aside0 (Kd.R Kd.bool 4 w' w.heap.size (fun _ => True) v13 x13_3) ∧ Aside0 (w'.heap[gb130]? = some (.cells #[.int .i64 ((rd_T35 x5_1 x10_2).f0), .int .i64 ((rd_T35 x5_1 x10_2).f1)] 35 (0, 0))) ∧ Aside0 (Below w.heap.size w w'))
     case atStart => exact ⟨(y134), (0), (0), zr, zr, H', ⟨Nat.le_refl _⟩, ⟨zd0 HO_5.out⟩, ⟨zd1 HO133.out⟩, ⟨mR_ HO136.out⟩, ⟨mB_ BK130.out⟩, ⟨zs GE130.out⟩⟩
     case round =>
      clear H'
      try clear c1
      try clear p1
      try clear q1
      try clear hx1
      try clear c2
      try clear p2
      try clear c3
      try clear c6
      try clear p6
      try clear c7
      try clear c7b0
      try clear c8
      try clear c8b0
      try clear p11
      try clear q11
      try clear hx11
      try clear p12
      try clear q12
      try clear hx12
      try clear c13
      try clear c13b0
      try clear c14
      try clear c14b0
      try clear c15
      try clear c15b0
      try clear c17
      try clear c17b0
      try clear c18
      try clear c26
      try clear c26b0
      try clear c27
      try clear c27b0
      try clear hcz10_0
      try clear hcz10_1
      try clear hcz30_0
      try clear hcz30_1
      try clear hfz10_0
      try clear hfz10_1
      try clear hfz30_0
      try clear hfz30_1
      try clear hx118_0
      try clear hx118_1
      try clear hx123_0
      try clear hx123_1
      try clear hx125_0
      try clear hx125_1
      try clear hx129_0
      try clear hx129_1
      try clear p1
      try clear p11
      try clear p118
      try clear p12
      try clear p123
      try clear p125
      try clear p129
      try clear p2
      try clear p6
      try clear q1
      try clear q11
      try clear q118
      try clear q12
      try clear q123
      try clear q125
      try clear q129
      obtain ⟨x13_3, x14_3, x15_3, rfl, rfl, HA, HK3, HO_5, HO_12, HO_13, BK130, HB⟩ := hrel
      cases gk with
      | zero => exact absurd HA.out (by simp [spec_CornerCount.l3])
      | succ k3 =>
       have H := HA.out
       clear HA
       simp only [spec_CornerCount.l3] at H
       by_cases c35 : x15_3 < 4
       ·rw [if_pos c35] at H
        have c35b0 : decide (x15_3 < 4) = true := decide_eq_true c35
        clear c35
        by_cases c36 : 0 ≤ x15_3
        rotate_left
        ·rw [if_neg c36] at H
         exact absurd H (by simp)
        rw [if_pos c36] at H
        have c36b0 : decide (0 ≤ x15_3) = true := decide_eq_true c36
        clear c36
        by_cases c37 : x15_3 < (y131.length : Int)
        rotate_left
        ·rw [if_neg c37] at H
         exact absurd H (by simp)
        rw [if_pos c37] at H
        have c37b0 : decide (x15_3 < (y131.length : Int)) = true := decide_eq_true c37
        clear c37
        replace H := Option.bind_eq_some_iff.mp H
        obtain ⟨t138, A380, H⟩ := H
        replace H : (if x13_3.length < 140737488355328 then ((some (x13_3 ++ [decide (t138 ≥ 0)] : List Bool)).bind fun y139 => (if t138 ≥ 0 then (spec_CornerCount.l3 k3 l0 x4_2 x5_1 x10_2 y131 y139 (wrap64 (x14_3 + 1)) (wrap64 (x15_3 + 1))) else (spec_CornerCount.l3 k3 l0 x4_2 x5_1 x10_2 y131 y139 x14_3 (wrap64 (x15_3 + 1))))) else (none)) = some (r1, r2) := H
        have A38 := aM A380
        clear A380
        by_cases c39 : x13_3.length < 140737488355328
        rotate_left
        ·rw [if_neg c39] at H
         exact absurd H (by simp)
        rw [if_pos c39] at H
        have LMc39 := aM c39
        clear c39
        obtain ⟨y139, hy139⟩ : ∃ y_ : List Bool, y_ = (x13_3 ++ [decide (t138 ≥ 0)]) := ⟨_, rfl⟩
        replace H : (if t138 ≥ 0 then (spec_CornerCount.l3 k3 l0 x4_2 x5_1 x10_2 y131 y139 (wrap64 (x14_3 + 1)) (wrap64 (x15_3 + 1))) else (spec_CornerCount.l3 k3 l0 x4_2 x5_1 x10_2 y131 y139 x14_3 (wrap64 (x15_3 + 1)))) = some (r1, r2) := zy H hy139
        have Ny139 := aM hy139
        clear hy139
        by_cases c40 : t138 ≥ 0
        ·rw [if_pos c40] at H
         have c40b0 : decide (0 ≤ t138) = true := decide_eq_true c40
         replace Ny139 := aM (Ny139.out.trans (by rw [show decide (t138 ≥ 0) = true from c40b0]))
         clear c40
         have H' := aM H
         clear H
         obtain ⟨Ao41, co41, eo41⟩ := Kd.R_slice HO_12.out
         subst eo41
         have p137 : 0 ≤ (x15_3 : Int) := of_decide_eq_true za
         have q137 : x15_3 < (y131.length : Int) := of_decide_eq_true za
         obtain ⟨ad137, e137, hx137_0, hx137_1⟩ := at_T35 (Kd.R_reads' HO_12.out).2.2 x15_3 p137 q137
         cases e137
         replace p137 := eq_true p137
         replace q137 := eq_true q137
         go_wp2_with (first | (go_at_call 17; (with_reducible refine (spec_l02Index.calls k3 _ _ l0 ((rd_T35 y131 x15_3).f0) ((rd_T35 y131 x15_3).f1) t138 _ ?side1 ?side2 A38.out).mono ?_); (case side1 => repeat (first | exact (Kd.C_below HR0.out HB.out) | (with_reducible refine Kd.C_alloc ?_ _) | (with_reducible refine Kd.C_drewN ?_ _) | (with_reducible refine Kd.C_drew ?_))); (case side2 => exact HC0.out); rintro e w42 ⟨rfl, hb⟩; have n0_ := aM (Kd.R_below (mR_ HO_5.out) hb); have n1_ := aM (Kd.R_below (mR_ HO_12.out) hb); have n2_ := aM (Kd.R_below (mR_ HO_13.out) hb); have n3_ := aM (blk_below (g := gb130) (o := .cells #[.int .i64 ((rd_T35 x5_1 x10_2).f0), .int .i64 ((rd_T35 x5_1 x10_2).f1)] 35 (0, 0)) (mB_ BK130.out) hb); have n4_ := aM (below_step (zs GE130.out) hb); clear HO_5 HO_12 HO_13 BK130 HB; have HO_5 := n0_; have HO_12 := n1_; have HO_13 := n2_; have BK130 := n3_; have HB := n4_; clear n0_ n1_ n2_ n3_ n4_; (try clear hb); (try clear hb2); (try clear hk); (try clear hi)) | ((with_reducible refine gate_builtin (b := .append) (xs := #[.tmp 117, .tmp 119]) rfl ?_); at_builtin; refine Kd.R_append Kd.bool (w0 := w) w.heap.size rfl (.tmp 117) (.tmp 119) 37 4 (.bool false) 1 rfl Try.underlying37 info4 rfl (by decide) (by omega) u13 x13_3 (true) [.bool (true)] (fun _ => True) (fun _ => False) rfl rfl ?aP (fun _ hk => hk.elim) ?aF ?aO ?aB ?aS ?aL ?_; (case aP => exact rfl); (case aB => exact (zs GE130.out)); (case aF => exact (fun _ _ => trivial)); (case aO => exact (mR_ HO_13.out)); (case aS => exact (below_size (zs GE130.out))); (case aL => have := LMc39.out; omega); intro v140 w43 ho hb hg hat; rw [← Ny139.out] at ho; have n0_ := aM (Kd.R_over' (mR_ HO_5.out) (Kd.R_typed (mR_ HO_13.out)) (by decide) hg); have n1_ := aM (Kd.R_over' (mR_ HO_12.out) (Kd.R_typed (mR_ HO_13.out)) (by decide) hg); have n2_ := aM (blk_grown (g := gb130) (o := .cells #[.int .i64 ((rd_T35 x5_1 x10_2).f0), .int .i64 ((rd_T35 x5_1 x10_2).f1)] 35 (0, 0)) (mB_ BK130.out) hg (Kd.R_ne HO_13.out BK130.out (by decide))); have n3_ := aM (hb); have n4_ := aM (ho); clear HO_5 HO_12 BK130 HB HO_13; have HO_5 := n0_; have HO_12 := n1_; have BK130 := n2_; have HB := n3_; have HO141 := n4_; clear n0_ n1_ n2_ n3_ n4_; clear ho hb hg hat))
         repeat (go_quiet (first | (go_at_call 17; (try simp only [i64_w]); (with_reducible refine (spec_l02Index.calls k3 _ _ l0 ((rd_T35 y131 x15_3).f0) ((rd_T35 y131 x15_3).f1) t138 _ ?side1 ?side2 A38.out).mono ?_); (case side1 => repeat (first | exact (Kd.C_below HR0.out HB.out) | (with_reducible refine Kd.C_alloc ?_ _) | (with_reducible refine Kd.C_drewN ?_ _) | (with_reducible refine Kd.C_drew ?_))); (case side2 => exact HC0.out); rintro e w42 ⟨rfl, hb⟩; have n0_ := aM (Kd.R_below (mR_ HO_5.out) hb); have n1_ := aM (Kd.R_below (mR_ HO_12.out) hb); have n2_ := aM (Kd.R_below (mR_ HO_13.out) hb); have n3_ := aM (blk_below (g := gb130) (o := .cells #[.int .i64 ((rd_T35 x5_1 x10_2).f0), .int .i64 ((rd_T35 x5_1 x10_2).f1)] 35 (0, 0)) (mB_ BK130.out) hb); have n4_ := aM (below_step (zs GE130.out) hb); clear HO_5 HO_12 HO_13 BK130 HB; have HO_5 := n0_; have HO_12 := n1_; have HO_13 := n2_; have BK130 := n3_; have HB := n4_; clear n0_ n1_ n2_ n3_ n4_; (try clear hb); (try clear hb2); (try clear hk); (try clear hi)) | ((with_reducible refine gate_builtin (b := .append) (xs := #[.tmp 117, .tmp 119]) rfl ?_); at_builtin; refine Kd.R_append Kd.bool (w0 := w) w.heap.size rfl (.tmp 117) (.tmp 119) 37 4 (.bool false) 1 rfl Try.underlying37 info4 rfl (by decide) (by omega) u13 x13_3 (true) [.bool (true)] (fun _ => True) (fun _ => False) rfl rfl ?aP (fun _ hk => hk.elim) ?aF ?aO ?aB ?aS ?aL ?_; (case aP => exact rfl); (case aB => exact (zs GE130.out)); (case aF => exact (fun _ _ => trivial)); (case aO => exact (mR_ HO_13.out)); (case aS => exact (below_size (zs GE130.out))); (case aL => have := LMc39.out; omega); intro v140 w43 ho hb hg hat; rw [← Ny139.out] at ho; have n0_ := aM (Kd.R_over' (mR_ HO_5.out) (Kd.R_typed (mR_ HO_13.out)) (by decide) hg); have n1_ := aM (Kd.R_over' (mR_ HO_12.out) (Kd.R_typed (mR_ HO_13.out)) (by decide) hg); have n2_ := aM (blk_grown (g := gb130) (o := .cells #[.int .i64 ((rd_T35 x5_1 x10_2).f0), .int .i64 ((rd_T35 x5_1 x10_2).f1)] 35 (0, 0)) (mB_ BK130.out) hg (Kd.R_ne HO_13.out BK130.out (by decide))); have n3_ := aM (hb); have n4_ := aM (ho); clear HO_5 HO_12 BK130 HB HO_13; have HO_5 := n0_; have HO_12 := n1_; have BK130 := n2_; have HB := n3_; have HO141 := n4_; clear n0_ n1_ n2_ n3_ n4_; clear ho hb hg hat)); try go_wp2_with (first | (go_at_call 17; (try simp only [i64_w]); (with_reducible refine (spec_l02Index.calls k3 _ _ l0 ((rd_T35 y131 x15_3).f0) ((rd_T35 y131 x15_3).f1) t138 _ ?side1 ?side2 A38.out).mono ?_); (case side1 => repeat (first | exact (Kd.C_below HR0.out HB.out) | (with_reducible refine Kd.C_alloc ?_ _) | (with_reducible refine Kd.C_drewN ?_ _) | (with_reducible refine Kd.C_drew ?_))); (case side2 => exact HC0.out); rintro e w42 ⟨rfl, hb⟩; have n0_ := aM (Kd.R_below (mR_ HO_5.out) hb); have n1_ := aM (Kd.R_below (mR_ HO_12.out) hb); have n2_ := aM (Kd.R_below (mR_ HO_13.out) hb); have n3_ := aM (blk_below (g := gb130) (o := .cells #[.int .i64 ((rd_T35 x5_1 x10_2).f0), .int .i64 ((rd_T35 x5_1 x10_2).f1)] 35 (0, 0)) (mB_ BK130.out) hb); have n4_ := aM (below_step (zs GE130.out) hb); clear HO_5 HO_12 HO_13 BK130 HB; have HO_5 := n0_; have HO_12 := n1_; have HO_13 := n2_; have BK130 := n3_; have HB := n4_; clear n0_ n1_ n2_ n3_ n4_; (try clear hb); (try clear hb2); (try clear hk); (try clear hi)) | ((with_reducible refine gate_builtin (b := .append) (xs := #[.tmp 117, .tmp 119]) rfl ?_); at_builtin; refine Kd.R_append Kd.bool (w0 := w) w.heap.size rfl (.tmp 117) (.tmp 119) 37 4 (.bool false) 1 rfl Try.underlying37 info4 rfl (by decide) (by omega) u13 x13_3 (true) [.bool (true)] (fun _ => True) (fun _ => False) rfl rfl ?aP (fun _ hk => hk.elim) ?aF ?aO ?aB ?aS ?aL ?_; (case aP => exact rfl); (case aB => exact (zs GE130.out)); (case aF => exact (fun _ _ => trivial)); (case aO => exact (mR_ HO_13.out)); (case aS => exact (below_size (zs GE130.out))); (case aL => have := LMc39.out; omega); intro v140 w43 ho hb hg hat; rw [← Ny139.out] at ho; have n0_ := aM (Kd.R_over' (mR_ HO_5.out) (Kd.R_typed (mR_ HO_13.out)) (by decide) hg); have n1_ := aM (Kd.R_over' (mR_ HO_12.out) (Kd.R_typed (mR_ HO_13.out)) (by decide) hg); have n2_ := aM (blk_grown (g := gb130) (o := .cells #[.int .i64 ((rd_T35 x5_1 x10_2).f0), .int .i64 ((rd_T35 x5_1 x10_2).f1)] 35 (0, 0)) (mB_ BK130.out) hg (Kd.R_ne HO_13.out BK130.out (by decide))); have n3_ := aM (hb); have n4_ := aM (ho); clear HO_5 HO_12 BK130 HB HO_13; have HO_5 := n0_; have HO_12 := n1_; have BK130 := n2_; have HB := n3_; have HO141 := n4_; clear n0_ n1_ n2_ n3_ n4_; clear ho hb hg hat)))
         go_roundg k3
         case measure => have := HK1.out; have := HK2.out; have := HK3.out; omega
         case rel => exact ⟨(y139), (wrap64 (x14_3 + 1)), (wrap64 (x15_3 + 1)), zr, zr, H', ⟨by have := HK1.out; have := HK2.out; have := HK3.out; omega⟩, ⟨mR_ HO_5.out⟩, ⟨mR_ HO_12.out⟩, ⟨mR_ HO141.out⟩, ⟨mB_ BK130.out⟩, ⟨zs GE130.out⟩⟩
        rw [if_neg c40] at H
        have c40b0 : decide (0 ≤ t138) = false := decide_eq_false c40
        replace Ny139 := aM (Ny139.out.trans (by rw [show decide (t138 ≥ 0) = false from c40b0]))
        clear c40
        have H' := aM H
        clear H
        obtain ⟨Ao44, co44, eo44⟩ := Kd.R_slice HO_12.out
        subst eo44
        have p137 : 0 ≤ (x15_3 : Int) := of_decide_eq_true za
        have q137 : x15_3 < (y131.length : Int) := of_decide_eq_true za
        obtain ⟨ad137, e137, hx137_0, hx137_1⟩ := at_T35 (Kd.R_reads' HO_12.out).2.2 x15_3 p137 q137
        cases e137
        replace p137 := eq_true p137
        replace q137 := eq_true q137
        go_wp2_with (first | (go_at_call 17; (with_reducible refine (spec_l02Index.calls k3 _ _ l0 ((rd_T35 y131 x15_3).f0) ((rd_T35 y131 x15_3).f1) t138 _ ?side1 ?side2 A38.out).mono ?_); (case side1 => repeat (first | exact (Kd.C_below HR0.out HB.out) | (with_reducible refine Kd.C_alloc ?_ _) | (with_reducible refine Kd.C_drewN ?_ _) | (with_reducible refine Kd.C_drew ?_))); (case side2 => exact HC0.out); rintro e w45 ⟨rfl, hb⟩; have n0_ := aM (Kd.R_below (mR_ HO_5.out) hb); have n1_ := aM (Kd.R_below (mR_ HO_12.out) hb); have n2_ := aM (Kd.R_below (mR_ HO_13.out) hb); have n3_ := aM (blk_below (g := gb130) (o := .cells #[.int .i64 ((rd_T35 x5_1 x10_2).f0), .int .i64 ((rd_T35 x5_1 x10_2).f1)] 35 (0, 0)) (mB_ BK130.out) hb); have n4_ := aM (below_step (zs GE130.out) hb); clear HO_5 HO_12 HO_13 BK130 HB; have HO_5 := n0_; have HO_12 := n1_; have HO_13 := n2_; have BK130 := n3_; have HB := n4_; clear n0_ n1_ n2_ n3_ n4_; (try clear hb); (try clear hb2); (try clear hk); (try clear hi)) | ((with_reducible refine gate_builtin (b := .append) (xs := #[.tmp 117, .tmp 119]) rfl ?_); at_builtin; refine Kd.R_append Kd.bool (w0 := w) w.heap.size rfl (.tmp 117) (.tmp 119) 37 4 (.bool false) 1 rfl Try.underlying37 info4 rfl (by decide) (by omega) u13 x13_3 (false) [.bool (false)] (fun _ => True) (fun _ => False) rfl rfl ?aP (fun _ hk => hk.elim) ?aF ?aO ?aB ?aS ?aL ?_; (case aP => exact rfl); (case aB => exact (zs GE130.out)); (case aF => exact (fun _ _ => trivial)); (case aO => exact (mR_ HO_13.out)); (case aS => exact (below_size (zs GE130.out))); (case aL => have := LMc39.out; omega); intro v140 w46 ho hb hg hat; rw [← Ny139.out] at ho; have n0_ := aM (Kd.R_over' (mR_ HO_5.out) (Kd.R_typed (mR_ HO_13.out)) (by decide) hg); have n1_ := aM (Kd.R_over' (mR_ HO_12.out) (Kd.R_typed (mR_ HO_13.out)) (by decide) hg); have n2_ := aM (blk_grown (g := gb130) (o := .cells #[.int .i64 ((rd_T35 x5_1 x10_2).f0), .int .i64 ((rd_T35 x5_1 x10_2).f1)] 35 (0, 0)) (mB_ BK130.out) hg (Kd.R_ne HO_13.out BK130.out (by decide))); have n3_ := aM (hb); have n4_ := aM (ho); clear HO_5 HO_12 BK130 HB HO_13; have HO_5 := n0_; have HO_12 := n1_; have BK130 := n2_; have HB := n3_; have HO141 := n4_; clear n0_ n1_ n2_ n3_ n4_; clear ho hb hg hat))
        repeat (go_quiet (first | (go_at_call 17; (try simp only [i64_w]); (with_reducible refine (spec_l02Index.calls k3 _ _ l0 ((rd_T35 y131 x15_3).f0) ((rd_T35 y131 x15_3).f1) t138 _ ?side1 ?side2 A38.out).mono ?_); (case side1 => repeat (first | exact (Kd.C_below HR0.out HB.out) | (with_reducible refine Kd.C_alloc ?_ _) | (with_reducible refine Kd.C_drewN ?_ _) | (with_reducible refine Kd.C_drew ?_))); (case side2 => exact HC0.out); rintro e w45 ⟨rfl, hb⟩; have n0_ := aM (Kd.R_below (mR_ HO_5.out) hb); have n1_ := aM (Kd.R_below (mR_ HO_12.out) hb); have n2_ := aM (Kd.R_below (mR_ HO_13.out) hb); have n3_ := aM (blk_below (g := gb130) (o := .cells #[.int .i64 ((rd_T35 x5_1 x10_2).f0), .int .i64 ((rd_T35 x5_1 x10_2).f1)] 35 (0, 0)) (mB_ BK130.out) hb); have n4_ := aM (below_step (zs GE130.out) hb); clear HO_5 HO_12 HO_13 BK130 HB; have HO_5 := n0_; have HO_12 := n1_; have HO_13 := n2_; have BK130 := n3_; have HB := n4_; clear n0_ n1_ n2_ n3_ n4_; (try clear hb); (try clear hb2); (try clear hk); (try clear hi)) | ((with_reducible refine gate_builtin (b := .append) (xs := #[.tmp 117, .tmp 119]) rfl ?_); at_builtin; refine Kd.R_append Kd.bool (w0 := w) w.heap.size rfl (.tmp 117) (.tmp 119) 37 4 (.bool false) 1 rfl Try.underlying37 info4 rfl (by decide) (by omega) u13 x13_3 (false) [.bool (false)] (fun _ => True) (fun _ => False) rfl rfl ?aP (fun _ hk => hk.elim) ?aF ?aO ?aB ?aS ?aL ?_; (case aP => exact rfl); (case aB => exact (zs GE130.out)); (case aF => exact (fun _ _ => trivial)); (case aO => exact (mR_ HO_13.out)); (case aS => exact (below_size (zs GE130.out))); (case aL => have := LMc39.out; omega); intro v140 w46 ho hb hg hat; rw [← Ny139.out] at ho; have n0_ := aM (Kd.R_over' (mR_ HO_5.out) (Kd.R_typed (mR_ HO_13.out)) (by decide) hg); have n1_ := aM (Kd.R_over' (mR_ HO_12.out) (Kd.R_typed (mR_ HO_13.out)) (by decide) hg); have n2_ := aM (blk_grown (g := gb130) (o := .cells #[.int .i64 ((rd_T35 x5_1 x10_2).f0), .int .i64 ((rd_T35 x5_1 x10_2).f1)] 35 (0, 0)) (mB_ BK130.out) hg (Kd.R_ne HO_13.out BK130.out (by decide))); have n3_ := aM (hb); have n4_ := aM (ho); clear HO_5 HO_12 BK130 HB HO_13; have HO_5 := n0_; have HO_12 := n1_; have BK130 := n2_; have HB := n3_; have HO141 := n4_; clear n0_ n1_ n2_ n3_ n4_; clear ho hb hg hat)); try go_wp2_with (first | (go_at_call 17; (try simp only [i64_w]); (with_reducible refine (spec_l02Index.calls k3 _ _ l0 ((rd_T35 y131 x15_3).f0) ((rd_T35 y131 x15_3).f1) t138 _ ?side1 ?side2 A38.out).mono ?_); (case side1 => repeat (first | exact (Kd.C_below HR0.out HB.out) | (with_reducible refine Kd.C_alloc ?_ _) | (with_reducible refine Kd.C_drewN ?_ _) | (with_reducible refine Kd.C_drew ?_))); (case side2 => exact HC0.out); rintro e w45 ⟨rfl, hb⟩; have n0_ := aM (Kd.R_below (mR_ HO_5.out) hb); have n1_ := aM (Kd.R_below (mR_ HO_12.out) hb); have n2_ := aM (Kd.R_below (mR_ HO_13.out) hb); have n3_ := aM (blk_below (g := gb130) (o := .cells #[.int .i64 ((rd_T35 x5_1 x10_2).f0), .int .i64 ((rd_T35 x5_1 x10_2).f1)] 35 (0, 0)) (mB_ BK130.out) hb); have n4_ := aM (below_step (zs GE130.out) hb); clear HO_5 HO_12 HO_13 BK130 HB; have HO_5 := n0_; have HO_12 := n1_; have HO_13 := n2_; have BK130 := n3_; have HB := n4_; clear n0_ n1_ n2_ n3_ n4_; (try clear hb); (try clear hb2); (try clear hk); (try clear hi)) | ((with_reducible refine gate_builtin (b := .append) (xs := #[.tmp 117, .tmp 119]) rfl ?_); at_builtin; refine Kd.R_append Kd.bool (w0 := w) w.heap.size rfl (.tmp 117) (.tmp 119) 37 4 (.bool false) 1 rfl Try.underlying37 info4 rfl (by decide) (by omega) u13 x13_3 (false) [.bool (false)] (fun _ => True) (fun _ => False) rfl rfl ?aP (fun _ hk => hk.elim) ?aF ?aO ?aB ?aS ?aL ?_; (case aP => exact rfl); (case aB => exact (zs GE130.out)); (case aF => exact (fun _ _ => trivial)); (case aO => exact (mR_ HO_13.out)); (case aS => exact (below_size (zs GE130.out))); (case aL => have := LMc39.out; omega); intro v140 w46 ho hb hg hat; rw [← Ny139.out] at ho; have n0_ := aM (Kd.R_over' (mR_ HO_5.out) (Kd.R_typed (mR_ HO_13.out)) (by decide) hg); have n1_ := aM (Kd.R_over' (mR_ HO_12.out) (Kd.R_typed (mR_ HO_13.out)) (by decide) hg); have n2_ := aM (blk_grown (g := gb130) (o := .cells #[.int .i64 ((rd_T35 x5_1 x10_2).f0), .int .i64 ((rd_T35 x5_1 x10_2).f1)] 35 (0, 0)) (mB_ BK130.out) hg (Kd.R_ne HO_13.out BK130.out (by decide))); have n3_ := aM (hb); have n4_ := aM (ho); clear HO_5 HO_12 BK130 HB HO_13; have HO_5 := n0_; have HO_12 := n1_; have BK130 := n2_; have HB := n3_; have HO141 := n4_; clear n0_ n1_ n2_ n3_ n4_; clear ho hb hg hat)))
        go_roundg k3
        case measure => have := HK1.out; have := HK2.out; have := HK3.out; omega
        case rel => exact ⟨(y139), (x14_3), (wrap64 (x15_3 + 1)), zr, zr, H', ⟨by have := HK1.out; have := HK2.out; have := HK3.out; omega⟩, ⟨mR_ HO_5.out⟩, ⟨mR_ HO_12.out⟩, ⟨mR_ HO141.out⟩, ⟨mB_ BK130.out⟩, ⟨zs GE130.out⟩⟩
       rw [if_neg c35] at H
       have c35b0 : decide (x15_3 < 4) = false := decide_eq_false c35
       clear c35
       have HC47 := aM H
       clear H
       go_upto_region 29 with (fail)
       repeat (go_quiet (fail); go_upto_region 29 with (fail))
       go_cut [124] (fun v124 wc => ∃ (kq : Nat) (x124_46 : Bool), v124 = .bool x124_46 ∧ Aside0 (spec_CornerCount.j4 kq l0 x4_2 x5_1 x10_2 x13_3 x14_3 x124_46 = some (r1, r2)) ∧ Aside0 (kq ≤ k3) ∧ Aside0 (Kd.R k35 35 wc w.heap.size (fun k_ => k_ ≠ gb130) (.slice (some ad129) x5_1.length co28) x5_1) ∧ Aside0 (Kd.R Kd.bool 4 wc w.heap.size (fun _ => True) u13 x13_3) ∧ Aside0 (wc.heap[gb130]? = some (.cells #[.int .i64 ((rd_T35 x5_1 x10_2).f0), .int .i64 ((rd_T35 x5_1 x10_2).f1)] 35 (0, 0))) ∧ Aside0 (Below w.heap.size w wc))
       case first =>
        have H := HC47.out
        clear HC47
        by_cases c48 : x14_3 = 1
        rotate_left
        ·rw [if_neg c48] at H
         have c48b0 : (x14_3 == 1) = false := beq_eq_false_iff_ne.mpr c48
         have c48b1 : (x14_3 != 1) = true := bne_iff_ne.mpr c48
         (first | rw [c48b0] | (simp only [i64_w, i32_w]; rw [c48b0]) | skip)
         have H' := aM H
         clear H
         go_wp2
         repeat (go_quiet (fail); try go_wp2)
         go_meet
         case rel => exact ⟨_, ((x14_3 == 3)), zr, H', ⟨by have := HK1.out; have := HK2.out; have := HK3.out; first | omega | exact Nat.le_refl _⟩, ⟨zd4 HO_5.out⟩, ⟨mR_ HO_13.out⟩, ⟨mB_ BK130.out⟩, ⟨zs GE130.out⟩⟩
        rw [if_pos c48] at H
        have c48b0 : (x14_3 == 1) = true := beq_iff_eq.mpr c48
        have c48b1 : (x14_3 != 1) = false := bne_eq_false_iff_eq.mpr c48
        clear c48
        (first | rw [c48b0] | (simp only [i64_w, i32_w]; rw [c48b0]) | skip)
        have H' := aM H
        clear H
        go_wp2
        repeat (go_quiet (fail); try go_wp2)
        go_meet
        case rel => exact ⟨_, (true), zr, H', ⟨by have := HK1.out; have := HK2.out; have := HK3.out; first | omega | exact Nat.le_refl _⟩, ⟨zd4 HO_5.out⟩, ⟨mR_ HO_13.out⟩, ⟨mB_ BK130.out⟩, ⟨zs GE130.out⟩⟩
       case rest =>
        clear HC47
        try clear c1
        try clear p1
        try clear q1
        try clear hx1
        try clear c2
        try clear p2
        try clear c3
        try clear c4
        try clear c6
        try clear p6
        try clear c7
        try clear c7b0
        try clear c8
        try clear c8b0
        try clear p11
        try clear q11
        try clear hx11
        try clear p12
        try clear q12
        try clear hx12
        try clear c13
        try clear c13b0
        try clear p13
        try clear q13
        try clear hx13
        try clear c14
        try clear c14b0
        try clear c15
        try clear c15b0
        try clear c17
        try clear c17b0
        try clear c18
        try clear c26
        try clear c26b0
        try clear c27
        try clear c27b0
        try clear c35
        try clear c35b0
        try clear c36
        try clear c36b0
        try clear c37
        try clear c37b0
        try clear c39
        try clear c40
        try clear c40b0
        try clear c48
        try clear c48b0
        try clear c48b1
        try clear hcz10_0
        try clear hcz10_1
        try clear hcz30_0
        try clear hcz30_1
        try clear hfz10_0
        try clear hfz10_1
        try clear hfz30_0
        try clear hfz30_1
        try clear hx118_0
        try clear hx118_1
        try clear hx123_0
        try clear hx123_1
        try clear hx125_0
        try clear hx125_1
        try clear hx129_0
        try clear hx129_1
        try clear hx137_0
        try clear hx137_1
        try clear p1
        try clear p11
        try clear p118
        try clear p12
        try clear p123
        try clear p125
        try clear p129
        try clear p137
        try clear p2
        try clear p6
        try clear q1
        try clear q11
        try clear q118
        try clear q12
        try clear q123
        try clear q125
        try clear q129
        try clear q137
        obtain ⟨kq, x124_46, rfl, HA, HJ46, HO_5, HO_13, BK130, HB⟩ := hcut
        cases kq with
        | zero => exact absurd HA.out (by simp [spec_CornerCount.j4])
        | succ kj46 =>
         have H := HA.out
         clear HA
         simp only [spec_CornerCount.j4] at H
         by_cases c49 : x124_46 = true
         ·subst c49
          have H1 : (spec_CornerCount.l2 kj46 l0 (wrap64 (x4_2 + 1)) x5_1 (wrap64 (x10_2 + 1))) = some (r1, r2) := by rw [if_pos rfl] at H; exact H
          clear H
          have H := H1
          clear H1
          have H' := aM H
          clear H
          go_wp2
          repeat (go_quiet (fail); try go_wp2)
          go_roundg kj46
          case measure => have := HK1.out; have := HK2.out; have := HK3.out; have := HJ46.out; omega
          case rel => exact ⟨(wrap64 (x4_2 + 1)), (wrap64 (x10_2 + 1)), zr, zr, H', ⟨by have := HK1.out; have := HK2.out; have := HK3.out; have := HJ46.out; omega⟩, ⟨zd2 HO_5.out⟩, ⟨zs GE130.out⟩⟩
         replace c49 := Bool.eq_false_iff.mpr c49
         subst c49
         have H1 : (if x14_3 = 2 then (if 0 < (x13_3.length : Int) then (if 2 < (x13_3.length : Int) then (if ((rdOf false x13_3 0) == (rdOf false x13_3 2)) = true then (spec_CornerCount.l2 kj46 l0 (wrap64 (x4_2 + 2)) x5_1 (wrap64 (x10_2 + 1))) else (spec_CornerCount.l2 kj46 l0 x4_2 x5_1 (wrap64 (x10_2 + 1)))) else (none)) else (none)) else (spec_CornerCount.l2 kj46 l0 x4_2 x5_1 (wrap64 (x10_2 + 1)))) = some (r1, r2) := by rw [if_neg (show ¬ (false = true) by decide)] at H; exact H
         clear H
         have H := H1
         clear H1
         by_cases c50 : x14_3 = 2
         rotate_left
         ·rw [if_neg c50] at H
          have c50b0 : (x14_3 == 2) = false := beq_eq_false_iff_ne.mpr c50
          have c50b1 : (x14_3 != 2) = true := bne_iff_ne.mpr c50
          have H' := aM H
          clear H
          go_wp2
          repeat (go_quiet (fail); try go_wp2)
          go_roundg kj46
          case measure => have := HK1.out; have := HK2.out; have := HK3.out; have := HJ46.out; omega
          case rel => exact ⟨(x4_2), (wrap64 (x10_2 + 1)), zr, zr, H', ⟨by have := HK1.out; have := HK2.out; have := HK3.out; have := HJ46.out; omega⟩, ⟨zd2 HO_5.out⟩, ⟨zs GE130.out⟩⟩
         rw [if_pos c50] at H
         have c50b0 : (x14_3 == 2) = true := beq_iff_eq.mpr c50
         have c50b1 : (x14_3 != 2) = false := bne_eq_false_iff_eq.mpr c50
         clear c50
         by_cases c51 : 0 < (x13_3.length : Int)
         rotate_left
         ·rw [if_neg c51] at H
          exact absurd H (by simp)
         rw [if_pos c51] at H
         have c51b0 : decide (0 < (x13_3.length : Int)) = true := decide_eq_true c51
         have c51b1 : decide (0 < x13_3.length) = true := decide_eq_true (by omega)
         clear c51
         by_cases c52 : 2 < (x13_3.length : Int)
         rotate_left
         ·rw [if_neg c52] at H
          exact absurd H (by simp)
         rw [if_pos c52] at H
         have c52b0 : decide (2 < (x13_3.length : Int)) = true := decide_eq_true c52
         have c52b1 : decide (2 < x13_3.length) = true := decide_eq_true (by omega)
         clear c52
         by_cases c53 : ((rdOf false x13_3 0) == (rdOf false x13_3 2)) = true
         ·rw [if_pos c53] at H
          have c53b0 : ((rdOf false x13_3 0) == (rdOf false x13_3 2)) = true := c53
          (try (have c53b1 : decide ((rdOf false x13_3 0) = (rdOf false x13_3 2)) = true := by simpa using c53))
          (try (have c53b2 : ((rdOf false x13_3 0) == (rdOf false x13_3 2)) = true := by simpa using c53))
          clear c53
          have H' := aM H
          clear H
          obtain ⟨Ao54, co54, eo54⟩ := Kd.R_slice HO_13.out
          subst eo54
          have p142 : 0 ≤ (0 : Int) := (by omega)
          have q142 : 0 < (x13_3.length : Int) := of_decide_eq_true za
          obtain ⟨ad142, e142, hx142_0⟩ := Kd.at_bool (Kd.R_reads' HO_13.out).2.2 0 p142 q142
          cases e142
          have qi142 : (0 < x13_3.length) = True := eq_true (by omega)
          (try rw [show ((0 : Int)).toNat = 0 from rfl] at hx142_0)
          (try rw [Addr.add_zero'] at hx142_0)
          replace p142 := eq_true p142
          replace q142 := eq_true q142
          have p143 : 0 ≤ (2 : Int) := (by omega)
          have q143 : 2 < (x13_3.length : Int) := of_decide_eq_true za
          obtain ⟨ad143, e143, hx143_0⟩ := Kd.at_bool (Kd.R_reads' HO_13.out).2.2 2 p143 q143
          obtain rfl : ad142 = ad143 := (by injection e143)
          (try simp only [show (2 : Int).toNat = 2 from rfl, Nat.reduceMul, Nat.reduceEqDiff, Go.Addr.add, ↓reduceIte] at hx143_0)
          have qi143 : (2 < x13_3.length) = True := eq_true (by omega)
          (try rw [show ((2 : Int)).toNat = 2 from rfl] at hx143_0)
          replace p143 := eq_true p143
          replace q143 := eq_true q143
          go_wp2
          repeat (go_quiet (fail); try go_wp2)
          go_roundg kj46
          case measure => have := HK1.out; have := HK2.out; have := HK3.out; have := HJ46.out; omega
          case rel => exact ⟨(wrap64 (x4_2 + 2)), (wrap64 (x10_2 + 1)), zr, zr, H', ⟨by have := HK1.out; have := HK2.out; have := HK3.out; have := HJ46.out; omega⟩, ⟨zd2 HO_5.out⟩, ⟨zs GE130.out⟩⟩
         rw [if_neg c53] at H
         have c53b0 : ((rdOf false x13_3 0) == (rdOf false x13_3 2)) = false := by simpa using c53
         (try (have c53b1 : decide ((rdOf false x13_3 0) = (rdOf false x13_3 2)) = false := by simpa using c53))
         (try (have c53b2 : ((rdOf false x13_3 0) == (rdOf false x13_3 2)) = false := by simpa using c53))
         (try (have c53b3 : ¬ ((rdOf false x13_3 0) = (rdOf false x13_3 2)) := by simpa using c53))
         clear c53
         have H' := aM H
         clear H
         obtain ⟨Ao55, co55, eo55⟩ := Kd.R_slice HO_13.out
         subst eo55
         have p142 : 0 ≤ (0 : Int) := (by omega)
         have q142 : 0 < (x13_3.length : Int) := of_decide_eq_true za
         obtain ⟨ad142, e142, hx142_0⟩ := Kd.at_bool (Kd.R_reads' HO_13.out).2.2 0 p142 q142
         cases e142
         have qi142 : (0 < x13_3.length) = True := eq_true (by omega)
         (try rw [show ((0 : Int)).toNat = 0 from rfl] at hx142_0)
         (try rw [Addr.add_zero'] at hx142_0)
         replace p142 := eq_true p142
         replace q142 := eq_true q142
         have p143 : 0 ≤ (2 : Int) := (by omega)
         have q143 : 2 < (x13_3.length : Int) := of_decide_eq_true za
         obtain ⟨ad143, e143, hx143_0⟩ := Kd.at_bool (Kd.R_reads' HO_13.out).2.2 2 p143 q143
         obtain rfl : ad142 = ad143 := (by injection e143)
         (try simp only [show (2 : Int).toNat = 2 from rfl, Nat.reduceMul, Nat.reduceEqDiff, Go.Addr.add, ↓reduceIte] at hx143_0)
         have qi143 : (2 < x13_3.length) = True := eq_true (by omega)
         (try rw [show ((2 : Int)).toNat = 2 from rfl] at hx143_0)
         replace p143 := eq_true p143
         replace q143 := eq_true q143
         go_wp2
         repeat (go_quiet (fail); try go_wp2)
         go_roundg kj46
         case measure => have := HK1.out; have := HK2.out; have := HK3.out; have := HJ46.out; omega
         case rel => exact ⟨(x4_2), (wrap64 (x10_2 + 1)), zr, zr, H', ⟨by have := HK1.out; have := HK2.out; have := HK3.out; have := HJ46.out; omega⟩, ⟨zd2 HO_5.out⟩, ⟨zs GE130.out⟩⟩
def impl_within.f (a0 : Int) (a1 : Int) (a2 : Int) : Option (Bool) := if a0 ≥ a1 then (some (decide (a0 ≤ a2))) else (some false)
theorem impl_within.calls (a0 : Int) (a1 : Int) (a2 : Int) (r : Bool) (w : World) (h : impl_within.f a0 a1 a2 = some r) :
  Calls Try.prog 37 #[.int .i64 a0, .int .i64 a1, .int .i64 a2] w fun e w' => e = .returned (.bool r) ∧ Drawn0 w w' := by
 have H : (if a0 ≥ a1 then (some (decide (a0 ≤ a2))) else (some false)) = some r := h
 clear h
 by_cases c4 : a0 ≥ a1
 ·rw [if_pos c4] at H
  have c4b0 : decide (a1 ≤ a0) = true := decide_eq_true c4
  clear c4
  obtain rfl := Option.some.inj H
  go_enter Try.func37, Try.ntmps37
  go_wp2
  go_ret
  exact ⟨by first | rfl | (simp; done) | (simp [*]; done), by repeat (first | exact Drawn0.refl _ | apply Drawn0.step)⟩
 rw [if_neg c4] at H
 have c4b0 : decide (a1 ≤ a0) = false := decide_eq_false c4
 clear c4
 obtain rfl := Option.some.inj H
 go_enter Try.func37, Try.ntmps37
 go_wp2
 go_ret
 exact ⟨by first | rfl | (simp; done) | (simp [*]; done), by repeat (first | exact Drawn0.refl _ | apply Drawn0.step)⟩
def impl_isCoordinate.f (a0 : Int) : Option (Bool) := (impl_within.f a0 (-100) 100).bind fun t154 => (some t154)
theorem impl_isCoordinate.calls (a0 : Int) (r : Bool) (w : World) (h : impl_isCoordinate.f a0 = some r) :
  Calls Try.prog 30 #[.int .i64 a0] w fun e w' => e = .returned (.bool r) ∧ Drawn0 w w' := by
 have H : ((impl_within.f a0 (-100) 100).bind fun t154 => (some t154)) = some r := h
 clear h
 replace H := Option.bind_eq_some_iff.mp H
 obtain ⟨t154, A20, H⟩ := H
 replace H : (some t154) = some r := H
 have A2 := aM A20
 clear A20
 obtain rfl := Option.some.inj H
 go_enter Try.func30, Try.ntmps30
 go_wp2_with (first | ((with_reducible refine gate_callee (f := 37) rfl ?_); refine goesL_ (some 4) rfl rfl Try.func37 (by kernel_rfl) rfl #[.int .i64 a0, .int .i64 (-100), .int .i64 100] rfl zm ?_; (with_reducible refine (impl_within.calls a0 (-100) 100 t154 _ A2.out).mono ?_); rintro e w' ⟨rfl, ⟨nd, rfl⟩⟩; refine ⟨_, rfl, ?_⟩))
 go_ret
 exact ⟨by first | rfl | (simp; done) | (simp [*]; done), by repeat (first | exact Drawn0.refl _ | apply Drawn0.step)⟩
def cmp_isNaN_int64.f (a0 : Int) : Option (Bool) := some (a0 != a0)
theorem cmp_isNaN_int64.calls (a0 : Int) (r : Bool) (w : World) (h : cmp_isNaN_int64.f a0 = some r) :
  Calls Try.prog 42 #[.int .i64 a0] w fun e w' => e = .returned (.bool r) ∧ Drawn0 w w' := by
 have H : (some (a0 != a0)) = some r := h
 clear h
 obtain rfl := Option.some.inj H
 go_enter Try.func42, Try.ntmps42
 go_wp2
 go_ret
 exact ⟨by first | rfl | (simp; done) | (simp [*]; done), by repeat (first | exact Drawn0.refl _ | apply Drawn0.step)⟩
end Go.Proofs.Ytpoiiaephcddoaa.F
end
section
namespace Go.Proofs.Ytpoiiaephcddoaa.F
open Go.RowKit Go.Proofs.YtpoiiaephcddoaaW.PrintWords Go.Proofs.YtpoiiaephcddoaaW.PrintLast Go.Proofs.YtpoiiaephcddoaaW.PrintMore
attribute [local go_sem] max2_int min2_int max_two min_two max_three min_three max_four min_four
set_option linter.unusedVariables false
set_option linter.unusedSimpArgs false
def cmp_Compare_int64.f (a0 : Int) (a1 : Int) : Option (Int) := (cmp_isNaN_int64.f a0).bind fun t155 => ((cmp_isNaN_int64.f a1).bind fun t156 => (if t155 = true then (if t156 = true then (some 0) else (some (-1))) else (if t156 = true then (some 1) else (if a0 < a1 then (some (-1)) else (if a0 > a1 then (some 1) else (some 0))))))
theorem cmp_Compare_int64.calls (a0 : Int) (a1 : Int) (r : Int) (w : World) (h : cmp_Compare_int64.f a0 a1 = some r) :
  Calls Try.prog 38 #[.int .i64 a0, .int .i64 a1] w fun e w' => e = .returned (.int .i64 r) ∧ Drawn0 w w' := by
 have H : ((cmp_isNaN_int64.f a0).bind fun t155 => ((cmp_isNaN_int64.f a1).bind fun t156 => (if t155 = true then (if t156 = true then (some 0) else (some (-1))) else (if t156 = true then (some 1) else (if a0 < a1 then (some (-1)) else (if a0 > a1 then (some 1) else (some 0))))))) = some r := h
 clear h
 replace H := Option.bind_eq_some_iff.mp H
 obtain ⟨t155, A30, H⟩ := H
 replace H : ((cmp_isNaN_int64.f a1).bind fun t156 => (if t155 = true then (if t156 = true then (some 0) else (some (-1))) else (if t156 = true then (some 1) else (if a0 < a1 then (some (-1)) else (if a0 > a1 then (some 1) else (some 0)))))) = some r := H
 have A3 := aM A30
 clear A30
 replace H := Option.bind_eq_some_iff.mp H
 obtain ⟨t156, A40, H⟩ := H
 replace H : (if t155 = true then (if t156 = true then (some 0) else (some (-1))) else (if t156 = true then (some 1) else (if a0 < a1 then (some (-1)) else (if a0 > a1 then (some 1) else (some 0))))) = some r := H
 have A4 := aM A40
 clear A40
 by_cases c5 : t155 = true
 ·subst c5
  have H1 : (if t156 = true then (some 0) else (some (-1))) = some r := by rw [if_pos rfl] at H; exact H
  clear H
  have H := H1
  clear H1
  by_cases c6 : t156 = true
  ·subst c6
   have H1 : (some 0) = some r := by rw [if_pos rfl] at H; exact H
   clear H
   have H := H1
   clear H1
   obtain rfl := Option.some.inj H
   go_enter Try.func38, Try.ntmps38
   go_wp2_with (first | ((with_reducible refine gate_callee (f := 42) rfl ?_); refine goesL_ (some 8) rfl rfl Try.func42 (by kernel_rfl) rfl #[.int .i64 a0] rfl zm ?_; (with_reducible refine (cmp_isNaN_int64.calls a0 true _ A3.out).mono ?_); rintro e w' ⟨rfl, ⟨nd, rfl⟩⟩; refine ⟨_, rfl, ?_⟩) | ((with_reducible refine gate_callee (f := 42) rfl ?_); refine goesL_ (some 10) rfl rfl Try.func42 (by kernel_rfl) rfl #[.int .i64 a1] rfl zm ?_; (with_reducible refine (cmp_isNaN_int64.calls a1 true _ A4.out).mono ?_); rintro e w' ⟨rfl, ⟨nd, rfl⟩⟩; refine ⟨_, rfl, ?_⟩))
   go_ret
   exact ⟨by first | rfl | (simp; done) | (simp [*]; done), by repeat (first | exact Drawn0.refl _ | apply Drawn0.step)⟩
  replace c6 := Bool.eq_false_iff.mpr c6
  subst c6
  have H1 : (some (-1)) = some r := by rw [if_neg (show ¬ (false = true) by decide)] at H; exact H
  clear H
  have H := H1
  clear H1
  obtain rfl := Option.some.inj H
  go_enter Try.func38, Try.ntmps38
  go_wp2_with (first | ((with_reducible refine gate_callee (f := 42) rfl ?_); refine goesL_ (some 8) rfl rfl Try.func42 (by kernel_rfl) rfl #[.int .i64 a0] rfl zm ?_; (with_reducible refine (cmp_isNaN_int64.calls a0 true _ A3.out).mono ?_); rintro e w' ⟨rfl, ⟨nd, rfl⟩⟩; refine ⟨_, rfl, ?_⟩) | ((with_reducible refine gate_callee (f := 42) rfl ?_); refine goesL_ (some 10) rfl rfl Try.func42 (by kernel_rfl) rfl #[.int .i64 a1] rfl zm ?_; (with_reducible refine (cmp_isNaN_int64.calls a1 false _ A4.out).mono ?_); rintro e w' ⟨rfl, ⟨nd, rfl⟩⟩; refine ⟨_, rfl, ?_⟩))
  go_ret
  exact ⟨by first | rfl | (simp; done) | (simp [*]; done), by repeat (first | exact Drawn0.refl _ | apply Drawn0.step)⟩
 replace c5 := Bool.eq_false_iff.mpr c5
 subst c5
 have H1 : (if t156 = true then (some 1) else (if a0 < a1 then (some (-1)) else (if a0 > a1 then (some 1) else (some 0)))) = some r := by rw [if_neg (show ¬ (false = true) by decide)] at H; exact H
 clear H
 have H := H1
 clear H1
 by_cases c7 : t156 = true
 ·subst c7
  have H1 : (some 1) = some r := by rw [if_pos rfl] at H; exact H
  clear H
  have H := H1
  clear H1
  obtain rfl := Option.some.inj H
  go_enter Try.func38, Try.ntmps38
  go_wp2_with (first | ((with_reducible refine gate_callee (f := 42) rfl ?_); refine goesL_ (some 8) rfl rfl Try.func42 (by kernel_rfl) rfl #[.int .i64 a0] rfl zm ?_; (with_reducible refine (cmp_isNaN_int64.calls a0 false _ A3.out).mono ?_); rintro e w' ⟨rfl, ⟨nd, rfl⟩⟩; refine ⟨_, rfl, ?_⟩) | ((with_reducible refine gate_callee (f := 42) rfl ?_); refine goesL_ (some 10) rfl rfl Try.func42 (by kernel_rfl) rfl #[.int .i64 a1] rfl zm ?_; (with_reducible refine (cmp_isNaN_int64.calls a1 true _ A4.out).mono ?_); rintro e w' ⟨rfl, ⟨nd, rfl⟩⟩; refine ⟨_, rfl, ?_⟩))
  go_ret
  exact ⟨by first | rfl | (simp; done) | (simp [*]; done), by repeat (first | exact Drawn0.refl _ | apply Drawn0.step)⟩
 replace c7 := Bool.eq_false_iff.mpr c7
 subst c7
 have H1 : (if a0 < a1 then (some (-1)) else (if a0 > a1 then (some 1) else (some 0))) = some r := by rw [if_neg (show ¬ (false = true) by decide)] at H; exact H
 clear H
 have H := H1
 clear H1
 by_cases c8 : a0 < a1
 ·rw [if_pos c8] at H
  have c8b0 : decide (a0 < a1) = true := decide_eq_true c8
  clear c8
  obtain rfl := Option.some.inj H
  go_enter Try.func38, Try.ntmps38
  go_wp2_with (first | ((with_reducible refine gate_callee (f := 42) rfl ?_); refine goesL_ (some 8) rfl rfl Try.func42 (by kernel_rfl) rfl #[.int .i64 a0] rfl zm ?_; (with_reducible refine (cmp_isNaN_int64.calls a0 false _ A3.out).mono ?_); rintro e w' ⟨rfl, ⟨nd, rfl⟩⟩; refine ⟨_, rfl, ?_⟩) | ((with_reducible refine gate_callee (f := 42) rfl ?_); refine goesL_ (some 10) rfl rfl Try.func42 (by kernel_rfl) rfl #[.int .i64 a1] rfl zm ?_; (with_reducible refine (cmp_isNaN_int64.calls a1 false _ A4.out).mono ?_); rintro e w' ⟨rfl, ⟨nd, rfl⟩⟩; refine ⟨_, rfl, ?_⟩))
  go_ret
  exact ⟨by first | rfl | (simp; done) | (simp [*]; done), by repeat (first | exact Drawn0.refl _ | apply Drawn0.step)⟩
 rw [if_neg c8] at H
 have c8b0 : decide (a0 < a1) = false := decide_eq_false c8
 clear c8
 by_cases c9 : a0 > a1
 ·rw [if_pos c9] at H
  have c9b0 : decide (a1 < a0) = true := decide_eq_true c9
  clear c9
  obtain rfl := Option.some.inj H
  go_enter Try.func38, Try.ntmps38
  go_wp2_with (first | ((with_reducible refine gate_callee (f := 42) rfl ?_); refine goesL_ (some 8) rfl rfl Try.func42 (by kernel_rfl) rfl #[.int .i64 a0] rfl zm ?_; (with_reducible refine (cmp_isNaN_int64.calls a0 false _ A3.out).mono ?_); rintro e w' ⟨rfl, ⟨nd, rfl⟩⟩; refine ⟨_, rfl, ?_⟩) | ((with_reducible refine gate_callee (f := 42) rfl ?_); refine goesL_ (some 10) rfl rfl Try.func42 (by kernel_rfl) rfl #[.int .i64 a1] rfl zm ?_; (with_reducible refine (cmp_isNaN_int64.calls a1 false _ A4.out).mono ?_); rintro e w' ⟨rfl, ⟨nd, rfl⟩⟩; refine ⟨_, rfl, ?_⟩))
  go_ret
  exact ⟨by first | rfl | (simp; done) | (simp [*]; done), by repeat (first | exact Drawn0.refl _ | apply Drawn0.step)⟩
 rw [if_neg c9] at H
 have c9b0 : decide (a1 < a0) = false := decide_eq_false c9
 clear c9
 obtain rfl := Option.some.inj H
 go_enter Try.func38, Try.ntmps38
 go_wp2_with (first | ((with_reducible refine gate_callee (f := 42) rfl ?_); refine goesL_ (some 8) rfl rfl Try.func42 (by kernel_rfl) rfl #[.int .i64 a0] rfl zm ?_; (with_reducible refine (cmp_isNaN_int64.calls a0 false _ A3.out).mono ?_); rintro e w' ⟨rfl, ⟨nd, rfl⟩⟩; refine ⟨_, rfl, ?_⟩) | ((with_reducible refine gate_callee (f := 42) rfl ?_); refine goesL_ (some 10) rfl rfl Try.func42 (by kernel_rfl) rfl #[.int .i64 a1] rfl zm ?_; (with_reducible refine (cmp_isNaN_int64.calls a1 false _ A4.out).mono ?_); rintro e w' ⟨rfl, ⟨nd, rfl⟩⟩; refine ⟨_, rfl, ?_⟩))
 go_ret
 exact ⟨by first | rfl | (simp; done) | (simp [*]; done), by repeat (first | exact Drawn0.refl _ | apply Drawn0.step)⟩
def impl_compareCells.f (a0_0 : Int) (a0_1 : Int) (a1_0 : Int) (a1_1 : Int) : Option (Int) := (cmp_Compare_int64.f a0_1 a1_1).bind fun t159 => (if t159 = 0 then ((cmp_Compare_int64.f a0_0 a1_0).bind fun t160 => (some t160)) else (some t159))
theorem impl_compareCells.calls (a0_0 : Int) (a0_1 : Int) (a1_0 : Int) (a1_1 : Int) (r : Int) (w : World) (h : impl_compareCells.f a0_0 a0_1 a1_0 a1_1 = some r) :
  Calls Try.prog 31 #[.agg #[.int .i64 a0_0, .int .i64 a0_1], .agg #[.int .i64 a1_0, .int .i64 a1_1]] w fun e w' => e = .returned (.int .i64 r) ∧ Below w.heap.size w w' := by
 have hu35 := Try.underlying35
 have HB := aM (Below.refl w.heap.size w)
 have H : ((cmp_Compare_int64.f a0_1 a1_1).bind fun t159 => (if t159 = 0 then ((cmp_Compare_int64.f a0_0 a1_0).bind fun t160 => (some t160)) else (some t159))) = some r := h
 clear h
 replace H := Option.bind_eq_some_iff.mp H
 obtain ⟨t159, A30, H⟩ := H
 replace H : (if t159 = 0 then ((cmp_Compare_int64.f a0_0 a1_0).bind fun t160 => (some t160)) else (some t159)) = some r := H
 have A3 := aM A30
 clear A30
 by_cases c4 : t159 = 0
 rotate_left
 ·rw [if_neg c4] at H
  have c4b0 : (t159 == 0) = false := beq_eq_false_iff_ne.mpr c4
  have c4b1 : (t159 != 0) = true := bne_iff_ne.mpr c4
  obtain rfl := Option.some.inj H
  go_enter Try.func31, Try.ntmps31
  go_wp2_with (first | ((with_reducible refine gate_dst (N := 2) rfl ?_); refine zx 2 #[.int .i64 a0_0, .int .i64 a0_1] 35 ?_; intro gb157 hg w11 hbox hb; have n0_ := aM (below_step zb hb); have n1_ := aM (hbox); have n2_ := aM ((ze : w.heap.size ≤ gb157)); have n3_ := aM ((ze : w.heap.size ≤ gb157)); clear HB; have HB := n0_; have BK157 := n1_; have GW157 := n2_; have GE157 := n3_; clear n0_ n1_ n2_ n3_; clear hb hbox hg) | ((with_reducible refine gate_dst (N := 3) rfl ?_); refine zx 3 #[.int .i64 a1_0, .int .i64 a1_1] 35 ?_; intro gb158 hg w12 hbox hb; have n0_ := aM (blk_below (g := gb157) (o := .cells #[.int .i64 a0_0, .int .i64 a0_1] 35 (0, 0)) (mB_ BK157.out) hb); have n1_ := aM (below_step (zs GE157.out) hb); have n2_ := aM (hbox); have n3_ := aM ((zf GE157.out : w.heap.size ≤ gb158)); have n4_ := aM ((zf GE157.out : w.heap.size ≤ gb158)); have n5_ := aM ((zl BK157.out : gb157 ≠ gb158)); have n6_ := aM ((zn BK157.out : gb158 ≠ gb157)); clear BK157 HB; have BK157 := n0_; have HB := n1_; have BK158 := n2_; have GW158 := n3_; have GE158 := n4_; have NB157_158 := n5_; have NB158_157 := n6_; clear n0_ n1_ n2_ n3_ n4_ n5_ n6_ hb hbox hg; have hnb13 := NB157_158.out; have hnc13 := NB158_157.out; have hcz14_0 : w12.cell? ⟨gb157, 0, none⟩ = some (.int .i64 a0_0) := (blk_cell BK157.out 0).trans rfl; have hcz14_1 : w12.cell? ⟨gb157, 1, none⟩ = some (.int .i64 a0_1) := (blk_cell BK157.out 1).trans rfl; have hfz14_0 := blk_frozen BK157.out 0; have hfz14_1 := blk_frozen BK157.out 1; have hcz15_0 : w12.cell? ⟨gb158, 0, none⟩ = some (.int .i64 a1_0) := (blk_cell BK158.out 0).trans rfl; have hcz15_1 : w12.cell? ⟨gb158, 1, none⟩ = some (.int .i64 a1_1) := (blk_cell BK158.out 1).trans rfl; have hfz15_0 := blk_frozen BK158.out 0; have hfz15_1 := blk_frozen BK158.out 1) | ((with_reducible refine gate_callee (f := 38) rfl ?_); refine goesL_ (some 10) rfl rfl Try.func38 (by kernel_rfl) rfl #[.int .i64 a0_1, .int .i64 a1_1] rfl zm ?_; (with_reducible refine (cmp_Compare_int64.calls a0_1 a1_1 t159 _ A3.out).mono ?_); rintro e w' ⟨rfl, ⟨nd, rfl⟩⟩; refine ⟨_, rfl, ?_⟩))
  go_ret
  exact ⟨zw, zt GE157.out GE158.out⟩
 rw [if_pos c4] at H
 have c4b0 : (t159 == 0) = true := beq_iff_eq.mpr c4
 have c4b1 : (t159 != 0) = false := bne_eq_false_iff_eq.mpr c4
 clear c4
 replace H := Option.bind_eq_some_iff.mp H
 obtain ⟨t160, A50, H⟩ := H
 replace H : (some t160) = some r := H
 have A5 := aM A50
 clear A50
 obtain rfl := Option.some.inj H
 go_enter Try.func31, Try.ntmps31
 go_wp2_with (first | ((with_reducible refine gate_dst (N := 2) rfl ?_); refine zx 2 #[.int .i64 a0_0, .int .i64 a0_1] 35 ?_; intro gb157 hg w6 hbox hb; have n0_ := aM (below_step zb hb); have n1_ := aM (hbox); have n2_ := aM ((ze : w.heap.size ≤ gb157)); have n3_ := aM ((ze : w.heap.size ≤ gb157)); clear HB; have HB := n0_; have BK157 := n1_; have GW157 := n2_; have GE157 := n3_; clear n0_ n1_ n2_ n3_; clear hb hbox hg) | ((with_reducible refine gate_dst (N := 3) rfl ?_); refine zx 3 #[.int .i64 a1_0, .int .i64 a1_1] 35 ?_; intro gb158 hg w7 hbox hb; have n0_ := aM (blk_below (g := gb157) (o := .cells #[.int .i64 a0_0, .int .i64 a0_1] 35 (0, 0)) (mB_ BK157.out) hb); have n1_ := aM (below_step (zs GE157.out) hb); have n2_ := aM (hbox); have n3_ := aM ((zf GE157.out : w.heap.size ≤ gb158)); have n4_ := aM ((zf GE157.out : w.heap.size ≤ gb158)); have n5_ := aM ((zl BK157.out : gb157 ≠ gb158)); have n6_ := aM ((zn BK157.out : gb158 ≠ gb157)); clear BK157 HB; have BK157 := n0_; have HB := n1_; have BK158 := n2_; have GW158 := n3_; have GE158 := n4_; have NB157_158 := n5_; have NB158_157 := n6_; clear n0_ n1_ n2_ n3_ n4_ n5_ n6_ hb hbox hg; have hnb8 := NB157_158.out; have hnc8 := NB158_157.out; have hcz9_0 : w7.cell? ⟨gb157, 0, none⟩ = some (.int .i64 a0_0) := (blk_cell BK157.out 0).trans rfl; have hcz9_1 : w7.cell? ⟨gb157, 1, none⟩ = some (.int .i64 a0_1) := (blk_cell BK157.out 1).trans rfl; have hfz9_0 := blk_frozen BK157.out 0; have hfz9_1 := blk_frozen BK157.out 1; have hcz10_0 : w7.cell? ⟨gb158, 0, none⟩ = some (.int .i64 a1_0) := (blk_cell BK158.out 0).trans rfl; have hcz10_1 : w7.cell? ⟨gb158, 1, none⟩ = some (.int .i64 a1_1) := (blk_cell BK158.out 1).trans rfl; have hfz10_0 := blk_frozen BK158.out 0; have hfz10_1 := blk_frozen BK158.out 1) | ((with_reducible refine gate_callee (f := 38) rfl ?_); refine goesL_ (some 10) rfl rfl Try.func38 (by kernel_rfl) rfl #[.int .i64 a0_1, .int .i64 a1_1] rfl zm ?_; (with_reducible refine (cmp_Compare_int64.calls a0_1 a1_1 t159 _ A3.out).mono ?_); rintro e w' ⟨rfl, ⟨nd, rfl⟩⟩; refine ⟨_, rfl, ?_⟩) | ((with_reducible refine gate_callee (f := 38) rfl ?_); refine goesL_ (some 18) rfl rfl Try.func38 (by kernel_rfl) rfl #[.int .i64 a0_0, .int .i64 a1_0] rfl zm ?_; (with_reducible refine (cmp_Compare_int64.calls a0_0 a1_0 t160 _ A5.out).mono ?_); rintro e w' ⟨rfl, ⟨nd, rfl⟩⟩; refine ⟨_, rfl, ?_⟩))
 go_ret
 exact ⟨zw, zt GE157.out GE158.out⟩
end Go.Proofs.Ytpoiiaephcddoaa.F
end
section
namespace Go.Proofs.Ytpoiiaephcddoaa.F
open Go.RowKit Go.Proofs.YtpoiiaephcddoaaW.PrintWords Go.Proofs.YtpoiiaephcddoaaW.PrintLast Go.Proofs.YtpoiiaephcddoaaW.PrintMore
attribute [local go_sem] max2_int min2_int max_two min_two max_three min_three max_four min_four
set_option linter.unusedVariables false
set_option linter.unusedSimpArgs false
def impl_IsShape.l0 : Nat → List (S35) → List (S35) → Int → Int → Option (Bool)
 | 0, _, _, _, _ => none
 | k + 1, x0, x5, x6, x7 => if x7 < x6 then (if 0 ≤ x7 then (if x7 < (x5.length : Int) then ((impl_isCoordinate.f ((rd_T35 x5 x7).f0)).bind fun t163 => (if t163 = true then ((impl_isCoordinate.f ((rd_T35 x5 x7).f1)).bind fun t164 => (if t164 = true then (if x7 > 0 then (if 0 ≤ (wrap64 (x7 - 1)) then (if (wrap64 (x7 - 1)) < (x0.length : Int) then ((impl_compareCells.f ((rd_T35 x0 (wrap64 (x7 - 1))).f0) ((rd_T35 x0 (wrap64 (x7 - 1))).f1) ((rd_T35 x5 x7).f0) ((rd_T35 x5 x7).f1)).bind fun t166 => (if t166 ≥ 0 then (some false) else (impl_IsShape.l0 k x0 x5 x6 (wrap64 (x7 + 1))))) else (none)) else (none)) else (impl_IsShape.l0 k x0 x5 x6 (wrap64 (x7 + 1)))) else (some false))) else (some false))) else (none)) else (none)) else (if (x0.length : Int) ≥ 1 then (some (decide ((x0.length : Int) ≤ 40))) else (some false))
def impl_IsShape.f (k : Nat) (l0 : List (S35)) : Option (Bool) := impl_IsShape.l0 k l0 l0 (l0.length : Int) 0
def impl_IsShape.T4 : Bool × List (List Nat × List Nat) := (true, [([], []), ([0], [0]), ([1], [1]), ([2], [2]), ([3, 2], [3]), ([4], [4]), ([5, 4], [4, 5]), ([6, 4, 4], [4, 6]), ([7, 4], [4, 7]), ([4, 8], [4, 8]), ([9, 7], [9]), ([10], [10]), ([11, 10], [10, 11]), ([12, 10, 10], [10, 12]), ([13], [13]), ([13], [13]), ([15, 13], [13, 15]), ([14, 16, 13], [13, 14, 16]), ([17, 13], [13, 17]), ([13], [13]), ([18, 19, 13, 13], [13, 18, 19]), ([20, 13], [13, 20]), ([13, 21, 10], [10, 13, 21]), ([10, 22], [10, 22])])
def impl_IsShape.B4 : List Nat := [0, 1, 3, 7, 15, 31, 63, 127, 255, 511, 1023, 2047, 4095, 8191, 16383, 16383, 49151, 131071, 262143, 16383, 1048575, 2097151, 4194303, 8388607]
theorem impl_IsShape.tab4 : rtab .any (opsOf Try.f19 4) = impl_IsShape.T4 := by kernel_rfl
theorem impl_IsShape.bits4 : waitsOk impl_IsShape.T4.2 impl_IsShape.B4 = true := by kernel_rfl
end Go.Proofs.Ytpoiiaephcddoaa.F
end
