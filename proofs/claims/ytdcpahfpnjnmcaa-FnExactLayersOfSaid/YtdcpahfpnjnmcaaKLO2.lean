/- The row of FnExactLayersOf, with what it needs: text 3 of 6. -/
import Derived.Test.YtdcpahfpnjnmcaaKLO1
set_option maxHeartbeats 8000000
set_option maxRecDepth 100000
section
namespace Go.Proofs.Ytdcpahfpnjnmcaa.F
open Go.RowKit Go.Proofs.YtdcpahfpnjnmcaaW.PrintWords Go.Proofs.YtdcpahfpnjnmcaaW.PrintLast Go.Proofs.YtdcpahfpnjnmcaaW.PrintMore
attribute [local go_sem] max2_int min2_int max_two min_two max_three min_three max_four min_four
set_option linter.unusedVariables false
set_option linter.unusedSimpArgs false
theorem impl_compareCells.calls (a0_0 : Int) (a0_1 : Int) (a1_0 : Int) (a1_1 : Int) (r : Int) (w : World) (h : impl_compareCells.f a0_0 a0_1 a1_0 a1_1 = some r) :
  Calls Try.prog 69 #[.agg #[.int .i64 a0_0, .int .i64 a0_1], .agg #[.int .i64 a1_0, .int .i64 a1_1]] w fun e w' => e = .returned (.int .i64 r) ∧ Below w.heap.size w w' := by
 have hu49 := Try.underlying49
 have HB := aM (Below.refl w.heap.size w)
 have H : ((cmp_Compare_int64.f a0_1 a1_1).bind fun t159 => (if t159 = 0 then ((cmp_Compare_int64.f a0_0 a1_0).bind fun t160 => (some t160)) else (some t159))) = some r := h
 clear h
 replace H := Option.bind_eq_some_iff.mp H
 obtain ⟨t159, A30, H⟩ := H
 replace H : (if t159 = 0 then ((cmp_Compare_int64.f a0_0 a1_0).bind fun t160 => (some t160)) else (some t159)) = some r := H
 have A3 := aM A30
 clear A30
 by_cases c4 : t159 = 0
 rotate_left
 ·rw [if_neg c4] at H
  have c4b0 : (t159 == 0) = false := beq_eq_false_iff_ne.mpr c4
  have c4b1 : (t159 != 0) = true := bne_iff_ne.mpr c4
  obtain rfl := Option.some.inj H
  go_enter Try.func69, Try.ntmps69
  go_wp2_with (first | ((with_reducible refine gate_dst (N := 2) rfl ?_); refine zx 2 #[.int .i64 a0_0, .int .i64 a0_1] 49 ?_; intro gb157 hg w11 hbox hb; have n0_ := aM (below_step zb hb); have n1_ := aM (hbox); have n2_ := aM ((ze : w.heap.size ≤ gb157)); have n3_ := aM ((ze : w.heap.size ≤ gb157)); clear HB; have HB := n0_; have BK157 := n1_; have GW157 := n2_; have GE157 := n3_; clear n0_ n1_ n2_ n3_; clear hb hbox hg) | ((with_reducible refine gate_dst (N := 3) rfl ?_); refine zx 3 #[.int .i64 a1_0, .int .i64 a1_1] 49 ?_; intro gb158 hg w12 hbox hb; have n0_ := aM (blk_below (g := gb157) (o := .cells #[.int .i64 a0_0, .int .i64 a0_1] 49 (0, 0)) (mB_ BK157.out) hb); have n1_ := aM (below_step (zs GE157.out) hb); have n2_ := aM (hbox); have n3_ := aM ((zf GE157.out : w.heap.size ≤ gb158)); have n4_ := aM ((zf GE157.out : w.heap.size ≤ gb158)); have n5_ := aM ((zl BK157.out : gb157 ≠ gb158)); have n6_ := aM ((zn BK157.out : gb158 ≠ gb157)); clear BK157 HB; have BK157 := n0_; have HB := n1_; have BK158 := n2_; have GW158 := n3_; have GE158 := n4_; have NB157_158 := n5_; have NB158_157 := n6_; clear n0_ n1_ n2_ n3_ n4_ n5_ n6_ hb hbox hg; have hnb13 := NB157_158.out; have hnc13 := NB158_157.out; have hcz14_0 : w12.cell? ⟨gb157, 0, none⟩ = some (.int .i64 a0_0) := (blk_cell BK157.out 0).trans rfl; have hcz14_1 : w12.cell? ⟨gb157, 1, none⟩ = some (.int .i64 a0_1) := (blk_cell BK157.out 1).trans rfl; have hfz14_0 := blk_frozen BK157.out 0; have hfz14_1 := blk_frozen BK157.out 1; have hcz15_0 : w12.cell? ⟨gb158, 0, none⟩ = some (.int .i64 a1_0) := (blk_cell BK158.out 0).trans rfl; have hcz15_1 : w12.cell? ⟨gb158, 1, none⟩ = some (.int .i64 a1_1) := (blk_cell BK158.out 1).trans rfl; have hfz15_0 := blk_frozen BK158.out 0; have hfz15_1 := blk_frozen BK158.out 1) | ((with_reducible refine gate_callee (f := 89) rfl ?_); refine goesL_ (some 10) rfl rfl Try.func89 (by kernel_rfl) rfl #[.int .i64 a0_1, .int .i64 a1_1] rfl zm ?_; (with_reducible refine (cmp_Compare_int64.calls a0_1 a1_1 t159 _ A3.out).mono ?_); rintro e w' ⟨rfl, ⟨nd, rfl⟩⟩; refine ⟨_, rfl, ?_⟩))
  go_ret
  exact ⟨zw, zt GE157.out GE158.out⟩
 rw [if_pos c4] at H
 have c4b0 : (t159 == 0) = true := beq_iff_eq.mpr c4
 have c4b1 : (t159 != 0) = false := bne_eq_false_iff_eq.mpr c4
 clear c4
 replace H := Option.bind_eq_some_iff.mp H
 obtain ⟨t160, A50, H⟩ := H
 replace H : (some t160) = some r := H
 have A5 := aM A50
 clear A50
 obtain rfl := Option.some.inj H
 go_enter Try.func69, Try.ntmps69
 go_wp2_with (first | ((with_reducible refine gate_dst (N := 2) rfl ?_); refine zx 2 #[.int .i64 a0_0, .int .i64 a0_1] 49 ?_; intro gb157 hg w6 hbox hb; have n0_ := aM (below_step zb hb); have n1_ := aM (hbox); have n2_ := aM ((ze : w.heap.size ≤ gb157)); have n3_ := aM ((ze : w.heap.size ≤ gb157)); clear HB; have HB := n0_; have BK157 := n1_; have GW157 := n2_; have GE157 := n3_; clear n0_ n1_ n2_ n3_; clear hb hbox hg) | ((with_reducible refine gate_dst (N := 3) rfl ?_); refine zx 3 #[.int .i64 a1_0, .int .i64 a1_1] 49 ?_; intro gb158 hg w7 hbox hb; have n0_ := aM (blk_below (g := gb157) (o := .cells #[.int .i64 a0_0, .int .i64 a0_1] 49 (0, 0)) (mB_ BK157.out) hb); have n1_ := aM (below_step (zs GE157.out) hb); have n2_ := aM (hbox); have n3_ := aM ((zf GE157.out : w.heap.size ≤ gb158)); have n4_ := aM ((zf GE157.out : w.heap.size ≤ gb158)); have n5_ := aM ((zl BK157.out : gb157 ≠ gb158)); have n6_ := aM ((zn BK157.out : gb158 ≠ gb157)); clear BK157 HB; have BK157 := n0_; have HB := n1_; have BK158 := n2_; have GW158 := n3_; have GE158 := n4_; have NB157_158 := n5_; have NB158_157 := n6_; clear n0_ n1_ n2_ n3_ n4_ n5_ n6_ hb hbox hg; have hnb8 := NB157_158.out; have hnc8 := NB158_157.out; have hcz9_0 : w7.cell? ⟨gb157, 0, none⟩ = some (.int .i64 a0_0) := (blk_cell BK157.out 0).trans rfl; have hcz9_1 : w7.cell? ⟨gb157, 1, none⟩ = some (.int .i64 a0_1) := (blk_cell BK157.out 1).trans rfl; have hfz9_0 := blk_frozen BK157.out 0; have hfz9_1 := blk_frozen BK157.out 1; have hcz10_0 : w7.cell? ⟨gb158, 0, none⟩ = some (.int .i64 a1_0) := (blk_cell BK158.out 0).trans rfl; have hcz10_1 : w7.cell? ⟨gb158, 1, none⟩ = some (.int .i64 a1_1) := (blk_cell BK158.out 1).trans rfl; have hfz10_0 := blk_frozen BK158.out 0; have hfz10_1 := blk_frozen BK158.out 1) | ((with_reducible refine gate_callee (f := 89) rfl ?_); refine goesL_ (some 10) rfl rfl Try.func89 (by kernel_rfl) rfl #[.int .i64 a0_1, .int .i64 a1_1] rfl zm ?_; (with_reducible refine (cmp_Compare_int64.calls a0_1 a1_1 t159 _ A3.out).mono ?_); rintro e w' ⟨rfl, ⟨nd, rfl⟩⟩; refine ⟨_, rfl, ?_⟩) | ((with_reducible refine gate_callee (f := 89) rfl ?_); refine goesL_ (some 18) rfl rfl Try.func89 (by kernel_rfl) rfl #[.int .i64 a0_0, .int .i64 a1_0] rfl zm ?_; (with_reducible refine (cmp_Compare_int64.calls a0_0 a1_0 t160 _ A5.out).mono ?_); rintro e w' ⟨rfl, ⟨nd, rfl⟩⟩; refine ⟨_, rfl, ?_⟩))
 go_ret
 exact ⟨zw, zt GE157.out GE158.out⟩
def spec_l09Cube.f (a0_0 : Int) (a0_1 : Int) (a0_2 : Int) : Option (Bool) := (spec_l02Cell.f a0_0 a0_1).bind fun t187 => (if t187 = true then ((spec_l01In.f a0_2 (-100) 100).bind fun t188 => (some t188)) else (some false))
theorem spec_l09Cube.calls (a0_0 : Int) (a0_1 : Int) (a0_2 : Int) (r : Bool) (w : World) (h : spec_l09Cube.f a0_0 a0_1 a0_2 = some r) :
  Calls Try.prog 71 #[.agg #[.int .i64 a0_0, .int .i64 a0_1, .int .i64 a0_2]] w fun e w' => e = .returned (.bool r) ∧ Below w.heap.size w w' := by
 have hu47 := Try.underlying47
 have hu49 := Try.underlying49
 have HB := aM (Below.refl w.heap.size w)
 have H : ((spec_l02Cell.f a0_0 a0_1).bind fun t187 => (if t187 = true then ((spec_l01In.f a0_2 (-100) 100).bind fun t188 => (some t188)) else (some false))) = some r := h
 clear h
 replace H := Option.bind_eq_some_iff.mp H
 obtain ⟨t187, A20, H⟩ := H
 replace H : (if t187 = true then ((spec_l01In.f a0_2 (-100) 100).bind fun t188 => (some t188)) else (some false)) = some r := H
 have A2 := aM A20
 clear A20
 by_cases c3 : t187 = true
 rotate_left
 ·replace c3 := Bool.eq_false_iff.mpr c3
  subst c3
  have H1 : (some false) = some r := by rw [if_neg (show ¬ (false = true) by decide)] at H; exact H
  clear H
  have H := H1
  clear H1
  obtain rfl := Option.some.inj H
  go_enter Try.func71, Try.ntmps71
  go_wp2_with (first | ((with_reducible refine gate_dst (N := 1) rfl ?_); refine zx 1 #[.int .i64 a0_0, .int .i64 a0_1, .int .i64 a0_2] 47 ?_; intro gb186 hg w9 hbox hb; have n0_ := aM (below_step zb hb); have n1_ := aM (hbox); have n2_ := aM ((ze : w.heap.size ≤ gb186)); have n3_ := aM ((ze : w.heap.size ≤ gb186)); clear HB; have HB := n0_; have BK186 := n1_; have GW186 := n2_; have GE186 := n3_; clear n0_ n1_ n2_ n3_ hb hbox hg; have hcz10_0 : w9.cell? ⟨gb186, 0, none⟩ = some (.int .i64 a0_0) := (blk_cell BK186.out 0).trans rfl; have hcz10_1 : w9.cell? ⟨gb186, 1, none⟩ = some (.int .i64 a0_1) := (blk_cell BK186.out 1).trans rfl; have hcz10_2 : w9.cell? ⟨gb186, 2, none⟩ = some (.int .i64 a0_2) := (blk_cell BK186.out 2).trans rfl; have hfz10_0 := blk_frozen BK186.out 0; have hfz10_1 := blk_frozen BK186.out 1; have hfz10_2 := blk_frozen BK186.out 2) | ((with_reducible refine gate_callee (f := 65) rfl ?_); refine goesL_ (some 8) rfl rfl Try.func65 (by kernel_rfl) rfl #[.agg #[.int .i64 a0_0, .int .i64 a0_1]] rfl zm ?_; (with_reducible refine (spec_l02Cell.calls a0_0 a0_1 false _ A2.out).mono ?_); rintro e w11 ⟨rfl, hb⟩; refine ⟨_, rfl, ?_⟩; have n0_ := aM (blk_below (g := gb186) (o := .cells #[.int .i64 a0_0, .int .i64 a0_1, .int .i64 a0_2] 47 (0, 0)) (mB_ BK186.out) hb); have n1_ := aM (below_step (zs GE186.out) hb); clear BK186 HB; have BK186 := n0_; have HB := n1_; clear n0_ n1_; (try clear hb); (try clear hb2); (try clear hk); (try clear hi)))
  go_ret
  exact ⟨zw, zs GE186.out⟩
 subst c3
 have H1 : ((spec_l01In.f a0_2 (-100) 100).bind fun t188 => (some t188)) = some r := by rw [if_pos rfl] at H; exact H
 clear H
 have H := H1
 clear H1
 replace H := Option.bind_eq_some_iff.mp H
 obtain ⟨t188, A40, H⟩ := H
 replace H : (some t188) = some r := H
 have A4 := aM A40
 clear A40
 obtain rfl := Option.some.inj H
 go_enter Try.func71, Try.ntmps71
 go_wp2_with (first | ((with_reducible refine gate_dst (N := 1) rfl ?_); refine zx 1 #[.int .i64 a0_0, .int .i64 a0_1, .int .i64 a0_2] 47 ?_; intro gb186 hg w5 hbox hb; have n0_ := aM (below_step zb hb); have n1_ := aM (hbox); have n2_ := aM ((ze : w.heap.size ≤ gb186)); have n3_ := aM ((ze : w.heap.size ≤ gb186)); clear HB; have HB := n0_; have BK186 := n1_; have GW186 := n2_; have GE186 := n3_; clear n0_ n1_ n2_ n3_ hb hbox hg; have hcz6_0 : w5.cell? ⟨gb186, 0, none⟩ = some (.int .i64 a0_0) := (blk_cell BK186.out 0).trans rfl; have hcz6_1 : w5.cell? ⟨gb186, 1, none⟩ = some (.int .i64 a0_1) := (blk_cell BK186.out 1).trans rfl; have hcz6_2 : w5.cell? ⟨gb186, 2, none⟩ = some (.int .i64 a0_2) := (blk_cell BK186.out 2).trans rfl; have hfz6_0 := blk_frozen BK186.out 0; have hfz6_1 := blk_frozen BK186.out 1; have hfz6_2 := blk_frozen BK186.out 2) | ((with_reducible refine gate_callee (f := 65) rfl ?_); refine goesL_ (some 8) rfl rfl Try.func65 (by kernel_rfl) rfl #[.agg #[.int .i64 a0_0, .int .i64 a0_1]] rfl zm ?_; (with_reducible refine (spec_l02Cell.calls a0_0 a0_1 true _ A2.out).mono ?_); rintro e w7 ⟨rfl, hb⟩; refine ⟨_, rfl, ?_⟩; have n0_ := aM (blk_below (g := gb186) (o := .cells #[.int .i64 a0_0, .int .i64 a0_1, .int .i64 a0_2] 47 (0, 0)) (mB_ BK186.out) hb); have n1_ := aM (below_step (zs GE186.out) hb); clear BK186 HB; have BK186 := n0_; have HB := n1_; clear n0_ n1_; (try clear hb); (try clear hb2); (try clear hk); (try clear hi); have hcz8_0 : w7.cell? ⟨gb186, 0, none⟩ = some (.int .i64 a0_0) := (blk_cell BK186.out 0).trans rfl; have hcz8_1 : w7.cell? ⟨gb186, 1, none⟩ = some (.int .i64 a0_1) := (blk_cell BK186.out 1).trans rfl; have hcz8_2 : w7.cell? ⟨gb186, 2, none⟩ = some (.int .i64 a0_2) := (blk_cell BK186.out 2).trans rfl; have hfz8_0 := blk_frozen BK186.out 0; have hfz8_1 := blk_frozen BK186.out 1; have hfz8_2 := blk_frozen BK186.out 2) | (go_at_call 67; (with_reducible refine (spec_l01In.calls a0_2 (-100) 100 t188 _ A4.out).mono ?_); rintro e w' ⟨rfl, ⟨nd, rfl⟩⟩))
 go_ret
 exact ⟨zw, zs GE186.out⟩
def spec_l09Less.f (a0_0 : Int) (a0_1 : Int) (a0_2 : Int) (a1_0 : Int) (a1_1 : Int) (a1_2 : Int) : Option (Bool) := if a0_2 < a1_2 then (some true) else (if a0_2 = a1_2 then (if a0_1 < a1_1 then (some true) else (if a0_1 = a1_1 then (some (decide (a0_0 < a1_0))) else (some false))) else (some false))
theorem spec_l09Less.calls (a0_0 : Int) (a0_1 : Int) (a0_2 : Int) (a1_0 : Int) (a1_1 : Int) (a1_2 : Int) (r : Bool) (w : World) (h : spec_l09Less.f a0_0 a0_1 a0_2 a1_0 a1_1 a1_2 = some r) :
  Calls Try.prog 72 #[.agg #[.int .i64 a0_0, .int .i64 a0_1, .int .i64 a0_2], .agg #[.int .i64 a1_0, .int .i64 a1_1, .int .i64 a1_2]] w fun e w' => e = .returned (.bool r) ∧ Below w.heap.size w w' := by
 have hu47 := Try.underlying47
 have HB := aM (Below.refl w.heap.size w)
 have H : (if a0_2 < a1_2 then (some true) else (if a0_2 = a1_2 then (if a0_1 < a1_1 then (some true) else (if a0_1 = a1_1 then (some (decide (a0_0 < a1_0))) else (some false))) else (some false))) = some r := h
 clear h
 by_cases c3 : a0_2 < a1_2
 ·rw [if_pos c3] at H
  have c3b0 : decide (a0_2 < a1_2) = true := decide_eq_true c3
  clear c3
  obtain rfl := Option.some.inj H
  go_enter Try.func72, Try.ntmps72
  go_wp2_with (first | ((with_reducible refine gate_dst (N := 2) rfl ?_); refine zx 2 #[.int .i64 a0_0, .int .i64 a0_1, .int .i64 a0_2] 47 ?_; intro gb189 hg w4 hbox hb; have n0_ := aM (below_step zb hb); have n1_ := aM (hbox); have n2_ := aM ((ze : w.heap.size ≤ gb189)); have n3_ := aM ((ze : w.heap.size ≤ gb189)); clear HB; have HB := n0_; have BK189 := n1_; have GW189 := n2_; have GE189 := n3_; clear n0_ n1_ n2_ n3_; clear hb hbox hg) | ((with_reducible refine gate_dst (N := 3) rfl ?_); refine zx 3 #[.int .i64 a1_0, .int .i64 a1_1, .int .i64 a1_2] 47 ?_; intro gb190 hg w5 hbox hb; have n0_ := aM (blk_below (g := gb189) (o := .cells #[.int .i64 a0_0, .int .i64 a0_1, .int .i64 a0_2] 47 (0, 0)) (mB_ BK189.out) hb); have n1_ := aM (below_step (zs GE189.out) hb); have n2_ := aM (hbox); have n3_ := aM ((zf GE189.out : w.heap.size ≤ gb190)); have n4_ := aM ((zf GE189.out : w.heap.size ≤ gb190)); have n5_ := aM ((zl BK189.out : gb189 ≠ gb190)); have n6_ := aM ((zn BK189.out : gb190 ≠ gb189)); clear BK189 HB; have BK189 := n0_; have HB := n1_; have BK190 := n2_; have GW190 := n3_; have GE190 := n4_; have NB189_190 := n5_; have NB190_189 := n6_; clear n0_ n1_ n2_ n3_ n4_ n5_ n6_ hb hbox hg; have hnb6 := NB189_190.out; have hnc6 := NB190_189.out; have hcz7_0 : w5.cell? ⟨gb189, 0, none⟩ = some (.int .i64 a0_0) := (blk_cell BK189.out 0).trans rfl; have hcz7_1 : w5.cell? ⟨gb189, 1, none⟩ = some (.int .i64 a0_1) := (blk_cell BK189.out 1).trans rfl; have hcz7_2 : w5.cell? ⟨gb189, 2, none⟩ = some (.int .i64 a0_2) := (blk_cell BK189.out 2).trans rfl; have hfz7_0 := blk_frozen BK189.out 0; have hfz7_1 := blk_frozen BK189.out 1; have hfz7_2 := blk_frozen BK189.out 2; have hcz8_0 : w5.cell? ⟨gb190, 0, none⟩ = some (.int .i64 a1_0) := (blk_cell BK190.out 0).trans rfl; have hcz8_1 : w5.cell? ⟨gb190, 1, none⟩ = some (.int .i64 a1_1) := (blk_cell BK190.out 1).trans rfl; have hcz8_2 : w5.cell? ⟨gb190, 2, none⟩ = some (.int .i64 a1_2) := (blk_cell BK190.out 2).trans rfl; have hfz8_0 := blk_frozen BK190.out 0; have hfz8_1 := blk_frozen BK190.out 1; have hfz8_2 := blk_frozen BK190.out 2))
  go_ret
  exact ⟨zw, zt GE189.out GE190.out⟩
 rw [if_neg c3] at H
 have c3b0 : decide (a0_2 < a1_2) = false := decide_eq_false c3
 clear c3
 by_cases c9 : a0_2 = a1_2
 rotate_left
 ·rw [if_neg c9] at H
  have c9b0 : (a0_2 == a1_2) = false := beq_eq_false_iff_ne.mpr c9
  have c9b1 : (a0_2 != a1_2) = true := bne_iff_ne.mpr c9
  obtain rfl := Option.some.inj H
  go_enter Try.func72, Try.ntmps72
  go_wp2_with (first | ((with_reducible refine gate_dst (N := 2) rfl ?_); refine zx 2 #[.int .i64 a0_0, .int .i64 a0_1, .int .i64 a0_2] 47 ?_; intro gb189 hg w27 hbox hb; have n0_ := aM (below_step zb hb); have n1_ := aM (hbox); have n2_ := aM ((ze : w.heap.size ≤ gb189)); have n3_ := aM ((ze : w.heap.size ≤ gb189)); clear HB; have HB := n0_; have BK189 := n1_; have GW189 := n2_; have GE189 := n3_; clear n0_ n1_ n2_ n3_; clear hb hbox hg) | ((with_reducible refine gate_dst (N := 3) rfl ?_); refine zx 3 #[.int .i64 a1_0, .int .i64 a1_1, .int .i64 a1_2] 47 ?_; intro gb190 hg w28 hbox hb; have n0_ := aM (blk_below (g := gb189) (o := .cells #[.int .i64 a0_0, .int .i64 a0_1, .int .i64 a0_2] 47 (0, 0)) (mB_ BK189.out) hb); have n1_ := aM (below_step (zs GE189.out) hb); have n2_ := aM (hbox); have n3_ := aM ((zf GE189.out : w.heap.size ≤ gb190)); have n4_ := aM ((zf GE189.out : w.heap.size ≤ gb190)); have n5_ := aM ((zl BK189.out : gb189 ≠ gb190)); have n6_ := aM ((zn BK189.out : gb190 ≠ gb189)); clear BK189 HB; have BK189 := n0_; have HB := n1_; have BK190 := n2_; have GW190 := n3_; have GE190 := n4_; have NB189_190 := n5_; have NB190_189 := n6_; clear n0_ n1_ n2_ n3_ n4_ n5_ n6_ hb hbox hg; have hnb29 := NB189_190.out; have hnc29 := NB190_189.out; have hcz30_0 : w28.cell? ⟨gb189, 0, none⟩ = some (.int .i64 a0_0) := (blk_cell BK189.out 0).trans rfl; have hcz30_1 : w28.cell? ⟨gb189, 1, none⟩ = some (.int .i64 a0_1) := (blk_cell BK189.out 1).trans rfl; have hcz30_2 : w28.cell? ⟨gb189, 2, none⟩ = some (.int .i64 a0_2) := (blk_cell BK189.out 2).trans rfl; have hfz30_0 := blk_frozen BK189.out 0; have hfz30_1 := blk_frozen BK189.out 1; have hfz30_2 := blk_frozen BK189.out 2; have hcz31_0 : w28.cell? ⟨gb190, 0, none⟩ = some (.int .i64 a1_0) := (blk_cell BK190.out 0).trans rfl; have hcz31_1 : w28.cell? ⟨gb190, 1, none⟩ = some (.int .i64 a1_1) := (blk_cell BK190.out 1).trans rfl; have hcz31_2 : w28.cell? ⟨gb190, 2, none⟩ = some (.int .i64 a1_2) := (blk_cell BK190.out 2).trans rfl; have hfz31_0 := blk_frozen BK190.out 0; have hfz31_1 := blk_frozen BK190.out 1; have hfz31_2 := blk_frozen BK190.out 2))
  go_ret
  exact ⟨zw, zt GE189.out GE190.out⟩
 rw [if_pos c9] at H
 have c9b0 : (a0_2 == a1_2) = true := beq_iff_eq.mpr c9
 have c9b1 : (a0_2 != a1_2) = false := bne_eq_false_iff_eq.mpr c9
 clear c9
 by_cases c10 : a0_1 < a1_1
 ·rw [if_pos c10] at H
  have c10b0 : decide (a0_1 < a1_1) = true := decide_eq_true c10
  clear c10
  obtain rfl := Option.some.inj H
  go_enter Try.func72, Try.ntmps72
  go_wp2_with (first | ((with_reducible refine gate_dst (N := 2) rfl ?_); refine zx 2 #[.int .i64 a0_0, .int .i64 a0_1, .int .i64 a0_2] 47 ?_; intro gb189 hg w11 hbox hb; have n0_ := aM (below_step zb hb); have n1_ := aM (hbox); have n2_ := aM ((ze : w.heap.size ≤ gb189)); have n3_ := aM ((ze : w.heap.size ≤ gb189)); clear HB; have HB := n0_; have BK189 := n1_; have GW189 := n2_; have GE189 := n3_; clear n0_ n1_ n2_ n3_; clear hb hbox hg) | ((with_reducible refine gate_dst (N := 3) rfl ?_); refine zx 3 #[.int .i64 a1_0, .int .i64 a1_1, .int .i64 a1_2] 47 ?_; intro gb190 hg w12 hbox hb; have n0_ := aM (blk_below (g := gb189) (o := .cells #[.int .i64 a0_0, .int .i64 a0_1, .int .i64 a0_2] 47 (0, 0)) (mB_ BK189.out) hb); have n1_ := aM (below_step (zs GE189.out) hb); have n2_ := aM (hbox); have n3_ := aM ((zf GE189.out : w.heap.size ≤ gb190)); have n4_ := aM ((zf GE189.out : w.heap.size ≤ gb190)); have n5_ := aM ((zl BK189.out : gb189 ≠ gb190)); have n6_ := aM ((zn BK189.out : gb190 ≠ gb189)); clear BK189 HB; have BK189 := n0_; have HB := n1_; have BK190 := n2_; have GW190 := n3_; have GE190 := n4_; have NB189_190 := n5_; have NB190_189 := n6_; clear n0_ n1_ n2_ n3_ n4_ n5_ n6_ hb hbox hg; have hnb13 := NB189_190.out; have hnc13 := NB190_189.out; have hcz14_0 : w12.cell? ⟨gb189, 0, none⟩ = some (.int .i64 a0_0) := (blk_cell BK189.out 0).trans rfl; have hcz14_1 : w12.cell? ⟨gb189, 1, none⟩ = some (.int .i64 a0_1) := (blk_cell BK189.out 1).trans rfl; have hcz14_2 : w12.cell? ⟨gb189, 2, none⟩ = some (.int .i64 a0_2) := (blk_cell BK189.out 2).trans rfl; have hfz14_0 := blk_frozen BK189.out 0; have hfz14_1 := blk_frozen BK189.out 1; have hfz14_2 := blk_frozen BK189.out 2; have hcz15_0 : w12.cell? ⟨gb190, 0, none⟩ = some (.int .i64 a1_0) := (blk_cell BK190.out 0).trans rfl; have hcz15_1 : w12.cell? ⟨gb190, 1, none⟩ = some (.int .i64 a1_1) := (blk_cell BK190.out 1).trans rfl; have hcz15_2 : w12.cell? ⟨gb190, 2, none⟩ = some (.int .i64 a1_2) := (blk_cell BK190.out 2).trans rfl; have hfz15_0 := blk_frozen BK190.out 0; have hfz15_1 := blk_frozen BK190.out 1; have hfz15_2 := blk_frozen BK190.out 2))
  go_ret
  exact ⟨zw, zt GE189.out GE190.out⟩
 rw [if_neg c10] at H
 have c10b0 : decide (a0_1 < a1_1) = false := decide_eq_false c10
 clear c10
 by_cases c16 : a0_1 = a1_1
 rotate_left
 ·rw [if_neg c16] at H
  have c16b0 : (a0_1 == a1_1) = false := beq_eq_false_iff_ne.mpr c16
  have c16b1 : (a0_1 != a1_1) = true := bne_iff_ne.mpr c16
  obtain rfl := Option.some.inj H
  go_enter Try.func72, Try.ntmps72
  go_wp2_with (first | ((with_reducible refine gate_dst (N := 2) rfl ?_); refine zx 2 #[.int .i64 a0_0, .int .i64 a0_1, .int .i64 a0_2] 47 ?_; intro gb189 hg w22 hbox hb; have n0_ := aM (below_step zb hb); have n1_ := aM (hbox); have n2_ := aM ((ze : w.heap.size ≤ gb189)); have n3_ := aM ((ze : w.heap.size ≤ gb189)); clear HB; have HB := n0_; have BK189 := n1_; have GW189 := n2_; have GE189 := n3_; clear n0_ n1_ n2_ n3_; clear hb hbox hg) | ((with_reducible refine gate_dst (N := 3) rfl ?_); refine zx 3 #[.int .i64 a1_0, .int .i64 a1_1, .int .i64 a1_2] 47 ?_; intro gb190 hg w23 hbox hb; have n0_ := aM (blk_below (g := gb189) (o := .cells #[.int .i64 a0_0, .int .i64 a0_1, .int .i64 a0_2] 47 (0, 0)) (mB_ BK189.out) hb); have n1_ := aM (below_step (zs GE189.out) hb); have n2_ := aM (hbox); have n3_ := aM ((zf GE189.out : w.heap.size ≤ gb190)); have n4_ := aM ((zf GE189.out : w.heap.size ≤ gb190)); have n5_ := aM ((zl BK189.out : gb189 ≠ gb190)); have n6_ := aM ((zn BK189.out : gb190 ≠ gb189)); clear BK189 HB; have BK189 := n0_; have HB := n1_; have BK190 := n2_; have GW190 := n3_; have GE190 := n4_; have NB189_190 := n5_; have NB190_189 := n6_; clear n0_ n1_ n2_ n3_ n4_ n5_ n6_ hb hbox hg; have hnb24 := NB189_190.out; have hnc24 := NB190_189.out; have hcz25_0 : w23.cell? ⟨gb189, 0, none⟩ = some (.int .i64 a0_0) := (blk_cell BK189.out 0).trans rfl; have hcz25_1 : w23.cell? ⟨gb189, 1, none⟩ = some (.int .i64 a0_1) := (blk_cell BK189.out 1).trans rfl; have hcz25_2 : w23.cell? ⟨gb189, 2, none⟩ = some (.int .i64 a0_2) := (blk_cell BK189.out 2).trans rfl; have hfz25_0 := blk_frozen BK189.out 0; have hfz25_1 := blk_frozen BK189.out 1; have hfz25_2 := blk_frozen BK189.out 2; have hcz26_0 : w23.cell? ⟨gb190, 0, none⟩ = some (.int .i64 a1_0) := (blk_cell BK190.out 0).trans rfl; have hcz26_1 : w23.cell? ⟨gb190, 1, none⟩ = some (.int .i64 a1_1) := (blk_cell BK190.out 1).trans rfl; have hcz26_2 : w23.cell? ⟨gb190, 2, none⟩ = some (.int .i64 a1_2) := (blk_cell BK190.out 2).trans rfl; have hfz26_0 := blk_frozen BK190.out 0; have hfz26_1 := blk_frozen BK190.out 1; have hfz26_2 := blk_frozen BK190.out 2))
  go_ret
  exact ⟨zw, zt GE189.out GE190.out⟩
 rw [if_pos c16] at H
 have c16b0 : (a0_1 == a1_1) = true := beq_iff_eq.mpr c16
 have c16b1 : (a0_1 != a1_1) = false := bne_eq_false_iff_eq.mpr c16
 clear c16
 obtain rfl := Option.some.inj H
 go_enter Try.func72, Try.ntmps72
 go_wp2_with (first | ((with_reducible refine gate_dst (N := 2) rfl ?_); refine zx 2 #[.int .i64 a0_0, .int .i64 a0_1, .int .i64 a0_2] 47 ?_; intro gb189 hg w17 hbox hb; have n0_ := aM (below_step zb hb); have n1_ := aM (hbox); have n2_ := aM ((ze : w.heap.size ≤ gb189)); have n3_ := aM ((ze : w.heap.size ≤ gb189)); clear HB; have HB := n0_; have BK189 := n1_; have GW189 := n2_; have GE189 := n3_; clear n0_ n1_ n2_ n3_; clear hb hbox hg) | ((with_reducible refine gate_dst (N := 3) rfl ?_); refine zx 3 #[.int .i64 a1_0, .int .i64 a1_1, .int .i64 a1_2] 47 ?_; intro gb190 hg w18 hbox hb; have n0_ := aM (blk_below (g := gb189) (o := .cells #[.int .i64 a0_0, .int .i64 a0_1, .int .i64 a0_2] 47 (0, 0)) (mB_ BK189.out) hb); have n1_ := aM (below_step (zs GE189.out) hb); have n2_ := aM (hbox); have n3_ := aM ((zf GE189.out : w.heap.size ≤ gb190)); have n4_ := aM ((zf GE189.out : w.heap.size ≤ gb190)); have n5_ := aM ((zl BK189.out : gb189 ≠ gb190)); have n6_ := aM ((zn BK189.out : gb190 ≠ gb189)); clear BK189 HB; have BK189 := n0_; have HB := n1_; have BK190 := n2_; have GW190 := n3_; have GE190 := n4_; have NB189_190 := n5_; have NB190_189 := n6_; clear n0_ n1_ n2_ n3_ n4_ n5_ n6_ hb hbox hg; have hnb19 := NB189_190.out; have hnc19 := NB190_189.out; have hcz20_0 : w18.cell? ⟨gb189, 0, none⟩ = some (.int .i64 a0_0) := (blk_cell BK189.out 0).trans rfl; have hcz20_1 : w18.cell? ⟨gb189, 1, none⟩ = some (.int .i64 a0_1) := (blk_cell BK189.out 1).trans rfl; have hcz20_2 : w18.cell? ⟨gb189, 2, none⟩ = some (.int .i64 a0_2) := (blk_cell BK189.out 2).trans rfl; have hfz20_0 := blk_frozen BK189.out 0; have hfz20_1 := blk_frozen BK189.out 1; have hfz20_2 := blk_frozen BK189.out 2; have hcz21_0 : w18.cell? ⟨gb190, 0, none⟩ = some (.int .i64 a1_0) := (blk_cell BK190.out 0).trans rfl; have hcz21_1 : w18.cell? ⟨gb190, 1, none⟩ = some (.int .i64 a1_1) := (blk_cell BK190.out 1).trans rfl; have hcz21_2 : w18.cell? ⟨gb190, 2, none⟩ = some (.int .i64 a1_2) := (blk_cell BK190.out 2).trans rfl; have hfz21_0 := blk_frozen BK190.out 0; have hfz21_1 := blk_frozen BK190.out 1; have hfz21_2 := blk_frozen BK190.out 2))
 go_ret
 exact ⟨zw, zt GE189.out GE190.out⟩
def spec_l09Solid.l0 : Nat → List (S47) → Int → Option (Bool)
 | 0, _, _ => none
 | k + 1, x0, x3 => if x3 < (x0.length : Int) then (if 0 ≤ x3 then ((spec_l09Cube.f ((rd_T47 x0 x3).f0) ((rd_T47 x0 x3).f1) ((rd_T47 x0 x3).f2)).bind fun t193 => (if t193 = true then (if x3 > 0 then (if 0 ≤ (wrap64 (x3 - 1)) then (if (wrap64 (x3 - 1)) < (x0.length : Int) then ((spec_l09Less.f ((rd_T47 x0 (wrap64 (x3 - 1))).f0) ((rd_T47 x0 (wrap64 (x3 - 1))).f1) ((rd_T47 x0 (wrap64 (x3 - 1))).f2) ((rd_T47 x0 x3).f0) ((rd_T47 x0 x3).f1) ((rd_T47 x0 x3).f2)).bind fun t196 => (if t196 = true then (spec_l09Solid.l0 k x0 (wrap64 (x3 + 1))) else (some false))) else (none)) else (none)) else (spec_l09Solid.l0 k x0 (wrap64 (x3 + 1)))) else (some false))) else (none)) else ((spec_l01In.f (x0.length : Int) 1 24).bind fun t191 => (some t191))
def spec_l09Solid.f (k : Nat) (l0 : List (S47)) : Option (Bool) := spec_l09Solid.l0 k l0 0
def spec_l09Solid.T4 : Bool × List (List Nat × List Nat) := (true, [([], []), ([], []), ([0, 1], [0, 1]), ([2], [2]), ([3], [3]), ([4], [4]), ([5, 4], [5]), ([6], [6]), ([7, 6], [6, 7]), ([8, 6, 6], [6, 8]), ([9], [9]), ([9], [9]), ([11, 9], [9, 11]), ([10, 12, 9], [9, 10, 12]), ([13, 9], [9, 13]), ([9], [9]), ([9], [9]), ([15, 16, 9], [9, 15, 16]), ([17, 9], [9, 17]), ([14, 18, 9, 9], [9, 14, 18]), ([19, 9], [9, 19]), ([9, 20, 6], [6, 9, 20]), ([6, 21], [6, 21])])
def spec_l09Solid.B4 : List Nat := [0, 0, 3, 7, 15, 31, 63, 127, 255, 511, 1023, 1023, 3071, 8191, 16383, 1023, 1023, 99327, 230399, 524287, 1048575, 2097151, 4194303]
theorem spec_l09Solid.tab4 : rtab .any (opsOf Try.f44 4) = spec_l09Solid.T4 := by kernel_rfl
theorem spec_l09Solid.bits4 : waitsOk spec_l09Solid.T4.2 spec_l09Solid.B4 = true := by kernel_rfl
abbrev spec_l09Solid.c3 (w : World) (a : Addr) (i : Int) (l : List S47) (R : Prop) : Prop := w.cell? (a.add (i.toNat * 3)) = some (.int .i64 ((rd_T47 l i).f0)) ∧ w.cell? ⟨(a.add (i.toNat * 3)).block, (a.add (i.toNat * 3)).off + 1, none⟩ = some (.int .i64 ((rd_T47 l i).f1)) ∧ w.cell? ⟨(a.add (i.toNat * 3)).block, (a.add (i.toNat * 3)).off + 2, none⟩ = some (.int .i64 ((rd_T47 l i).f2)) ∧ R
abbrev spec_l09Solid.d3 (w : World) (a : Addr) (i : Int) (l : List S47) : Prop := w.cell? (a.add (i.toNat * 3)) = some (.int .i64 ((rd_T47 l i).f0)) ∧ w.cell? ⟨(a.add (i.toNat * 3)).block, (a.add (i.toNat * 3)).off + 1, none⟩ = some (.int .i64 ((rd_T47 l i).f1)) ∧ w.cell? ⟨(a.add (i.toNat * 3)).block, (a.add (i.toNat * 3)).off + 2, none⟩ = some (.int .i64 ((rd_T47 l i).f2))
theorem spec_l09Solid.calls (k : Nat) (A0 : Option Addr) (c0 : Nat) (l0 : List (S47)) (r : Bool) (w : World) (hr0 : Kd.C k47 w A0 l0.length l0) (hc0 : l0.length ≤ c0) (h : spec_l09Solid.f k l0 = some r) :
  Calls Try.prog 44 #[.slice A0 l0.length c0] w fun e w' => e = .returned (.bool r) ∧ Below w.heap.size w w' := by
 have hu47 := Try.underlying47
 have HR0 := aM hr0
 have HC0 := aM hc0
 clear hr0 hc0
 have HB := aM (Below.refl w.heap.size w)
 have H : (spec_l09Solid.l0 k l0 0) = some r := h
 clear h
 have H' := aM H
 clear H
 go_enter Try.func44, Try.ntmps44
 go_wp2
 go_loopg [3] k (fun kq v3 w' => ∃ (x3_1 : Int), v3 = .int .i64 x3_1 ∧ Aside0 (spec_l09Solid.l0 kq l0 x3_1 = some r) ∧ Aside0 (kq ≤ k) ∧ Aside0 (Below w.heap.size w w'))
 case atStart => exact ⟨(0), zr, H', ⟨Nat.le_refl _⟩, ⟨zb⟩⟩
 case round =>
  clear H'
  obtain ⟨x3_1, rfl, HA, HK1, HB⟩ := hrel
  cases gk with
  | zero => exact absurd HA.out (by simp [spec_l09Solid.l0])
  | succ k1 =>
   have H := HA.out
   clear HA
   simp only [spec_l09Solid.l0] at H
   by_cases c2 : x3_1 < (l0.length : Int)
   rotate_left
   ·rw [if_neg c2] at H
    have c2b0 : decide (x3_1 < (l0.length : Int)) = false := decide_eq_false c2
    clear c2
    replace H := Option.bind_eq_some_iff.mp H
    obtain ⟨t191, A220, H⟩ := H
    replace H : (some t191) = some r := H
    have A22 := aM A220
    clear A220
    obtain rfl := Option.some.inj H
    go_wp2_with (first | ((with_reducible refine gate_callee (f := 67) rfl ?_); refine goesL_ (some 35) rfl rfl Try.func67 (by kernel_rfl) rfl #[.int .i64 (l0.length : Int), .int .i64 1, .int .i64 24] rfl zm ?_; (with_reducible refine (spec_l01In.calls (l0.length : Int) 1 24 t191 _ A22.out).mono ?_); rintro e w' ⟨rfl, ⟨nd, rfl⟩⟩; refine ⟨_, rfl, ?_⟩))
    go_ret
    exact ⟨zw, zb⟩
   rw [if_pos c2] at H
   have c2b0 : decide (x3_1 < (l0.length : Int)) = true := decide_eq_true c2
   clear c2
   by_cases c3 : 0 ≤ x3_1
   rotate_left
   ·rw [if_neg c3] at H
    exact absurd H (by simp)
   rw [if_pos c3] at H
   have c3b0 : decide (0 ≤ x3_1) = true := decide_eq_true c3
   clear c3
   replace H := Option.bind_eq_some_iff.mp H
   obtain ⟨t193, A40, H⟩ := H
   replace H : (if t193 = true then (if x3_1 > 0 then (if 0 ≤ (wrap64 (x3_1 - 1)) then (if (wrap64 (x3_1 - 1)) < (l0.length : Int) then ((spec_l09Less.f ((rd_T47 l0 (wrap64 (x3_1 - 1))).f0) ((rd_T47 l0 (wrap64 (x3_1 - 1))).f1) ((rd_T47 l0 (wrap64 (x3_1 - 1))).f2) ((rd_T47 l0 x3_1).f0) ((rd_T47 l0 x3_1).f1) ((rd_T47 l0 x3_1).f2)).bind fun t196 => (if t196 = true then (spec_l09Solid.l0 k1 l0 (wrap64 (x3_1 + 1))) else (some false))) else (none)) else (none)) else (spec_l09Solid.l0 k1 l0 (wrap64 (x3_1 + 1)))) else (some false)) = some r := H
   have A4 := aM A40
   clear A40
   by_cases c5 : t193 = true
   rotate_left
   ·replace c5 := Bool.eq_false_iff.mpr c5
    subst c5
    have H1 : (some false) = some r := by rw [if_neg (show ¬ (false = true) by decide)] at H; exact H
    clear H
    have H := H1
    clear H1
    obtain rfl := Option.some.inj H
    try go_wp2
    have n0_ := aM (below_drew1 HB.out)
    clear HB
    have HB := n0_
    clear n0_
    have p192 : 0 ≤ (x3_1 : Int) := of_decide_eq_true za
    have q192 : x3_1 < (l0.length : Int) := of_decide_eq_true za
    obtain ⟨ad192, e192, hx192_0, hx192_1, hx192_2⟩ := at_T47 HR0.out x3_1 p192 q192
    have hw192_2 := hx192_2
    have hw192_1 := hx192_1
    have hw192_0 := hx192_0
    cases e192
    replace hx192_0 := zk HB.out hx192_0
    replace hx192_1 := zk HB.out hx192_1
    replace hx192_2 := zk HB.out hx192_2
    replace p192 := eq_true p192
    replace q192 := eq_true q192
    refine start_ (n := 23) (S := fun w' => (spec_l09Solid.d3 w' ad192 x3_1 l0)) (ds := []) zA11 (by kernel_rfl) rfl rfl ⟨(zk HB.out hw192_0), (zk HB.out hw192_1), (zk HB.out hw192_2)⟩ (fun hHeld => ?_); refine with_tabW spec_l09Solid.tab4 spec_l09Solid.bits4 (fun HT_ HW_ => ?_)
    generalize wr.drew = w20 at HB hx192_0 hx192_1 hx192_2 hHeld ⊢
    refine zp 0 (some 10) ?_ zA12 rfl rfl (Or.inl ⟨by rfl, ?_⟩) ?_ ?_ ?_
    rotate_left
    ·intro w'
     go_simp
     with_reducible rfl
    rotate_left
    ·simp only [Act.put, xA, xB, xC, i64_w, i32_w]
     rfl
    refine zp 1 (some 11) ?_ zA13 rfl rfl (Or.inl ⟨by rfl, ?_⟩) ?_ ?_ ?_
    rotate_left
    ·intro w'
     go_simp
     with_reducible rfl
    rotate_left
    ·simp only [Act.put, xA, xB, xC, i64_w, i32_w]
     rfl
    refine zp 2 (some 12) ?_ zA14 rfl rfl (Or.inl ⟨by rfl, ?_⟩) ?_ ?_ ?_
    rotate_left
    ·intro w'
     go_simp
     with_reducible rfl
    rotate_left
    ·simp only [Act.put, xA, xB, xC, i64_w, i32_w]
     rfl
    refine zu 3 (some 13) ?_ zA15 rfl rfl (Or.inl ⟨by rfl, ?_⟩) hHeld ?_ ?_ ?_
    rotate_left
    ·rintro w' ⟨s0, s1, s2⟩
     go_simp
     with_reducible rfl
    rotate_left
    ·simp only [Act.put, xA, xB, xC, i64_w, i32_w]
     rfl
    refine one_ (i := 4) (N := some 14) zA16 rfl rfl (one_of HT_.out (by kernel_rfl)) (by decide) (fun K hK => ?_)
    refine goes_ Try.func71 (by kernel_rfl) rfl #[.agg #[.int .i64 ((rd_T47 l0 x3_1).f0), .int .i64 ((rd_T47 l0 x3_1).f1), .int .i64 ((rd_T47 l0 x3_1).f2)]] (by rfl) rfl rfl zm ?_
    with_reducible refine (spec_l09Cube.calls ((rd_T47 l0 x3_1).f0) ((rd_T47 l0 x3_1).f1) ((rd_T47 l0 x3_1).f2) false _ A4.out).mono ?_
    rintro e w21 ⟨rfl, hb⟩
    refine ⟨_, rfl, ?_⟩
    have n0_ := aM (below_step zb hb)
    clear HB
    have HB := n0_
    clear n0_
    (try clear hb)
    (try clear hb2)
    (try clear hk)
    (try clear hi)
    refine hK.out _ _ ⟨(zk HB.out hw192_0), (zk HB.out hw192_1), (zk HB.out hw192_2)⟩ (fun hHeld => ?_)
    clear hK K
    refine norm_ (a' := ?_) ?_ ?_
    rotate_left
    ·show Act.put _ (some 14) _ = _
     simp only [Act.put, xA, xB, xC, i64_w, i32_w]
     rfl
    refine zp 5 (some 15) ?_ zA17 rfl rfl (Or.inl ⟨by rfl, ?_⟩) ?_ ?_ ?_
    rotate_left
    ·intro w'
     go_simp
     with_reducible rfl
    rotate_left
    ·simp only [Act.put, xA, xB, xC, i64_w, i32_w]
     rfl
    refine zp 6 (some 16) ?_ zA18 rfl rfl (Or.inl ⟨by rfl, ?_⟩) ?_ ?_ ?_
    rotate_left
    ·intro w'
     go_simp
     with_reducible rfl
    rotate_left
    ·simp only [Act.put, xA, xB, xC, i64_w, i32_w]
     rfl
    refine zp 7 (some 17) undef zA19 rfl rfl (Or.inr ⟨by rfl, rfl⟩) ?_ ?_ ?_
    rotate_left
    ·simp only [Act.put, xA, xB, xC, i64_w, i32_w]
     rfl
    refine zp 8 (some 18) undef zA20 rfl rfl (Or.inr ⟨by rfl, rfl⟩) ?_ ?_ ?_
    rotate_left
    ·simp only [Act.put, xA, xB, xC, i64_w, i32_w]
     rfl
    refine zp 9 (some 19) undef zA21 rfl rfl (Or.inr ⟨by rfl, rfl⟩) ?_ ?_ ?_
    rotate_left
    ·simp only [Act.put, xA, xB, xC, i64_w, i32_w]
     rfl
    refine zp 10 (some 20) undef zA22 rfl rfl (Or.inr ⟨by rfl, rfl⟩) ?_ ?_ ?_
    rotate_left
    ·simp only [Act.put, xA, xB, xC, i64_w, i32_w]
     rfl
    refine zp 11 (some 21) undef zA23 rfl rfl (Or.inr ⟨by rfl, rfl⟩) ?_ ?_ ?_
    rotate_left
    ·simp only [Act.put, xA, xB, xC, i64_w, i32_w]
     rfl
    refine zp 12 (some 22) undef zA24 rfl rfl (Or.inr ⟨by rfl, rfl⟩) ?_ ?_ ?_
    rotate_left
    ·simp only [Act.put, xA, xB, xC, i64_w, i32_w]
     rfl
    refine zp 13 (some 23) undef zA25 rfl rfl (Or.inr ⟨by rfl, rfl⟩) ?_ ?_ ?_
    rotate_left
    ·simp only [Act.put, xA, xB, xC, i64_w, i32_w]
     rfl
    refine zp 14 (some 24) undef zA26 rfl rfl (Or.inr ⟨by rfl, rfl⟩) ?_ ?_ ?_
    rotate_left
    ·simp only [Act.put, xA, xB, xC, i64_w, i32_w]
     rfl
    refine zp 15 (some 25) undef zA27 rfl rfl (Or.inr ⟨by rfl, rfl⟩) ?_ ?_ ?_
    rotate_left
    ·simp only [Act.put, xA, xB, xC, i64_w, i32_w]
     rfl
    refine zp 16 (some 26) undef zA28 rfl rfl (Or.inr ⟨by rfl, rfl⟩) ?_ ?_ ?_
    rotate_left
    ·simp only [Act.put, xA, xB, xC, i64_w, i32_w]
     rfl
    refine zp 17 (some 27) undef zA29 rfl rfl (Or.inr ⟨by rfl, rfl⟩) ?_ ?_ ?_
    rotate_left
    ·simp only [Act.put, xA, xB, xC, i64_w, i32_w]
     rfl
    refine zp 18 (some 28) undef zA30 rfl rfl (Or.inr ⟨by rfl, rfl⟩) ?_ ?_ ?_
    rotate_left
    ·simp only [Act.put, xA, xB, xC, i64_w, i32_w]
     rfl
    refine zp 19 (some 29) undef zA31 rfl rfl (Or.inr ⟨by rfl, rfl⟩) ?_ ?_ ?_
    rotate_left
    ·simp only [Act.put, xA, xB, xC, i64_w, i32_w]
     rfl
    refine zp 20 (some 30) undef zA32 rfl rfl (Or.inr ⟨by rfl, rfl⟩) ?_ ?_ ?_
    rotate_left
    ·simp only [Act.put, xA, xB, xC, i64_w, i32_w]
     rfl
    refine zp 21 (some 31) undef zA33 rfl rfl (Or.inr ⟨by rfl, rfl⟩) ?_ ?_ ?_
    rotate_left
    ·simp only [Act.put, xA, xB, xC, i64_w, i32_w]
     rfl
    refine zp 22 (some 32) ?_ zA34 rfl rfl (Or.inl ⟨by rfl, ?_⟩) ?_ ?_ ?_
    rotate_left
    ·intro w'
     go_simp
     with_reducible rfl
    rotate_left
    ·simp only [Act.put, xA, xB, xC, i64_w, i32_w]
     rfl
    refine done_ (done_of HT_.out (by kernel_rfl)) ?_
    try go_wp2
    go_ret
    exact ⟨zw, zb⟩
   subst c5
   have H1 : (if x3_1 > 0 then (if 0 ≤ (wrap64 (x3_1 - 1)) then (if (wrap64 (x3_1 - 1)) < (l0.length : Int) then ((spec_l09Less.f ((rd_T47 l0 (wrap64 (x3_1 - 1))).f0) ((rd_T47 l0 (wrap64 (x3_1 - 1))).f1) ((rd_T47 l0 (wrap64 (x3_1 - 1))).f2) ((rd_T47 l0 x3_1).f0) ((rd_T47 l0 x3_1).f1) ((rd_T47 l0 x3_1).f2)).bind fun t196 => (if t196 = true then (spec_l09Solid.l0 k1 l0 (wrap64 (x3_1 + 1))) else (some false))) else (none)) else (none)) else (spec_l09Solid.l0 k1 l0 (wrap64 (x3_1 + 1)))) = some r := by rw [if_pos rfl] at H; exact H
   clear H
   have H := H1
   clear H1
   by_cases c6 : x3_1 > 0
   rotate_left
   ·rw [if_neg c6] at H
    have c6b0 : decide (0 < x3_1) = false := decide_eq_false c6
    clear c6
    have H' := aM H
    clear H
    try go_wp2
    have n0_ := aM (below_drew1 HB.out)
    clear HB
    have HB := n0_
    clear n0_
    have p192 : 0 ≤ (x3_1 : Int) := of_decide_eq_true za
    have q192 : x3_1 < (l0.length : Int) := of_decide_eq_true za
    obtain ⟨ad192, e192, hx192_0, hx192_1, hx192_2⟩ := at_T47 HR0.out x3_1 p192 q192
    have hw192_2 := hx192_2
    have hw192_1 := hx192_1
    have hw192_0 := hx192_0
    cases e192
    replace hx192_0 := zk HB.out hx192_0
    replace hx192_1 := zk HB.out hx192_1
    replace hx192_2 := zk HB.out hx192_2
    replace p192 := eq_true p192
    replace q192 := eq_true q192
    refine start_ (n := 23) (S := fun w' => (spec_l09Solid.d3 w' ad192 x3_1 l0)) (ds := []) zA11 (by kernel_rfl) rfl rfl ⟨(zk HB.out hw192_0), (zk HB.out hw192_1), (zk HB.out hw192_2)⟩ (fun hHeld => ?_); refine with_tabW spec_l09Solid.tab4 spec_l09Solid.bits4 (fun HT_ HW_ => ?_)
    generalize wr.drew = w18 at HB hx192_0 hx192_1 hx192_2 hHeld ⊢
    refine zp 0 (some 10) ?_ zA12 rfl rfl (Or.inl ⟨by rfl, ?_⟩) ?_ ?_ ?_
    rotate_left
    ·intro w'
     go_simp
     with_reducible rfl
    rotate_left
    ·simp only [Act.put, xA, xB, xC, i64_w, i32_w]
     rfl
    refine zp 1 (some 11) ?_ zA13 rfl rfl (Or.inl ⟨by rfl, ?_⟩) ?_ ?_ ?_
    rotate_left
    ·intro w'
     go_simp
     with_reducible rfl
    rotate_left
    ·simp only [Act.put, xA, xB, xC, i64_w, i32_w]
     rfl
    refine zp 2 (some 12) ?_ zA14 rfl rfl (Or.inl ⟨by rfl, ?_⟩) ?_ ?_ ?_
    rotate_left
    ·intro w'
     go_simp
     with_reducible rfl
    rotate_left
    ·simp only [Act.put, xA, xB, xC, i64_w, i32_w]
     rfl
    refine zu 3 (some 13) ?_ zA15 rfl rfl (Or.inl ⟨by rfl, ?_⟩) hHeld ?_ ?_ ?_
    rotate_left
    ·rintro w' ⟨s0, s1, s2⟩
     go_simp
     with_reducible rfl
    rotate_left
    ·simp only [Act.put, xA, xB, xC, i64_w, i32_w]
     rfl
    refine one_ (i := 4) (N := some 14) zA16 rfl rfl (one_of HT_.out (by kernel_rfl)) (by decide) (fun K hK => ?_)
    refine goes_ Try.func71 (by kernel_rfl) rfl #[.agg #[.int .i64 ((rd_T47 l0 x3_1).f0), .int .i64 ((rd_T47 l0 x3_1).f1), .int .i64 ((rd_T47 l0 x3_1).f2)]] (by rfl) rfl rfl zm ?_
    with_reducible refine (spec_l09Cube.calls ((rd_T47 l0 x3_1).f0) ((rd_T47 l0 x3_1).f1) ((rd_T47 l0 x3_1).f2) true _ A4.out).mono ?_
    rintro e w19 ⟨rfl, hb⟩
    refine ⟨_, rfl, ?_⟩
    have n0_ := aM (below_step zb hb)
    clear HB
    have HB := n0_
    clear n0_
    (try clear hb)
    (try clear hb2)
    (try clear hk)
    (try clear hi)
    refine hK.out _ _ ⟨(zk HB.out hw192_0), (zk HB.out hw192_1), (zk HB.out hw192_2)⟩ (fun hHeld => ?_)
    clear hK K
    refine norm_ (a' := ?_) ?_ ?_
    rotate_left
    ·show Act.put _ (some 14) _ = _
     simp only [Act.put, xA, xB, xC, i64_w, i32_w]
     rfl
    refine zp 5 (some 15) ?_ zA17 rfl rfl (Or.inl ⟨by rfl, ?_⟩) ?_ ?_ ?_
    rotate_left
    ·intro w'
     go_simp
     with_reducible rfl
    rotate_left
    ·simp only [Act.put, xA, xB, xC, i64_w, i32_w]
     rfl
    refine zp 6 (some 16) ?_ zA18 rfl rfl (Or.inl ⟨by rfl, ?_⟩) ?_ ?_ ?_
    rotate_left
    ·intro w'
     go_simp
     with_reducible rfl
    rotate_left
    ·simp only [Act.put, xA, xB, xC, i64_w, i32_w]
     rfl
    refine zp 7 (some 17) ?_ zA19 rfl rfl (Or.inl ⟨by rfl, ?_⟩) ?_ ?_ ?_
    rotate_left
    ·intro w'
     go_simp
     with_reducible rfl
    rotate_left
    ·simp only [Act.put, xA, xB, xC, i64_w, i32_w]
     rfl
    refine zp 8 (some 18) ?_ zA20 rfl rfl (Or.inl ⟨by rfl, ?_⟩) ?_ ?_ ?_
    rotate_left
    ·intro w'
     go_simp
     with_reducible rfl
    rotate_left
    ·simp only [Act.put, xA, xB, xC, i64_w, i32_w]
     rfl
    refine zp 9 (some 19) ?_ zA21 rfl rfl (Or.inl ⟨by rfl, ?_⟩) ?_ ?_ ?_
    rotate_left
    ·intro w'
     go_simp
     with_reducible rfl
    rotate_left
    ·simp only [Act.put, xA, xB, xC, i64_w, i32_w]
     rfl
    refine zp 10 (some 20) undef zA22 rfl rfl (Or.inr ⟨by rfl, rfl⟩) ?_ ?_ ?_
    rotate_left
    ·simp only [Act.put, xA, xB, xC, i64_w, i32_w]
     rfl
    refine zp 11 (some 21) undef zA23 rfl rfl (Or.inr ⟨by rfl, rfl⟩) ?_ ?_ ?_
    rotate_left
    ·simp only [Act.put, xA, xB, xC, i64_w, i32_w]
     rfl
    refine zp 12 (some 22) undef zA24 rfl rfl (Or.inr ⟨by rfl, rfl⟩) ?_ ?_ ?_
    rotate_left
    ·simp only [Act.put, xA, xB, xC, i64_w, i32_w]
     rfl
    refine zp 13 (some 23) undef zA25 rfl rfl (Or.inr ⟨by rfl, rfl⟩) ?_ ?_ ?_
    rotate_left
    ·simp only [Act.put, xA, xB, xC, i64_w, i32_w]
     rfl
    refine zp 14 (some 24) undef zA26 rfl rfl (Or.inr ⟨by rfl, rfl⟩) ?_ ?_ ?_
    rotate_left
    ·simp only [Act.put, xA, xB, xC, i64_w, i32_w]
     rfl
    refine zp 15 (some 25) undef zA27 rfl rfl (Or.inr ⟨by rfl, rfl⟩) ?_ ?_ ?_
    rotate_left
    ·simp only [Act.put, xA, xB, xC, i64_w, i32_w]
     rfl
    refine zp 16 (some 26) undef zA28 rfl rfl (Or.inr ⟨by rfl, rfl⟩) ?_ ?_ ?_
    rotate_left
    ·simp only [Act.put, xA, xB, xC, i64_w, i32_w]
     rfl
    refine zp 17 (some 27) undef zA29 rfl rfl (Or.inr ⟨by rfl, rfl⟩) ?_ ?_ ?_
    rotate_left
    ·simp only [Act.put, xA, xB, xC, i64_w, i32_w]
     rfl
    refine zp 18 (some 28) undef zA30 rfl rfl (Or.inr ⟨by rfl, rfl⟩) ?_ ?_ ?_
    rotate_left
    ·simp only [Act.put, xA, xB, xC, i64_w, i32_w]
     rfl
    refine zp 19 (some 29) undef zA31 rfl rfl (Or.inr ⟨by rfl, rfl⟩) ?_ ?_ ?_
    rotate_left
    ·simp only [Act.put, xA, xB, xC, i64_w, i32_w]
     rfl
    refine zp 20 (some 30) undef zA32 rfl rfl (Or.inr ⟨by rfl, rfl⟩) ?_ ?_ ?_
    rotate_left
    ·simp only [Act.put, xA, xB, xC, i64_w, i32_w]
     rfl
    refine zp 21 (some 31) ?_ zA33 rfl rfl (Or.inl ⟨by rfl, ?_⟩) ?_ ?_ ?_
    rotate_left
    ·intro w'
     go_simp
     with_reducible rfl
    rotate_left
    ·simp only [Act.put, xA, xB, xC, i64_w, i32_w]
     rfl
    refine zp 22 (some 32) ?_ zA34 rfl rfl (Or.inl ⟨by rfl, ?_⟩) ?_ ?_ ?_
    rotate_left
    ·intro w'
     go_simp
     with_reducible rfl
    rotate_left
    ·simp only [Act.put, xA, xB, xC, i64_w, i32_w]
     rfl
    refine done_ (done_of HT_.out (by kernel_rfl)) ?_
    try go_wp2
    go_roundg k1
    case measure => have := HK1.out; omega
    case rel => exact ⟨(wrap64 (x3_1 + 1)), zr, H', ⟨by have := HK1.out; omega⟩, ⟨zb⟩⟩
   rw [if_pos c6] at H
   have c6b0 : decide (0 < x3_1) = true := decide_eq_true c6
   clear c6
   obtain ⟨ji7, hji7⟩ : ∃ j_ : Int, (wrap64 (x3_1 - 1)) = j_ := ⟨_, rfl⟩
   replace H : (if 0 ≤ (ji7) then (if (ji7) < (l0.length : Int) then ((spec_l09Less.f ((rd_T47 l0 (ji7)).f0) ((rd_T47 l0 (ji7)).f1) ((rd_T47 l0 (ji7)).f2) ((rd_T47 l0 x3_1).f0) ((rd_T47 l0 x3_1).f1) ((rd_T47 l0 x3_1).f2)).bind fun t196 => (if t196 = true then (spec_l09Solid.l0 k1 l0 (wrap64 (x3_1 + 1))) else (some false))) else (none)) else (none)) = some r := by first | (rw [hji7] at H; exact H) | (simp only [hji7] at H ⊢; exact H)
   (try rw [hji7] at A4)
   have hji7w : (IntKind.i64.wrap (x3_1 - 1)) = ji7 := (i64_w _).trans hji7
   by_cases c8 : 0 ≤ (ji7)
   rotate_left
   ·rw [if_neg c8] at H
    exact absurd H (by simp)
   rw [if_pos c8] at H
   have c8b0 : decide (0 ≤ (ji7)) = true := decide_eq_true c8
   clear c8
   by_cases c9 : (ji7) < (l0.length : Int)
   rotate_left
   ·rw [if_neg c9] at H
    exact absurd H (by simp)
   rw [if_pos c9] at H
   have c9b0 : decide ((ji7) < (l0.length : Int)) = true := decide_eq_true c9
   clear c9
   replace H := Option.bind_eq_some_iff.mp H
   obtain ⟨t196, A100, H⟩ := H
   replace H : (if t196 = true then (spec_l09Solid.l0 k1 l0 (wrap64 (x3_1 + 1))) else (some false)) = some r := H
   have A10 := aM A100
   clear A100
   by_cases c11 : t196 = true
   rotate_left
   ·replace c11 := Bool.eq_false_iff.mpr c11
    subst c11
    have H1 : (some false) = some r := by rw [if_neg (show ¬ (false = true) by decide)] at H; exact H
    clear H
    have H := H1
    clear H1
    obtain rfl := Option.some.inj H
    try go_wp2
    have n0_ := aM (below_drew1 HB.out)
    clear HB
    have HB := n0_
    clear n0_
    have p192 : 0 ≤ (x3_1 : Int) := of_decide_eq_true za
    have q192 : x3_1 < (l0.length : Int) := of_decide_eq_true za
    obtain ⟨ad192, e192, hx192_0, hx192_1, hx192_2⟩ := at_T47 HR0.out x3_1 p192 q192
    have hw192_2 := hx192_2
    have hw192_1 := hx192_1
    have hw192_0 := hx192_0
    cases e192
    replace hx192_0 := zk HB.out hx192_0
    replace hx192_1 := zk HB.out hx192_1
    replace hx192_2 := zk HB.out hx192_2
    replace p192 := eq_true p192
    replace q192 := eq_true q192
    have p194 : 0 ≤ ((ji7) : Int) := of_decide_eq_true za
    have q194 : (ji7) < (l0.length : Int) := of_decide_eq_true za
    obtain ⟨ad194, e194, hx194_0, hx194_1, hx194_2⟩ := at_T47 HR0.out (ji7) p194 q194
    have hw194_2 := hx194_2
    have hw194_1 := hx194_1
    have hw194_0 := hx194_0
    obtain rfl : ad192 = ad194 := (by injection e194)
    replace hx194_0 := zk HB.out hx194_0
    replace hx194_1 := zk HB.out hx194_1
    replace hx194_2 := zk HB.out hx194_2
    replace p194 := eq_true p194
    replace q194 := eq_true q194
    have p195 : 0 ≤ (x3_1 : Int) := of_decide_eq_true za
    have q195 : x3_1 < (l0.length : Int) := of_decide_eq_true za
    obtain ⟨ad195, e195, hx195_0, hx195_1, hx195_2⟩ := at_T47 HR0.out x3_1 p195 q195
    have hw195_2 := hx195_2
    have hw195_1 := hx195_1
    have hw195_0 := hx195_0
    obtain rfl : ad192 = ad195 := (by injection e195)
    replace hx195_0 := zk HB.out hx195_0
    replace hx195_1 := zk HB.out hx195_1
    replace hx195_2 := zk HB.out hx195_2
    replace p195 := eq_true p195
    replace q195 := eq_true q195
    refine start_ (n := 23) (S := fun w' => (spec_l09Solid.c3 w' ad192 x3_1 l0 (w'.cell? (ad192.add (((ji7)).toNat * 3)) = some (.int .i64 ((rd_T47 l0 (ji7)).f0)) ∧ w'.cell? ⟨(ad192.add (((ji7)).toNat * 3)).block, (ad192.add (((ji7)).toNat * 3)).off + 1, none⟩ = some (.int .i64 ((rd_T47 l0 (ji7)).f1)) ∧ w'.cell? ⟨(ad192.add (((ji7)).toNat * 3)).block, (ad192.add (((ji7)).toNat * 3)).off + 2, none⟩ = some (.int .i64 ((rd_T47 l0 (ji7)).f2)) ∧ (spec_l09Solid.d3 w' ad192 x3_1 l0)))) (ds := []) zA11 (by kernel_rfl) rfl rfl ⟨(zk HB.out hw192_0), (zk HB.out hw192_1), (zk HB.out hw192_2), (zk HB.out hw194_0), (zk HB.out hw194_1), (zk HB.out hw194_2), (zk HB.out hw195_0), (zk HB.out hw195_1), (zk HB.out hw195_2)⟩ (fun hHeld => ?_); refine with_tabW spec_l09Solid.tab4 spec_l09Solid.bits4 (fun HT_ HW_ => ?_)
    generalize wr.drew = w15 at HB hx192_0 hx192_1 hx192_2 hx194_0 hx194_1 hx194_2 hx195_0 hx195_1 hx195_2 hHeld ⊢
    refine zp 0 (some 10) ?_ zA12 rfl rfl (Or.inl ⟨by rfl, ?_⟩) ?_ ?_ ?_
    rotate_left
    ·intro w'
     go_simp
     with_reducible rfl
    rotate_left
    ·simp only [Act.put, xA, xB, xC, i64_w, i32_w]
     rfl
    refine zp 1 (some 11) ?_ zA13 rfl rfl (Or.inl ⟨by rfl, ?_⟩) ?_ ?_ ?_
    rotate_left
    ·intro w'
     go_simp
     with_reducible rfl
    rotate_left
    ·simp only [Act.put, xA, xB, xC, i64_w, i32_w]
     rfl
    refine zp 2 (some 12) ?_ zA14 rfl rfl (Or.inl ⟨by rfl, ?_⟩) ?_ ?_ ?_
    rotate_left
    ·intro w'
     go_simp
     with_reducible rfl
    rotate_left
    ·simp only [Act.put, xA, xB, xC, i64_w, i32_w]
     rfl
    refine zu 3 (some 13) ?_ zA15 rfl rfl (Or.inl ⟨by rfl, ?_⟩) hHeld ?_ ?_ ?_
    rotate_left
    ·rintro w' ⟨s0, s1, s2, s3, s4, s5, s6, s7, s8⟩
     go_simp
     with_reducible rfl
    rotate_left
    ·simp only [Act.put, xA, xB, xC, i64_w, i32_w]
     rfl
    refine one_ (i := 4) (N := some 14) zA16 rfl rfl (one_of HT_.out (by kernel_rfl)) (by decide) (fun K hK => ?_)
    refine goes_ Try.func71 (by kernel_rfl) rfl #[.agg #[.int .i64 ((rd_T47 l0 x3_1).f0), .int .i64 ((rd_T47 l0 x3_1).f1), .int .i64 ((rd_T47 l0 x3_1).f2)]] (by rfl) rfl rfl zm ?_
    with_reducible refine (spec_l09Cube.calls ((rd_T47 l0 x3_1).f0) ((rd_T47 l0 x3_1).f1) ((rd_T47 l0 x3_1).f2) true _ A4.out).mono ?_
    rintro e w16 ⟨rfl, hb⟩
    refine ⟨_, rfl, ?_⟩
    have n0_ := aM (below_step zb hb)
    clear HB
    have HB := n0_
    clear n0_
    (try clear hb)
    (try clear hb2)
    (try clear hk)
    (try clear hi)
    refine hK.out _ _ ⟨(zk HB.out hw192_0), (zk HB.out hw192_1), (zk HB.out hw192_2), (zk HB.out hw194_0), (zk HB.out hw194_1), (zk HB.out hw194_2), (zk HB.out hw195_0), (zk HB.out hw195_1), (zk HB.out hw195_2)⟩ (fun hHeld => ?_)
    clear hK K
    refine norm_ (a' := ?_) ?_ ?_
    rotate_left
    ·show Act.put _ (some 14) _ = _
     simp only [Act.put, xA, xB, xC, i64_w, i32_w]
     rfl
    refine zp 5 (some 15) ?_ zA17 rfl rfl (Or.inl ⟨by rfl, ?_⟩) ?_ ?_ ?_
    rotate_left
    ·intro w'
     go_simp
     with_reducible rfl
    rotate_left
    ·simp only [Act.put, xA, xB, xC, i64_w, i32_w]
     rfl
    refine zp 6 (some 16) ?_ zA18 rfl rfl (Or.inl ⟨by rfl, ?_⟩) ?_ ?_ ?_
    rotate_left
    ·intro w'
     go_simp
     with_reducible rfl
    rotate_left
    ·simp only [Act.put, xA, xB, xC, i64_w, i32_w]
     rfl
    refine zp 7 (some 17) ?_ zA19 rfl rfl (Or.inl ⟨by rfl, ?_⟩) ?_ ?_ ?_
    rotate_left
    ·intro w'
     go_simp
     with_reducible rfl
    rotate_left
    ·simp only [Act.put, xA, xB, xC, i64_w, i32_w]
     rfl
    refine zp 8 (some 18) ?_ zA20 rfl rfl (Or.inl ⟨by rfl, ?_⟩) ?_ ?_ ?_
    rotate_left
    ·intro w'
     go_simp
     with_reducible rfl
    rotate_left
    ·simp only [Act.put, xA, xB, xC, i64_w, i32_w]
     rfl
    refine zp 9 (some 19) ?_ zA21 rfl rfl (Or.inl ⟨by rfl, ?_⟩) ?_ ?_ ?_
    rotate_left
    ·intro w'
     go_simp
     with_reducible rfl
    rotate_left
    ·simp only [Act.put, xA, xB, xC, i64_w, i32_w]
     rfl
    refine zp 10 (some 20) ?_ zA22 rfl rfl (Or.inl ⟨by rfl, ?_⟩) ?_ ?_ ?_
    rotate_left
    ·intro w'
     go_simp
     with_reducible rfl
    rotate_left
    ·simp only [Act.put, xA, xB, xC, i64_w, i32_w]
     rfl
    refine zp 11 (some 21) ?_ zA23 rfl rfl (Or.inl ⟨by rfl, ?_⟩) ?_ ?_ ?_
    rotate_left
    ·intro w'
     go_simp
     with_reducible rfl
    rotate_left
    ·simp only [Act.put, xA, xB, xC, i64_w, i32_w]
     rfl
    refine zp 12 (some 22) ?_ zA24 rfl rfl (Or.inl ⟨by rfl, ?_⟩) ?_ ?_ ?_
    rotate_left
    ·intro w'
     go_simp
     with_reducible rfl
    rotate_left
    ·simp only [Act.put, xA, xB, xC, i64_w, i32_w]
     rfl
    refine zp 13 (some 23) ?_ zA25 rfl rfl (Or.inl ⟨by rfl, ?_⟩) ?_ ?_ ?_
    rotate_left
    ·intro w'
     go_simp
     with_reducible rfl
    rotate_left
    ·simp only [Act.put, xA, xB, xC, i64_w, i32_w]
     rfl
    refine zp 15 (some 25) ?_ zA35 rfl rfl (Or.inl ⟨by rfl, ?_⟩) ?_ ?_ ?_
    rotate_left
    ·intro w'
     go_simp
     with_reducible rfl
    rotate_left
    ·simp only [Act.put, xA, xB, xC, i64_w, i32_w]
     rfl
    refine zp 16 (some 26) ?_ zA36 rfl rfl (Or.inl ⟨by rfl, ?_⟩) ?_ ?_ ?_
    rotate_left
    ·intro w'
     go_simp
     with_reducible rfl
    rotate_left
    ·simp only [Act.put, xA, xB, xC, i64_w, i32_w]
     rfl
    refine zp 17 (some 27) ?_ zA37 rfl rfl (Or.inl ⟨by rfl, ?_⟩) ?_ ?_ ?_
    rotate_left
    ·intro w'
     go_simp
     with_reducible rfl
    rotate_left
    ·simp only [Act.put, xA, xB, xC, i64_w, i32_w]
     rfl
    refine zu 14 (some 24) ?_ zA29 rfl rfl (Or.inl ⟨by rfl, ?_⟩) hHeld ?_ ?_ ?_
    rotate_left
    ·rintro w' ⟨s0, s1, s2, s3, s4, s5, s6, s7, s8⟩
     go_simp
     with_reducible rfl
    rotate_left
    ·simp only [Act.put, xA, xB, xC, i64_w, i32_w]
     rfl
    refine zu 18 (some 28) ?_ zA30 rfl rfl (Or.inl ⟨by rfl, ?_⟩) hHeld ?_ ?_ ?_
    rotate_left
    ·rintro w' ⟨s0, s1, s2, s3, s4, s5, s6, s7, s8⟩
     go_simp
     with_reducible rfl
    rotate_left
    ·simp only [Act.put, xA, xB, xC, i64_w, i32_w]
     rfl
    refine one_ (i := 19) (N := some 29) zA31 rfl rfl (one_of HT_.out (by kernel_rfl)) (by decide) (fun K hK => ?_)
    refine goes_ Try.func72 (by kernel_rfl) rfl #[.agg #[.int .i64 ((rd_T47 l0 (ji7)).f0), .int .i64 ((rd_T47 l0 (ji7)).f1), .int .i64 ((rd_T47 l0 (ji7)).f2)], .agg #[.int .i64 ((rd_T47 l0 x3_1).f0), .int .i64 ((rd_T47 l0 x3_1).f1), .int .i64 ((rd_T47 l0 x3_1).f2)]] (by rfl) rfl rfl (by (try simp only [mA, mB, mC]); first | done | (simp only [hji7]; rfl) | rfl | (simp only [lD, lT]; rfl)) ?_
    with_reducible refine (spec_l09Less.calls ((rd_T47 l0 (ji7)).f0) ((rd_T47 l0 (ji7)).f1) ((rd_T47 l0 (ji7)).f2) ((rd_T47 l0 x3_1).f0) ((rd_T47 l0 x3_1).f1) ((rd_T47 l0 x3_1).f2) false _ A10.out).mono ?_
    rintro e w17 ⟨rfl, hb⟩
    refine ⟨_, rfl, ?_⟩
    have n0_ := aM (below_step zb hb)
    clear HB
    have HB := n0_
    clear n0_
    (try clear hb)
    (try clear hb2)
    (try clear hk)
    (try clear hi)
    refine hK.out _ _ ⟨(zk HB.out hw192_0), (zk HB.out hw192_1), (zk HB.out hw192_2), (zk HB.out hw194_0), (zk HB.out hw194_1), (zk HB.out hw194_2), (zk HB.out hw195_0), (zk HB.out hw195_1), (zk HB.out hw195_2)⟩ (fun hHeld => ?_)
    clear hK K
    refine norm_ (a' := ?_) ?_ ?_
    rotate_left
    ·show Act.put _ (some 29) _ = _
     simp only [Act.put, xA, xB, xC, i64_w, i32_w]
     rfl
    refine zp 20 (some 30) ?_ zA32 rfl rfl (Or.inl ⟨by rfl, ?_⟩) ?_ ?_ ?_
    rotate_left
    ·intro w'
     go_simp
     with_reducible rfl
    rotate_left
    ·simp only [Act.put, xA, xB, xC, i64_w, i32_w]
     rfl
    refine zp 21 (some 31) ?_ zA33 rfl rfl (Or.inl ⟨by rfl, ?_⟩) ?_ ?_ ?_
    rotate_left
    ·intro w'
     go_simp
     with_reducible rfl
    rotate_left
    ·simp only [Act.put, xA, xB, xC, i64_w, i32_w]
     rfl
    refine zp 22 (some 32) ?_ zA34 rfl rfl (Or.inl ⟨by rfl, ?_⟩) ?_ ?_ ?_
    rotate_left
    ·intro w'
     go_simp
     with_reducible rfl
    rotate_left
    ·simp only [Act.put, xA, xB, xC, i64_w, i32_w]
     rfl
    refine done_ (done_of HT_.out (by kernel_rfl)) ?_
    try go_wp2
    go_ret
    exact ⟨by first | rfl | (simp [errW_none, errW_some] <;> rfl) | (simp only [← hji7]; first | rfl | (simp [errW_none, errW_some] <;> rfl)) | (simp [*, errW_none, errW_some] <;> rfl), zb⟩
   subst c11
   have H1 : (spec_l09Solid.l0 k1 l0 (wrap64 (x3_1 + 1))) = some r := by rw [if_pos rfl] at H; exact H
   clear H
   have H := H1
   clear H1
   have H' := aM H
   clear H
   try go_wp2
   have n0_ := aM (below_drew1 HB.out)
   clear HB
   have HB := n0_
   clear n0_
   have p192 : 0 ≤ (x3_1 : Int) := of_decide_eq_true za
   have q192 : x3_1 < (l0.length : Int) := of_decide_eq_true za
   obtain ⟨ad192, e192, hx192_0, hx192_1, hx192_2⟩ := at_T47 HR0.out x3_1 p192 q192
   have hw192_2 := hx192_2
   have hw192_1 := hx192_1
   have hw192_0 := hx192_0
   cases e192
   replace hx192_0 := zk HB.out hx192_0
   replace hx192_1 := zk HB.out hx192_1
   replace hx192_2 := zk HB.out hx192_2
   replace p192 := eq_true p192
   replace q192 := eq_true q192
   have p194 : 0 ≤ ((ji7) : Int) := of_decide_eq_true za
   have q194 : (ji7) < (l0.length : Int) := of_decide_eq_true za
   obtain ⟨ad194, e194, hx194_0, hx194_1, hx194_2⟩ := at_T47 HR0.out (ji7) p194 q194
   have hw194_2 := hx194_2
   have hw194_1 := hx194_1
   have hw194_0 := hx194_0
   obtain rfl : ad192 = ad194 := (by injection e194)
   replace hx194_0 := zk HB.out hx194_0
   replace hx194_1 := zk HB.out hx194_1
   replace hx194_2 := zk HB.out hx194_2
   replace p194 := eq_true p194
   replace q194 := eq_true q194
   have p195 : 0 ≤ (x3_1 : Int) := of_decide_eq_true za
   have q195 : x3_1 < (l0.length : Int) := of_decide_eq_true za
   obtain ⟨ad195, e195, hx195_0, hx195_1, hx195_2⟩ := at_T47 HR0.out x3_1 p195 q195
   have hw195_2 := hx195_2
   have hw195_1 := hx195_1
   have hw195_0 := hx195_0
   obtain rfl : ad192 = ad195 := (by injection e195)
   replace hx195_0 := zk HB.out hx195_0
   replace hx195_1 := zk HB.out hx195_1
   replace hx195_2 := zk HB.out hx195_2
   replace p195 := eq_true p195
   replace q195 := eq_true q195
   refine start_ (n := 23) (S := fun w' => (spec_l09Solid.c3 w' ad192 x3_1 l0 (w'.cell? (ad192.add (((ji7)).toNat * 3)) = some (.int .i64 ((rd_T47 l0 (ji7)).f0)) ∧ w'.cell? ⟨(ad192.add (((ji7)).toNat * 3)).block, (ad192.add (((ji7)).toNat * 3)).off + 1, none⟩ = some (.int .i64 ((rd_T47 l0 (ji7)).f1)) ∧ w'.cell? ⟨(ad192.add (((ji7)).toNat * 3)).block, (ad192.add (((ji7)).toNat * 3)).off + 2, none⟩ = some (.int .i64 ((rd_T47 l0 (ji7)).f2)) ∧ (spec_l09Solid.d3 w' ad192 x3_1 l0)))) (ds := []) zA11 (by kernel_rfl) rfl rfl ⟨(zk HB.out hw192_0), (zk HB.out hw192_1), (zk HB.out hw192_2), (zk HB.out hw194_0), (zk HB.out hw194_1), (zk HB.out hw194_2), (zk HB.out hw195_0), (zk HB.out hw195_1), (zk HB.out hw195_2)⟩ (fun hHeld => ?_); refine with_tabW spec_l09Solid.tab4 spec_l09Solid.bits4 (fun HT_ HW_ => ?_)
   generalize wr.drew = w12 at HB hx192_0 hx192_1 hx192_2 hx194_0 hx194_1 hx194_2 hx195_0 hx195_1 hx195_2 hHeld ⊢
   refine zp 0 (some 10) ?_ zA12 rfl rfl (Or.inl ⟨by rfl, ?_⟩) ?_ ?_ ?_
   rotate_left
   ·intro w'
    go_simp
    with_reducible rfl
   rotate_left
   ·simp only [Act.put, xA, xB, xC, i64_w, i32_w]
    rfl
   refine zp 1 (some 11) ?_ zA13 rfl rfl (Or.inl ⟨by rfl, ?_⟩) ?_ ?_ ?_
   rotate_left
   ·intro w'
    go_simp
    with_reducible rfl
   rotate_left
   ·simp only [Act.put, xA, xB, xC, i64_w, i32_w]
    rfl
   refine zp 2 (some 12) ?_ zA14 rfl rfl (Or.inl ⟨by rfl, ?_⟩) ?_ ?_ ?_
   rotate_left
   ·intro w'
    go_simp
    with_reducible rfl
   rotate_left
   ·simp only [Act.put, xA, xB, xC, i64_w, i32_w]
    rfl
   refine zu 3 (some 13) ?_ zA15 rfl rfl (Or.inl ⟨by rfl, ?_⟩) hHeld ?_ ?_ ?_
   rotate_left
   ·rintro w' ⟨s0, s1, s2, s3, s4, s5, s6, s7, s8⟩
    go_simp
    with_reducible rfl
   rotate_left
   ·simp only [Act.put, xA, xB, xC, i64_w, i32_w]
    rfl
   refine one_ (i := 4) (N := some 14) zA16 rfl rfl (one_of HT_.out (by kernel_rfl)) (by decide) (fun K hK => ?_)
   refine goes_ Try.func71 (by kernel_rfl) rfl #[.agg #[.int .i64 ((rd_T47 l0 x3_1).f0), .int .i64 ((rd_T47 l0 x3_1).f1), .int .i64 ((rd_T47 l0 x3_1).f2)]] (by rfl) rfl rfl zm ?_
   with_reducible refine (spec_l09Cube.calls ((rd_T47 l0 x3_1).f0) ((rd_T47 l0 x3_1).f1) ((rd_T47 l0 x3_1).f2) true _ A4.out).mono ?_
   rintro e w13 ⟨rfl, hb⟩
   refine ⟨_, rfl, ?_⟩
   have n0_ := aM (below_step zb hb)
   clear HB
   have HB := n0_
   clear n0_
   (try clear hb)
   (try clear hb2)
   (try clear hk)
   (try clear hi)
   refine hK.out _ _ ⟨(zk HB.out hw192_0), (zk HB.out hw192_1), (zk HB.out hw192_2), (zk HB.out hw194_0), (zk HB.out hw194_1), (zk HB.out hw194_2), (zk HB.out hw195_0), (zk HB.out hw195_1), (zk HB.out hw195_2)⟩ (fun hHeld => ?_)
   clear hK K
   refine norm_ (a' := ?_) ?_ ?_
   rotate_left
   ·show Act.put _ (some 14) _ = _
    simp only [Act.put, xA, xB, xC, i64_w, i32_w]
    rfl
   refine zp 5 (some 15) ?_ zA17 rfl rfl (Or.inl ⟨by rfl, ?_⟩) ?_ ?_ ?_
   rotate_left
   ·intro w'
    go_simp
    with_reducible rfl
   rotate_left
   ·simp only [Act.put, xA, xB, xC, i64_w, i32_w]
    rfl
   refine zp 6 (some 16) ?_ zA18 rfl rfl (Or.inl ⟨by rfl, ?_⟩) ?_ ?_ ?_
   rotate_left
   ·intro w'
    go_simp
    with_reducible rfl
   rotate_left
   ·simp only [Act.put, xA, xB, xC, i64_w, i32_w]
    rfl
   refine zp 7 (some 17) ?_ zA19 rfl rfl (Or.inl ⟨by rfl, ?_⟩) ?_ ?_ ?_
   rotate_left
   ·intro w'
    go_simp
    with_reducible rfl
   rotate_left
   ·simp only [Act.put, xA, xB, xC, i64_w, i32_w]
    rfl
   refine zp 8 (some 18) ?_ zA20 rfl rfl (Or.inl ⟨by rfl, ?_⟩) ?_ ?_ ?_
   rotate_left
   ·intro w'
    go_simp
    with_reducible rfl
   rotate_left
   ·simp only [Act.put, xA, xB, xC, i64_w, i32_w]
    rfl
   refine zp 9 (some 19) ?_ zA21 rfl rfl (Or.inl ⟨by rfl, ?_⟩) ?_ ?_ ?_
   rotate_left
   ·intro w'
    go_simp
    with_reducible rfl
   rotate_left
   ·simp only [Act.put, xA, xB, xC, i64_w, i32_w]
    rfl
   refine zp 10 (some 20) ?_ zA22 rfl rfl (Or.inl ⟨by rfl, ?_⟩) ?_ ?_ ?_
   rotate_left
   ·intro w'
    go_simp
    with_reducible rfl
   rotate_left
   ·simp only [Act.put, xA, xB, xC, i64_w, i32_w]
    rfl
   refine zp 11 (some 21) ?_ zA23 rfl rfl (Or.inl ⟨by rfl, ?_⟩) ?_ ?_ ?_
   rotate_left
   ·intro w'
    go_simp
    with_reducible rfl
   rotate_left
   ·simp only [Act.put, xA, xB, xC, i64_w, i32_w]
    rfl
   refine zp 12 (some 22) ?_ zA24 rfl rfl (Or.inl ⟨by rfl, ?_⟩) ?_ ?_ ?_
   rotate_left
   ·intro w'
    go_simp
    with_reducible rfl
   rotate_left
   ·simp only [Act.put, xA, xB, xC, i64_w, i32_w]
    rfl
   refine zp 13 (some 23) ?_ zA25 rfl rfl (Or.inl ⟨by rfl, ?_⟩) ?_ ?_ ?_
   rotate_left
   ·intro w'
    go_simp
    with_reducible rfl
   rotate_left
   ·simp only [Act.put, xA, xB, xC, i64_w, i32_w]
    rfl
   refine zp 15 (some 25) ?_ zA35 rfl rfl (Or.inl ⟨by rfl, ?_⟩) ?_ ?_ ?_
   rotate_left
   ·intro w'
    go_simp
    with_reducible rfl
   rotate_left
   ·simp only [Act.put, xA, xB, xC, i64_w, i32_w]
    rfl
   refine zp 16 (some 26) ?_ zA36 rfl rfl (Or.inl ⟨by rfl, ?_⟩) ?_ ?_ ?_
   rotate_left
   ·intro w'
    go_simp
    with_reducible rfl
   rotate_left
   ·simp only [Act.put, xA, xB, xC, i64_w, i32_w]
    rfl
   refine zp 17 (some 27) ?_ zA37 rfl rfl (Or.inl ⟨by rfl, ?_⟩) ?_ ?_ ?_
   rotate_left
   ·intro w'
    go_simp
    with_reducible rfl
   rotate_left
   ·simp only [Act.put, xA, xB, xC, i64_w, i32_w]
    rfl
   refine zu 14 (some 24) ?_ zA29 rfl rfl (Or.inl ⟨by rfl, ?_⟩) hHeld ?_ ?_ ?_
   rotate_left
   ·rintro w' ⟨s0, s1, s2, s3, s4, s5, s6, s7, s8⟩
    go_simp
    with_reducible rfl
   rotate_left
   ·simp only [Act.put, xA, xB, xC, i64_w, i32_w]
    rfl
   refine zu 18 (some 28) ?_ zA30 rfl rfl (Or.inl ⟨by rfl, ?_⟩) hHeld ?_ ?_ ?_
   rotate_left
   ·rintro w' ⟨s0, s1, s2, s3, s4, s5, s6, s7, s8⟩
    go_simp
    with_reducible rfl
   rotate_left
   ·simp only [Act.put, xA, xB, xC, i64_w, i32_w]
    rfl
   refine one_ (i := 19) (N := some 29) zA31 rfl rfl (one_of HT_.out (by kernel_rfl)) (by decide) (fun K hK => ?_)
   refine goes_ Try.func72 (by kernel_rfl) rfl #[.agg #[.int .i64 ((rd_T47 l0 (ji7)).f0), .int .i64 ((rd_T47 l0 (ji7)).f1), .int .i64 ((rd_T47 l0 (ji7)).f2)], .agg #[.int .i64 ((rd_T47 l0 x3_1).f0), .int .i64 ((rd_T47 l0 x3_1).f1), .int .i64 ((rd_T47 l0 x3_1).f2)]] (by rfl) rfl rfl (by (try simp only [mA, mB, mC]); first | done | (simp only [hji7]; rfl) | rfl | (simp only [lD, lT]; rfl)) ?_
   with_reducible refine (spec_l09Less.calls ((rd_T47 l0 (ji7)).f0) ((rd_T47 l0 (ji7)).f1) ((rd_T47 l0 (ji7)).f2) ((rd_T47 l0 x3_1).f0) ((rd_T47 l0 x3_1).f1) ((rd_T47 l0 x3_1).f2) true _ A10.out).mono ?_
   rintro e w14 ⟨rfl, hb⟩
   refine ⟨_, rfl, ?_⟩
   have n0_ := aM (below_step zb hb)
   clear HB
   have HB := n0_
   clear n0_
   (try clear hb)
   (try clear hb2)
   (try clear hk)
   (try clear hi)
   refine hK.out _ _ ⟨(zk HB.out hw192_0), (zk HB.out hw192_1), (zk HB.out hw192_2), (zk HB.out hw194_0), (zk HB.out hw194_1), (zk HB.out hw194_2), (zk HB.out hw195_0), (zk HB.out hw195_1), (zk HB.out hw195_2)⟩ (fun hHeld => ?_)
   clear hK K
   refine norm_ (a' := ?_) ?_ ?_
   rotate_left
   ·show Act.put _ (some 29) _ = _
    simp only [Act.put, xA, xB, xC, i64_w, i32_w]
    rfl
   refine zp 20 (some 30) ?_ zA32 rfl rfl (Or.inl ⟨by rfl, ?_⟩) ?_ ?_ ?_
   rotate_left
   ·intro w'
    go_simp
    with_reducible rfl
   rotate_left
   ·simp only [Act.put, xA, xB, xC, i64_w, i32_w]
    rfl
   refine zp 21 (some 31) ?_ zA33 rfl rfl (Or.inl ⟨by rfl, ?_⟩) ?_ ?_ ?_
   rotate_left
   ·intro w'
    go_simp
    with_reducible rfl
   rotate_left
   ·simp only [Act.put, xA, xB, xC, i64_w, i32_w]
    rfl
   refine zp 22 (some 32) ?_ zA34 rfl rfl (Or.inl ⟨by rfl, ?_⟩) ?_ ?_ ?_
   rotate_left
   ·intro w'
    go_simp
    with_reducible rfl
   rotate_left
   ·simp only [Act.put, xA, xB, xC, i64_w, i32_w]
    rfl
   refine done_ (done_of HT_.out (by kernel_rfl)) ?_
   try go_wp2
   go_roundg k1
   case measure => have := HK1.out; omega
   case rel => exact ⟨(wrap64 (x3_1 + 1)), zr, H', ⟨by have := HK1.out; omega⟩, ⟨zb⟩⟩
mutual
def spec_LayersOf.l0 : Nat → List (S47) → List (List (S49)) → Int → Option ((List (List (S49))) × Int)
 | 0, _, _, _ => none
 | k + 1, x0, x4, x5 => if 0 ≤ (wrap64 ((x0.length : Int) - 1)) then (if (wrap64 ((x0.length : Int) - 1)) < (x0.length : Int) then (if x5 ≤ ((rd_T47 x0 (wrap64 ((x0.length : Int) - 1))).f2) then (spec_LayersOf.l1 k x0 x4 x5 (([] : List (S49))) 0) else (some (x4, 0))) else (none)) else (none)
def spec_LayersOf.l1 : Nat → List (S47) → List (List (S49)) → Int → List (S49) → Int → Option ((List (List (S49))) × Int)
 | 0, _, _, _, _, _ => none
 | k + 1, x0, x4, x5, x6, x7 => if x7 < (x0.length : Int) then (if 0 ≤ x7 then (if ((rd_T47 x0 x7).f2) = x5 then (if x6.length < 8796093022208 then (spec_LayersOf.l1 k x0 x4 x5 (x6 ++ [(⟨(rd_T47 x0 x7).f0, (rd_T47 x0 x7).f1⟩ : S49)]) (wrap64 (x7 + 1))) else (none)) else (spec_LayersOf.l1 k x0 x4 x5 x6 (wrap64 (x7 + 1)))) else (none)) else (if x4.length < 5864062014805 then (spec_LayersOf.l0 k x0 (x4 ++ [x6]) (wrap64 (x5 + 1))) else (none))
end
def spec_LayersOf.f (k : Nat) (l0 : List (S47)) : Option ((List (List (S49))) × Int) := (spec_l09Solid.f k l0).bind fun t197 => (if t197 = true then (if 0 < (l0.length : Int) then (spec_LayersOf.l0 k l0 (([] : List (List (S49)))) ((rd_T47 l0 0).f2)) else (none)) else (some (([] : List (List (S49))), 1)))
def spec_LayersOf.T12 : Bool × List (List Nat × List Nat) := (true, [([], []), ([], []), ([], []), ([1, 2], [1, 2]), ([3], [3]), ([4], [4]), ([], []), ([], []), ([6, 7], [6, 7]), ([8], [8]), ([9], [9]), ([5, 10], [5, 10]), ([11], [11]), ([0, 12], [0, 12]), ([13, 13, 0, 1, 2, 3, 4, 5, 6, 7, 8, 9, 10, 11, 12, 13], [0, 13])])
def spec_LayersOf.B12 : List Nat := [0, 0, 0, 6, 14, 30, 0, 0, 192, 448, 960, 2046, 4094, 8191, 16383]
theorem spec_LayersOf.tab12 : rtab .any (opsOf Try.f14 12) = spec_LayersOf.T12 := by kernel_rfl
theorem spec_LayersOf.bits12 : waitsOk spec_LayersOf.T12.2 spec_LayersOf.B12 = true := by kernel_rfl
theorem spec_LayersOf.calls (k : Nat) (A0 : Option Addr) (c0 : Nat) (l0 : List (S47)) (r1 : List (List (S49))) (r2 : Int) (w : World) (hr0 : Kd.C k47 w A0 l0.length l0) (hc0 : l0.length ≤ c0) (h : spec_LayersOf.f k l0 = some (r1, r2)) :
  Calls Try.prog 14 #[.slice A0 l0.length c0] w fun e w' => ∃ v0_ : Value, e = .returned (.tuple #[v0_, .int .i64 r2]) ∧ Kd.S (Kd.slice 49 k49) 26 w' w.heap.size (fun _ => True) v0_ r1 ∧ Below w.heap.size w w' := by
 have hu49 := Try.underlying49
 have HR0 := aM hr0
 have HC0 := aM hc0
 clear hr0 hc0
 have HB := aM (Below.refl w.heap.size w)
 have H : ((spec_l09Solid.f k l0).bind fun t197 => (if t197 = true then (if 0 < (l0.length : Int) then (spec_LayersOf.l0 k l0 (([] : List (List (S49)))) ((rd_T47 l0 0).f2)) else (none)) else (some (([] : List (List (S49))), 1)))) = some (r1, r2) := h
 clear h
 replace H := Option.bind_eq_some_iff.mp H
 obtain ⟨t197, A20, H⟩ := H
 replace H : (if t197 = true then (if 0 < (l0.length : Int) then (spec_LayersOf.l0 k l0 (([] : List (List (S49)))) ((rd_T47 l0 0).f2)) else (none)) else (some (([] : List (List (S49))), 1))) = some (r1, r2) := H
 have A2 := aM A20
 clear A20
 by_cases c3 : t197 = true
 rotate_left
 ·replace c3 := Bool.eq_false_iff.mpr c3
  subst c3
  have H1 : (some (([] : List (List (S49))), 1)) = some (r1, r2) := by rw [if_neg (show ¬ (false = true) by decide)] at H; exact H
  clear H
  have H := H1
  clear H1
  simp only [Option.some.injEq, Prod.mk.injEq] at H
  obtain ⟨rfl, rfl⟩ := H
  go_enter Try.func14, Try.ntmps14
  go_wp2_with (first | ((with_reducible refine gate_callee (f := 44) rfl ?_); refine goesL_ (some 9) rfl rfl Try.func44 (by kernel_rfl) rfl #[.slice A0 l0.length c0] rfl zm ?_; (with_reducible refine (spec_l09Solid.calls k _ _ l0 false _ ?side1 ?side2 A2.out).mono ?_); (case side1 => repeat (first | exact HR0.out | (with_reducible refine Kd.C_alloc ?_ _) | (with_reducible refine Kd.C_drewN ?_ _) | (with_reducible refine Kd.C_drew ?_))); (case side2 => exact HC0.out); rintro e w23 ⟨rfl, hb⟩; refine ⟨_, rfl, ?_⟩; have n0_ := aM (below_step zb hb); clear HB; have HB := n0_; clear n0_; (try clear hb); (try clear hb2); (try clear hk); (try clear hi)))
  go_ret2
  exact ⟨_, zw, by first | exact Kd.S_nil _ _ _ _ _ | exact Kd.N_nil _ _ _ _ _ | exact Kd.V_nil _ _ _ _ _ | exact Kd.Q_nil _ _ _ _ _ | exact Kd.R_nil _ _ _ _ _, zb⟩
 subst c3
 have H1 : (if 0 < (l0.length : Int) then (spec_LayersOf.l0 k l0 (([] : List (List (S49)))) ((rd_T47 l0 0).f2)) else (none)) = some (r1, r2) := by rw [if_pos rfl] at H; exact H
 clear H
 have H := H1
 clear H1
 obtain ⟨y198, hy198⟩ : ∃ y_ : List (List (S49)), y_ = (([] : List (List (S49)))) := ⟨_, rfl⟩
 replace H : (if 0 < (l0.length : Int) then (spec_LayersOf.l0 k l0 y198 ((rd_T47 l0 0).f2)) else (none)) = some (r1, r2) := zy H hy198
 have Ny198 := aM hy198
 clear hy198
 by_cases c4 : 0 < (l0.length : Int)
 rotate_left
 ·rw [if_neg c4] at H
  exact absurd H (by simp)
 rw [if_pos c4] at H
 have c4b0 : decide (0 < (l0.length : Int)) = true := decide_eq_true c4
 have c4b1 : decide (0 < l0.length) = true := decide_eq_true (by omega)
 clear c4
 have H' := aM H
 clear H
 go_enter Try.func14, Try.ntmps14
 go_wp2_with (first | ((with_reducible refine gate_callee (f := 44) rfl ?_); refine goesL_ (some 9) rfl rfl Try.func44 (by kernel_rfl) rfl #[.slice A0 l0.length c0] rfl zm ?_; (with_reducible refine (spec_l09Solid.calls k _ _ l0 true _ ?side1 ?side2 A2.out).mono ?_); (case side1 => repeat (first | exact HR0.out | (with_reducible refine Kd.C_alloc ?_ _) | (with_reducible refine Kd.C_drewN ?_ _) | (with_reducible refine Kd.C_drew ?_))); (case side2 => exact HC0.out); rintro e w5 ⟨rfl, hb⟩; refine ⟨_, rfl, ?_⟩; have n0_ := aM (below_step zb hb); clear HB; have HB := n0_; clear n0_; (try clear hb); (try clear hb2); (try clear hk); (try clear hi)) | ((with_reducible refine gate_dst (N := 11) rfl ?_); refine Kd.S_lit (Kd.slice 49 k49) _ 26 ?hg (N := 11) ?hd (xs := ([] : List (List (S49)))) (inner := []) (ok := fun _ => True) (okp := fun _ => True) ?hr ?hp (fun _ hk => hk) trivial (Below.refl _ _) (Nat.le_refl _) (by simp) ?_; (case hd => rfl); (case hg => rfl); (case hr => first | (go_simp; done) | (go_simp; rfl)); (case hp => exact (Reps.none _ _)); intro v199 w6 ho7 hb hg_ hnew_; clear hg_ hnew_; (first | rw [← Ny198.out] at ho7 | (simp only [Int.reduceToNat] at ho7; rw [← Ny198.out] at ho7)); have n0_ := aM (Kd.S_lower ho7 (below_size zb)); have n1_ := aM (below_step zb hb); clear HB; have HO200 := n0_; have HB := n1_; clear n0_ n1_ hb ho7; have p201 : 0 ≤ (0 : Int) := (by omega); have q201 : 0 < (l0.length : Int) := of_decide_eq_true za; obtain ⟨ad201, e201, hx201_0, hx201_1, hx201_2⟩ := at_T47 HR0.out 0 p201 q201; cases e201; have qi201 : (0 < l0.length) = True := eq_true (by omega); (try rw [show ((0 : Int)).toNat = 0 from rfl] at hx201_0); (try rw [show 0 * 3 = 0 from rfl] at hx201_0); (try rw [Addr.add_zero'] at hx201_0); (try rw [show ((0 : Int)).toNat = 0 from rfl] at hx201_1); (try rw [show 0 * 3 = 0 from rfl] at hx201_1); (try rw [Addr.add_zero'] at hx201_1); (try rw [show ((0 : Int)).toNat = 0 from rfl] at hx201_2); (try rw [show 0 * 3 = 0 from rfl] at hx201_2); (try rw [Addr.add_zero'] at hx201_2); replace hx201_0 := zk HB.out hx201_0; replace hx201_1 := zk HB.out hx201_1; replace hx201_2 := zk HB.out hx201_2; replace p201 := eq_true p201; replace q201 := eq_true q201))
 go_loopg [4, 5] k (fun kq v4 v5 w' => ∃ (x4_1 : List (List (S49))) (x5_1 : Int), v5 = .int .i64 x5_1 ∧ Aside0 (spec_LayersOf.l0 kq l0 x4_1 x5_1 = some (r1, r2)) ∧ Aside0 (kq ≤ k) ∧ Aside0 (Kd.S (Kd.slice 49 k49) 26 w' w.heap.size (fun _ => True) v4 x4_1) ∧ Aside0 (Below w.heap.size w w'))
 case atStart => exact ⟨(y198), ((rd_T47 l0 0).f2), zr, H', ⟨Nat.le_refl _⟩, ⟨mS_ HO200.out⟩, ⟨zb⟩⟩
 case round =>
  clear H'
  try clear c1
  try clear p2
  try clear q2
  try clear hx2
  try clear qi2
  try clear c3
  try clear c4
  try clear c4b0
  try clear c4b1
  try clear hx201_0
  try clear hx201_1
  try clear hx201_2
  try clear p201
  try clear q201
  obtain ⟨x4_1, x5_1, rfl, HA, HK1, HO_4, HB⟩ := hrel
  cases gk with
  | zero => exact absurd HA.out (by simp [spec_LayersOf.l0])
  | succ k1 =>
   have H := HA.out
   clear HA
   simp only [spec_LayersOf.l0] at H
   obtain ⟨ji8, hji8⟩ : ∃ j_ : Int, (wrap64 ((l0.length : Int) - 1)) = j_ := ⟨_, rfl⟩
   replace H : (if 0 ≤ (ji8) then (if (ji8) < (l0.length : Int) then (if x5_1 ≤ ((rd_T47 l0 (ji8)).f2) then (spec_LayersOf.l1 k1 l0 x4_1 x5_1 (([] : List (S49))) 0) else (some (x4_1, 0))) else (none)) else (none)) = some (r1, r2) := by first | (rw [hji8] at H; exact H) | (simp only [hji8] at H ⊢; exact H)
   have hji8w : (IntKind.i64.wrap ((l0.length : Int) - 1)) = ji8 := (i64_w _).trans hji8
   by_cases c9 : 0 ≤ (ji8)
   rotate_left
   ·rw [if_neg c9] at H
    exact absurd H (by simp)
   rw [if_pos c9] at H
   have c9b0 : decide (0 ≤ (ji8)) = true := decide_eq_true c9
   clear c9
   by_cases c10 : (ji8) < (l0.length : Int)
   rotate_left
   ·rw [if_neg c10] at H
    exact absurd H (by simp)
   rw [if_pos c10] at H
   have c10b0 : decide ((ji8) < (l0.length : Int)) = true := decide_eq_true c10
   clear c10
   by_cases c11 : x5_1 ≤ ((rd_T47 l0 (ji8)).f2)
   rotate_left
   ·rw [if_neg c11] at H
    have c11b0 : decide (x5_1 ≤ ((rd_T47 l0 (ji8)).f2)) = false := decide_eq_false c11
    clear c11
    simp only [Option.some.injEq, Prod.mk.injEq] at H
    obtain ⟨rfl, rfl⟩ := H
    have p202 : 0 ≤ ((ji8) : Int) := of_decide_eq_true za
    have q202 : (ji8) < (l0.length : Int) := of_decide_eq_true za
    obtain ⟨ad202, e202, hx202_0, hx202_1, hx202_2⟩ := at_T47 HR0.out (ji8) p202 q202
    obtain rfl : ad201 = ad202 := (by injection e202)
    replace hx202_0 := zk HB.out hx202_0
    replace hx202_1 := zk HB.out hx202_1
    replace hx202_2 := zk HB.out hx202_2
    replace p202 := eq_true p202
    replace q202 := eq_true q202
    go_wp2
    go_ret2
    exact ⟨_, by first | rfl | (simp [errW_none, errW_some] <;> rfl) | (simp only [← hji8]; first | rfl | (simp [errW_none, errW_some] <;> rfl)) | (simp [*, errW_none, errW_some] <;> rfl), mS_ HO_4.out, zb⟩
   rw [if_pos c11] at H
   have c11b0 : decide (x5_1 ≤ ((rd_T47 l0 (ji8)).f2)) = true := decide_eq_true c11
   clear c11
   obtain ⟨y203, hy203⟩ : ∃ y_ : List (S49), y_ = (([] : List (S49))) := ⟨_, rfl⟩
   replace H : (spec_LayersOf.l1 k1 l0 x4_1 x5_1 y203 0) = some (r1, r2) := zy H hy203
   have Ny203 := aM hy203
   clear hy203
   have H' := aM H
   clear H
   have p202 : 0 ≤ ((ji8) : Int) := of_decide_eq_true za
   have q202 : (ji8) < (l0.length : Int) := of_decide_eq_true za
   obtain ⟨ad202, e202, hx202_0, hx202_1, hx202_2⟩ := at_T47 HR0.out (ji8) p202 q202
   obtain rfl : ad201 = ad202 := (by injection e202)
   replace hx202_0 := zk HB.out hx202_0
   replace hx202_1 := zk HB.out hx202_1
   replace hx202_2 := zk HB.out hx202_2
   replace p202 := eq_true p202
   replace q202 := eq_true q202
   go_wp2_with (first | ((with_reducible refine gate_dst (N := 27) rfl ?_); refine Kd.R_lit k49 _ 49 ?hg (N := 27) ?hd (xs := ([] : List (S49))) (inner := []) (ok := fun _ => True) (okp := fun _ => True) ?hr ?hp (fun _ hk => hk) trivial (Below.refl _ _) (Nat.le_refl _) (by simp) ?_; (case hd => rfl); (case hg => rfl); (case hr => first | (go_simp; done) | (go_simp; rfl)); (case hp => exact (Reps.none _ _)); intro v204 w12 ho13 hb hg_ hnew_; clear hg_ hnew_; (first | rw [← Ny203.out] at ho13 | (simp only [Int.reduceToNat] at ho13; rw [← Ny203.out] at ho13)); have n0_ := aM (Kd.S_elder' (mS_ HO_4.out) (Kd.R_base ho13) hb); have n1_ := aM (Kd.R_lower ho13 (below_size zb)); have n2_ := aM (below_step zb hb); clear HO_4 HB; have HO_4 := n0_; have HO205 := n1_; have HB := n2_; clear n0_ n1_ n2_; clear hb ho13))
   go_loopg [6, 7] k1 (fun kq v6 v7 w' => ∃ (x6_2 : List (S49)) (x7_2 : Int), v7 = .int .i64 x7_2 ∧ Aside0 (spec_LayersOf.l1 kq l0 x4_1 x5_1 x6_2 x7_2 = some (r1, r2)) ∧ Aside0 (kq ≤ k1) ∧ Aside0 (Kd.S (Kd.slice 49 k49) 26 w' w.heap.size (fun k_ => some k_ ≠ (v6 : Value).ownBlock) u4 x4_1) ∧ Aside0 (Kd.R k49 49 w' w.heap.size (fun _ => True) v6 x6_2) ∧ Aside0 (Below w.heap.size w w'))
   case atStart => exact ⟨(y203), (0), zr, H', ⟨Nat.le_refl _⟩, ⟨zd0 HO_4.out⟩, ⟨mR_ HO205.out⟩, ⟨zb⟩⟩
   case round =>
    clear H'
    try clear c1
    try clear p2
    try clear q2
    try clear hx2
    try clear qi2
    try clear c3
    try clear c4
    try clear c4b0
    try clear c4b1
    try clear p6
    try clear c9
    try clear c9b0
    try clear c10
    try clear c10b0
    try clear c11
    try clear c11b0
    try clear hx201_0
    try clear hx201_1
    try clear hx201_2
    try clear hx202_0
    try clear hx202_1
    try clear hx202_2
    try clear p2
    try clear p201
    try clear p202
    try clear q2
    try clear q201
    try clear q202
    obtain ⟨x6_2, x7_2, rfl, HA, HK2, HO_4, HO_6, HB⟩ := hrel
    cases gk with
    | zero => exact absurd HA.out (by simp [spec_LayersOf.l1])
    | succ k2 =>
     have H := HA.out
     clear HA
     simp only [spec_LayersOf.l1] at H
     by_cases c14 : x7_2 < (l0.length : Int)
     rotate_left
     ·rw [if_neg c14] at H
      have c14b0 : decide (x7_2 < (l0.length : Int)) = false := decide_eq_false c14
      clear c14
      by_cases c20 : x4_1.length < 5864062014805
      rotate_left
      ·rw [if_neg c20] at H
       exact absurd H (by simp)
      rw [if_pos c20] at H
      have LMc20 := aM c20
      clear c20
      obtain ⟨y212, hy212⟩ : ∃ y_ : List (List (S49)), y_ = (x4_1 ++ [x6_2]) := ⟨_, rfl⟩
      replace H : (spec_LayersOf.l0 k2 l0 y212 (wrap64 (x5_1 + 1))) = some (r1, r2) := zy H hy212
      have Ny212 := aM hy212
      clear hy212
      have H' := aM H
      clear H
      obtain ⟨Ao22, co22, eo22⟩ := Kd.R_slice HO_6.out
      subst eo22
      go_wp2_with (first | ((with_reducible refine gate_builtin (b := .append) (xs := #[.tmp 55, .tmp 57]) rfl ?_); at_builtin; refine Kd.S_append (Kd.slice 49 k49) (w0 := w) w.heap.size rfl (.tmp 55) (.tmp 57) 32 26 (.slice none 0 0) 24 rfl Try.underlying32 info26 rfl (by decide) (by omega) u4 x4_1 x6_2 [.slice Ao22 x6_2.length co22] (fun _ => True) (fun k_ => some k_ = (.slice Ao22 x6_2.length co22 : Value).ownBlock) rfl rfl ?aP (fun k_ hk_ => ((Kd.R_mono (ok' := fun k_ => ((fun _ => True)) k_ ∧ some k_ ≠ (u4 : Value).ownBlock) (Kd.R_apart' (HO_6.out) (Kd.S_typed HO_4.out) (by decide)) (fun k_ hk => ⟨trivial, hk.2⟩))).1 k_ hk_.symm) ?aF ?aO ?aB ?aS ?aL ?_; (case aP => exact Kd.M_row (Kd.R_mono (Kd.R_tight rfl (Kd.R_mono (ok' := fun k_ => ((fun _ => True)) k_ ∧ some k_ ≠ (u4 : Value).ownBlock) (Kd.R_apart' (HO_6.out) (Kd.S_typed HO_4.out) (by decide)) (fun k_ hk => ⟨trivial, hk.2⟩))) (fun _ h_ => h_))); (case aB => exact zb); (case aF => exact (fun _ _ => trivial)); (case aO => exact (by (with_reducible repeat (first | apply Kd.S_alloc | apply Kd.S_drewN | apply Kd.S_drew)); exact Kd.S_mono HO_4.out (fun k_ hk => ⟨trivial, fun e_ => hk e_⟩))); (case aS => exact (below_size zb)); (case aL => have := LMc20.out; omega); intro v213 w21 ho hb hg hat; rw [← Ny212.out] at ho; have n0_ := aM (hb); have n1_ := aM (ho); clear HB HO_4 HO_6; have HB := n0_; have HO214 := n1_; clear n0_ n1_; clear ho hb hg hat))
      go_roundg k2
      case measure => have := HK1.out; have := HK2.out; omega
      case rel => exact ⟨(y212), (wrap64 (x5_1 + 1)), zr, H', ⟨by have := HK1.out; have := HK2.out; omega⟩, ⟨mS_ HO214.out⟩, ⟨zb⟩⟩
     rw [if_pos c14] at H
     have c14b0 : decide (x7_2 < (l0.length : Int)) = true := decide_eq_true c14
     clear c14
     by_cases c15 : 0 ≤ x7_2
     rotate_left
     ·rw [if_neg c15] at H
      exact absurd H (by simp)
     rw [if_pos c15] at H
     have c15b0 : decide (0 ≤ x7_2) = true := decide_eq_true c15
     clear c15
     by_cases c16 : ((rd_T47 l0 x7_2).f2) = x5_1
     rotate_left
     ·rw [if_neg c16] at H
      have c16b0 : (((rd_T47 l0 x7_2).f2) == x5_1) = false := beq_eq_false_iff_ne.mpr c16
      have c16b1 : (((rd_T47 l0 x7_2).f2) != x5_1) = true := bne_iff_ne.mpr c16
      have H' := aM H
      clear H
      have p206 : 0 ≤ (x7_2 : Int) := of_decide_eq_true za
      have q206 : x7_2 < (l0.length : Int) := of_decide_eq_true za
      obtain ⟨ad206, e206, hx206_0, hx206_1, hx206_2⟩ := at_T47 HR0.out x7_2 p206 q206
      obtain rfl : ad201 = ad206 := (by injection e206)
      replace hx206_0 := zk HB.out hx206_0
      replace hx206_1 := zk HB.out hx206_1
      replace hx206_2 := zk HB.out hx206_2
      replace p206 := eq_true p206
      replace q206 := eq_true q206
      go_wp2
      go_roundg k2
      case measure => have := HK1.out; have := HK2.out; omega
      case rel => exact ⟨(x6_2), (wrap64 (x7_2 + 1)), zr, H', ⟨by have := HK1.out; have := HK2.out; omega⟩, ⟨mS_ HO_4.out⟩, ⟨mR_ HO_6.out⟩, ⟨zb⟩⟩
     rw [if_pos c16] at H
     have c16b0 : (((rd_T47 l0 x7_2).f2) == x5_1) = true := beq_iff_eq.mpr c16
     have c16b1 : (((rd_T47 l0 x7_2).f2) != x5_1) = false := bne_eq_false_iff_eq.mpr c16
     clear c16
     by_cases c17 : x6_2.length < 8796093022208
     rotate_left
     ·rw [if_neg c17] at H
      exact absurd H (by simp)
     rw [if_pos c17] at H
     have LMc17 := aM c17
     clear c17
     obtain ⟨y209, hy209⟩ : ∃ y_ : List (S49), y_ = (x6_2 ++ [(⟨(rd_T47 l0 x7_2).f0, (rd_T47 l0 x7_2).f1⟩ : S49)]) := ⟨_, rfl⟩
     replace H : (spec_LayersOf.l1 k2 l0 x4_1 x5_1 y209 (wrap64 (x7_2 + 1))) = some (r1, r2) := zy H hy209
     have Ny209 := aM hy209
     clear hy209
     have H' := aM H
     clear H
     have p206 : 0 ≤ (x7_2 : Int) := of_decide_eq_true za
     have q206 : x7_2 < (l0.length : Int) := of_decide_eq_true za
     obtain ⟨ad206, e206, hx206_0, hx206_1, hx206_2⟩ := at_T47 HR0.out x7_2 p206 q206
     obtain rfl : ad201 = ad206 := (by injection e206)
     replace hx206_0 := zk HB.out hx206_0
     replace hx206_1 := zk HB.out hx206_1
     replace hx206_2 := zk HB.out hx206_2
     replace p206 := eq_true p206
     replace q206 := eq_true q206
     try go_wp2
     have n0_ := aM (Kd.S_drew HO_4.out)
     have n1_ := aM (Kd.R_drew HO_6.out)
     have n2_ := aM (below_drew1 HB.out)
     clear HO_4
     clear HO_6
     clear HB
     have HO_4 := n0_
     have HO_6 := n1_
     have HB := n2_
     clear n0_ n1_ n2_
     have p207 : 0 ≤ (x7_2 : Int) := of_decide_eq_true za
     have q207 : x7_2 < (l0.length : Int) := of_decide_eq_true za
     obtain ⟨ad207, e207, hx207_0, hx207_1, hx207_2⟩ := at_T47 HR0.out x7_2 p207 q207
     have hw207_2 := hx207_2
     have hw207_1 := hx207_1
     have hw207_0 := hx207_0
     obtain rfl : ad201 = ad207 := (by injection e207)
     replace hx207_0 := zk HB.out hx207_0
     replace hx207_1 := zk HB.out hx207_1
     replace hx207_2 := zk HB.out hx207_2
     replace p207 := eq_true p207
     replace q207 := eq_true q207
     have p208 : 0 ≤ (x7_2 : Int) := of_decide_eq_true za
     have q208 : x7_2 < (l0.length : Int) := of_decide_eq_true za
     obtain ⟨ad208, e208, hx208_0, hx208_1, hx208_2⟩ := at_T47 HR0.out x7_2 p208 q208
     have hw208_2 := hx208_2
     have hw208_1 := hx208_1
     have hw208_0 := hx208_0
     obtain rfl : ad201 = ad208 := (by injection e208)
     replace hx208_0 := zk HB.out hx208_0
     replace hx208_1 := zk HB.out hx208_1
     replace hx208_2 := zk HB.out hx208_2
     replace p208 := eq_true p208
     replace q208 := eq_true q208
     refine start_ (n := 15) (S := fun w' => w'.cell? (ad201.add ((x7_2).toNat * 3)) = some (.int .i64 ((rd_T47 l0 x7_2).f0)) ∧ w'.cell? ⟨(ad201.add ((x7_2).toNat * 3)).block, (ad201.add ((x7_2).toNat * 3)).off + 1, none⟩ = some (.int .i64 ((rd_T47 l0 x7_2).f1)) ∧ w'.cell? ⟨(ad201.add ((x7_2).toNat * 3)).block, (ad201.add ((x7_2).toNat * 3)).off + 2, none⟩ = some (.int .i64 ((rd_T47 l0 x7_2).f2)) ∧ w'.cell? (ad201.add ((x7_2).toNat * 3)) = some (.int .i64 ((rd_T47 l0 x7_2).f0)) ∧ w'.cell? ⟨(ad201.add ((x7_2).toNat * 3)).block, (ad201.add ((x7_2).toNat * 3)).off + 1, none⟩ = some (.int .i64 ((rd_T47 l0 x7_2).f1)) ∧ w'.cell? ⟨(ad201.add ((x7_2).toNat * 3)).block, (ad201.add ((x7_2).toNat * 3)).off + 2, none⟩ = some (.int .i64 ((rd_T47 l0 x7_2).f2))) (ds := []) zA38 (by kernel_rfl) rfl rfl ⟨(zk HB.out hw207_0), (zk HB.out hw207_1), (zk HB.out hw207_2), (zk HB.out hw208_0), (zk HB.out hw208_1), (zk HB.out hw208_2)⟩ (fun hHeld => ?_); refine with_tabW spec_LayersOf.tab12 spec_LayersOf.bits12 (fun HT_ HW_ => ?_)
     generalize wr.drew = w18 at HO_4 HO_6 HB hx207_0 hx207_1 hx207_2 hx208_0 hx208_1 hx208_2 hHeld ⊢
     refine zp 0 (some 41) ?_ zA39 rfl rfl (Or.inl ⟨by rfl, ?_⟩) ?_ ?_ ?_
     rotate_left
     ·intro w'
      go_simp
      with_reducible rfl
     rotate_left
     ·simp only [Act.put, xA, xB, xC, i64_w, i32_w]
      rfl
     refine zp 1 (some 42) ?_ zA40 rfl rfl (Or.inl ⟨by rfl, ?_⟩) ?_ ?_ ?_
     rotate_left
     ·intro w'
      go_simp
      with_reducible rfl
     rotate_left
     ·simp only [Act.put, xA, xB, xC, i64_w, i32_w]
      rfl
     refine zp 2 (some 43) ?_ zA41 rfl rfl (Or.inl ⟨by rfl, ?_⟩) ?_ ?_ ?_
     rotate_left
     ·intro w'
      go_simp
      with_reducible rfl
     rotate_left
     ·simp only [Act.put, xA, xB, xC, i64_w, i32_w]
      rfl
     refine zp 3 (some 44) ?_ zA42 rfl rfl (Or.inl ⟨by rfl, ?_⟩) ?_ ?_ ?_
     rotate_left
     ·intro w'
      go_simp
      with_reducible rfl
     rotate_left
     ·simp only [Act.put, xA, xB, xC, i64_w, i32_w]
      rfl
     refine zp 4 (some 45) ?_ zA43 rfl rfl (Or.inl ⟨by rfl, ?_⟩) ?_ ?_ ?_
     rotate_left
     ·intro w'
      go_simp
      with_reducible rfl
     rotate_left
     ·simp only [Act.put, xA, xB, xC, i64_w, i32_w]
      rfl
     refine zp 6 (some 47) ?_ zA44 rfl rfl (Or.inl ⟨by rfl, ?_⟩) ?_ ?_ ?_
     rotate_left
     ·intro w'
      go_simp
      with_reducible rfl
     rotate_left
     ·simp only [Act.put, xA, xB, xC, i64_w, i32_w]
      rfl
     refine zp 7 (some 48) ?_ zA45 rfl rfl (Or.inl ⟨by rfl, ?_⟩) ?_ ?_ ?_
     rotate_left
     ·intro w'
      go_simp
      with_reducible rfl
     rotate_left
     ·simp only [Act.put, xA, xB, xC, i64_w, i32_w]
      rfl
     refine zp 8 (some 49) ?_ zA46 rfl rfl (Or.inl ⟨by rfl, ?_⟩) ?_ ?_ ?_
     rotate_left
     ·intro w'
      go_simp
      with_reducible rfl
     rotate_left
     ·simp only [Act.put, xA, xB, xC, i64_w, i32_w]
      rfl
     refine zp 9 (some 50) ?_ zA47 rfl rfl (Or.inl ⟨by rfl, ?_⟩) ?_ ?_ ?_
     rotate_left
     ·intro w'
      go_simp
      with_reducible rfl
     rotate_left
     ·simp only [Act.put, xA, xB, xC, i64_w, i32_w]
      rfl
     refine zu 5 (some 46) ?_ zA48 rfl rfl (Or.inl ⟨by rfl, ?_⟩) hHeld ?_ ?_ ?_
     rotate_left
     ·rintro w' ⟨s0, s1, s2, s3, s4, s5⟩
      go_simp
      with_reducible rfl
     rotate_left
     ·simp only [Act.put, xA, xB, xC, i64_w, i32_w]
      rfl
     refine zu 10 (some 51) ?_ zA49 rfl rfl (Or.inl ⟨by rfl, ?_⟩) hHeld ?_ ?_ ?_
     rotate_left
     ·rintro w' ⟨s0, s1, s2, s3, s4, s5⟩
      go_simp
      with_reducible rfl
     rotate_left
     ·simp only [Act.put, xA, xB, xC, i64_w, i32_w]
      rfl
     refine zp 11 (some 52) ?_ zA50 rfl rfl (Or.inl ⟨by rfl, ?_⟩) ?_ ?_ ?_
     rotate_left
     ·intro w'
      go_simp
      with_reducible rfl
     rotate_left
     ·simp only [Act.put, xA, xB, xC, i64_w, i32_w]
      rfl
     refine one_ (i := 12) (N := some 53) zA51 rfl rfl (one_of HT_.out (by kernel_rfl)) (by decide) (fun K hK => ?_)
     refine value_ (w1 := ?_) (v := ?_) (by rfl) rfl ?_ ?_
     rotate_left 2
     ·go_simp
      constructor
      ·rfl
      ·rfl
     refine hK.out _ _ ⟨(World.cell?_alloc_lt _ _ _ (World.block_lt_of_cell? _ _ ((zk HB.out hw207_0)))).trans ((zk HB.out hw207_0)), (World.cell?_alloc_lt _ _ _ (World.block_lt_of_cell? _ _ ((zk HB.out hw207_1)))).trans ((zk HB.out hw207_1)), (World.cell?_alloc_lt _ _ _ (World.block_lt_of_cell? _ _ ((zk HB.out hw207_2)))).trans ((zk HB.out hw207_2)), (World.cell?_alloc_lt _ _ _ (World.block_lt_of_cell? _ _ ((zk HB.out hw208_0)))).trans ((zk HB.out hw208_0)), (World.cell?_alloc_lt _ _ _ (World.block_lt_of_cell? _ _ ((zk HB.out hw208_1)))).trans ((zk HB.out hw208_1)), (World.cell?_alloc_lt _ _ _ (World.block_lt_of_cell? _ _ ((zk HB.out hw208_2)))).trans ((zk HB.out hw208_2))⟩ (fun hHeld => ?_)
     clear hK K
     refine norm_ (a' := ?_) ?_ ?_
     rotate_left
     ·show Act.put _ (some 53) _ = _
      simp only [Act.put, xA, xB, xC, i64_w, i32_w]
      rfl
     refine one_ (i := 13) (N := some 54) zA52 rfl rfl (one_of HT_.out (by kernel_rfl)) (by decide) (fun K hK => ?_)
     refine Kd.R_append_step k49 (w0 := w) w.heap.size (by rfl) (.tmp 41) (.tmp 53) 26 49 (.agg #[(.int .i64 0), (.int .i64 0)]) 16 rfl Try.underlying26 info49 rfl (by decide) (by omega) u6 x6_2 (⟨(rd_T47 l0 x7_2).f0, (rd_T47 l0 x7_2).f1⟩ : S49) [.int .i64 ((rd_T47 l0 x7_2).f0), .int .i64 ((rd_T47 l0 x7_2).f1)] (fun _ => True) (fun _ => False) rfl rfl ?aP (fun _ hk => hk.elim) ?aF ?aO ?aB ?aS ?aL ?_
     (case aP => exact k49_mkM _ _ _ (⟨(rd_T47 l0 x7_2).f0, (rd_T47 l0 x7_2).f1⟩ : S49))
     (case aB => exact zb)
     (case aF => exact (fun _ _ => trivial))
     (case aO => exact (mR_ HO_6.out))
     (case aS => exact (below_size zb))
     (case aL => have := LMc17.out; omega)
     intro v210 w19 ho hb hg hat
     rw [← Ny209.out] at ho
     have n0_ := aM (Kd.S_after (ok := (fun _ => True)) (zd1 HO_4.out) hg hat)
     have n1_ := aM (hb)
     have n2_ := aM (ho)
     clear HO_4
     clear HB
     clear HO_6
     have HO_4 := n0_
     have HB := n1_
     have HO211 := n2_
     clear n0_ n1_ n2_
     clear ho hb hg hat
     refine hK.out _ _ ⟨(zk HB.out hw207_0), (zk HB.out hw207_1), (zk HB.out hw207_2), (zk HB.out hw208_0), (zk HB.out hw208_1), (zk HB.out hw208_2)⟩ (fun hHeld => ?_)
     clear hK K
     refine norm_ (a' := ?_) ?_ ?_
     rotate_left
     ·show Act.put _ (some 54) _ = _
      simp only [Act.put, xA, xB, xC, i64_w, i32_w]
      rfl
     refine zp 14 (some 6) ?_ zA53 rfl rfl (Or.inl ⟨by rfl, ?_⟩) ?_ ?_ ?_
     rotate_left
     ·intro w'
      go_simp
      with_reducible rfl
     rotate_left
     ·simp only [Act.put, xA, xB, xC, i64_w, i32_w]
      rfl
     refine done_ (done_of HT_.out (by kernel_rfl)) ?_
     try go_wp2
     go_roundg k2
     case measure => have := HK1.out; have := HK2.out; omega
     case rel => exact ⟨(y209), (wrap64 (x7_2 + 1)), zr, H', ⟨by have := HK1.out; have := HK2.out; omega⟩, ⟨zd0 HO_4.out⟩, ⟨mR_ HO211.out⟩, ⟨zb⟩⟩
def impl_compareCubes.f (a0_0 : Int) (a0_1 : Int) (a0_2 : Int) (a1_0 : Int) (a1_1 : Int) (a1_2 : Int) : Option (Int) := (cmp_Compare_int64.f a0_2 a1_2).bind fun t228 => (if t228 = 0 then ((impl_compareCells.f a0_0 a0_1 a1_0 a1_1).bind fun t229 => (some t229)) else (some t228))
theorem impl_compareCubes.calls (a0_0 : Int) (a0_1 : Int) (a0_2 : Int) (a1_0 : Int) (a1_1 : Int) (a1_2 : Int) (r : Int) (w : World) (h : impl_compareCubes.f a0_0 a0_1 a0_2 a1_0 a1_1 a1_2 = some r) :
  Calls Try.prog 73 #[.agg #[.int .i64 a0_0, .int .i64 a0_1, .int .i64 a0_2], .agg #[.int .i64 a1_0, .int .i64 a1_1, .int .i64 a1_2]] w fun e w' => e = .returned (.int .i64 r) ∧ Below w.heap.size w w' := by
 have hu47 := Try.underlying47
 have hu49 := Try.underlying49
 have HB := aM (Below.refl w.heap.size w)
 have H : ((cmp_Compare_int64.f a0_2 a1_2).bind fun t228 => (if t228 = 0 then ((impl_compareCells.f a0_0 a0_1 a1_0 a1_1).bind fun t229 => (some t229)) else (some t228))) = some r := h
 clear h
 replace H := Option.bind_eq_some_iff.mp H
 obtain ⟨t228, A30, H⟩ := H
 replace H : (if t228 = 0 then ((impl_compareCells.f a0_0 a0_1 a1_0 a1_1).bind fun t229 => (some t229)) else (some t228)) = some r := H
 have A3 := aM A30
 clear A30
 by_cases c4 : t228 = 0
 rotate_left
 ·rw [if_neg c4] at H
  have c4b0 : (t228 == 0) = false := beq_eq_false_iff_ne.mpr c4
  have c4b1 : (t228 != 0) = true := bne_iff_ne.mpr c4
  obtain rfl := Option.some.inj H
  go_enter Try.func73, Try.ntmps73
  go_wp2_with (first | ((with_reducible refine gate_dst (N := 2) rfl ?_); refine zx 2 #[.int .i64 a0_0, .int .i64 a0_1, .int .i64 a0_2] 47 ?_; intro gb226 hg w12 hbox hb; have n0_ := aM (below_step zb hb); have n1_ := aM (hbox); have n2_ := aM ((ze : w.heap.size ≤ gb226)); have n3_ := aM ((ze : w.heap.size ≤ gb226)); clear HB; have HB := n0_; have BK226 := n1_; have GW226 := n2_; have GE226 := n3_; clear n0_ n1_ n2_ n3_; clear hb hbox hg) | ((with_reducible refine gate_dst (N := 3) rfl ?_); refine zx 3 #[.int .i64 a1_0, .int .i64 a1_1, .int .i64 a1_2] 47 ?_; intro gb227 hg w13 hbox hb; have n0_ := aM (blk_below (g := gb226) (o := .cells #[.int .i64 a0_0, .int .i64 a0_1, .int .i64 a0_2] 47 (0, 0)) (mB_ BK226.out) hb); have n1_ := aM (below_step (zs GE226.out) hb); have n2_ := aM (hbox); have n3_ := aM ((zf GE226.out : w.heap.size ≤ gb227)); have n4_ := aM ((zf GE226.out : w.heap.size ≤ gb227)); have n5_ := aM ((zl BK226.out : gb226 ≠ gb227)); have n6_ := aM ((zn BK226.out : gb227 ≠ gb226)); clear BK226 HB; have BK226 := n0_; have HB := n1_; have BK227 := n2_; have GW227 := n3_; have GE227 := n4_; have NB226_227 := n5_; have NB227_226 := n6_; clear n0_ n1_ n2_ n3_ n4_ n5_ n6_ hb hbox hg; have hnb14 := NB226_227.out; have hnc14 := NB227_226.out; have hcz15_0 : w13.cell? ⟨gb226, 0, none⟩ = some (.int .i64 a0_0) := (blk_cell BK226.out 0).trans rfl; have hcz15_1 : w13.cell? ⟨gb226, 1, none⟩ = some (.int .i64 a0_1) := (blk_cell BK226.out 1).trans rfl; have hcz15_2 : w13.cell? ⟨gb226, 2, none⟩ = some (.int .i64 a0_2) := (blk_cell BK226.out 2).trans rfl; have hfz15_0 := blk_frozen BK226.out 0; have hfz15_1 := blk_frozen BK226.out 1; have hfz15_2 := blk_frozen BK226.out 2; have hcz16_0 : w13.cell? ⟨gb227, 0, none⟩ = some (.int .i64 a1_0) := (blk_cell BK227.out 0).trans rfl; have hcz16_1 : w13.cell? ⟨gb227, 1, none⟩ = some (.int .i64 a1_1) := (blk_cell BK227.out 1).trans rfl; have hcz16_2 : w13.cell? ⟨gb227, 2, none⟩ = some (.int .i64 a1_2) := (blk_cell BK227.out 2).trans rfl; have hfz16_0 := blk_frozen BK227.out 0; have hfz16_1 := blk_frozen BK227.out 1; have hfz16_2 := blk_frozen BK227.out 2) | ((with_reducible refine gate_callee (f := 89) rfl ?_); refine goesL_ (some 10) rfl rfl Try.func89 (by kernel_rfl) rfl #[.int .i64 a0_2, .int .i64 a1_2] rfl zm ?_; (with_reducible refine (cmp_Compare_int64.calls a0_2 a1_2 t228 _ A3.out).mono ?_); rintro e w' ⟨rfl, ⟨nd, rfl⟩⟩; refine ⟨_, rfl, ?_⟩))
  go_ret
  exact ⟨zw, zt GE226.out GE227.out⟩
 rw [if_pos c4] at H
 have c4b0 : (t228 == 0) = true := beq_iff_eq.mpr c4
 have c4b1 : (t228 != 0) = false := bne_eq_false_iff_eq.mpr c4
 clear c4
 replace H := Option.bind_eq_some_iff.mp H
 obtain ⟨t229, A50, H⟩ := H
 replace H : (some t229) = some r := H
 have A5 := aM A50
 clear A50
 obtain rfl := Option.some.inj H
 go_enter Try.func73, Try.ntmps73
 go_wp2_with (first | ((with_reducible refine gate_dst (N := 2) rfl ?_); refine zx 2 #[.int .i64 a0_0, .int .i64 a0_1, .int .i64 a0_2] 47 ?_; intro gb226 hg w6 hbox hb; have n0_ := aM (below_step zb hb); have n1_ := aM (hbox); have n2_ := aM ((ze : w.heap.size ≤ gb226)); have n3_ := aM ((ze : w.heap.size ≤ gb226)); clear HB; have HB := n0_; have BK226 := n1_; have GW226 := n2_; have GE226 := n3_; clear n0_ n1_ n2_ n3_; clear hb hbox hg) | ((with_reducible refine gate_dst (N := 3) rfl ?_); refine zx 3 #[.int .i64 a1_0, .int .i64 a1_1, .int .i64 a1_2] 47 ?_; intro gb227 hg w7 hbox hb; have n0_ := aM (blk_below (g := gb226) (o := .cells #[.int .i64 a0_0, .int .i64 a0_1, .int .i64 a0_2] 47 (0, 0)) (mB_ BK226.out) hb); have n1_ := aM (below_step (zs GE226.out) hb); have n2_ := aM (hbox); have n3_ := aM ((zf GE226.out : w.heap.size ≤ gb227)); have n4_ := aM ((zf GE226.out : w.heap.size ≤ gb227)); have n5_ := aM ((zl BK226.out : gb226 ≠ gb227)); have n6_ := aM ((zn BK226.out : gb227 ≠ gb226)); clear BK226 HB; have BK226 := n0_; have HB := n1_; have BK227 := n2_; have GW227 := n3_; have GE227 := n4_; have NB226_227 := n5_; have NB227_226 := n6_; clear n0_ n1_ n2_ n3_ n4_ n5_ n6_ hb hbox hg; have hnb8 := NB226_227.out; have hnc8 := NB227_226.out; have hcz9_0 : w7.cell? ⟨gb226, 0, none⟩ = some (.int .i64 a0_0) := (blk_cell BK226.out 0).trans rfl; have hcz9_1 : w7.cell? ⟨gb226, 1, none⟩ = some (.int .i64 a0_1) := (blk_cell BK226.out 1).trans rfl; have hcz9_2 : w7.cell? ⟨gb226, 2, none⟩ = some (.int .i64 a0_2) := (blk_cell BK226.out 2).trans rfl; have hfz9_0 := blk_frozen BK226.out 0; have hfz9_1 := blk_frozen BK226.out 1; have hfz9_2 := blk_frozen BK226.out 2; have hcz10_0 : w7.cell? ⟨gb227, 0, none⟩ = some (.int .i64 a1_0) := (blk_cell BK227.out 0).trans rfl; have hcz10_1 : w7.cell? ⟨gb227, 1, none⟩ = some (.int .i64 a1_1) := (blk_cell BK227.out 1).trans rfl; have hcz10_2 : w7.cell? ⟨gb227, 2, none⟩ = some (.int .i64 a1_2) := (blk_cell BK227.out 2).trans rfl; have hfz10_0 := blk_frozen BK227.out 0; have hfz10_1 := blk_frozen BK227.out 1; have hfz10_2 := blk_frozen BK227.out 2) | ((with_reducible refine gate_callee (f := 89) rfl ?_); refine goesL_ (some 10) rfl rfl Try.func89 (by kernel_rfl) rfl #[.int .i64 a0_2, .int .i64 a1_2] rfl zm ?_; (with_reducible refine (cmp_Compare_int64.calls a0_2 a1_2 t228 _ A3.out).mono ?_); rintro e w' ⟨rfl, ⟨nd, rfl⟩⟩; refine ⟨_, rfl, ?_⟩) | ((with_reducible refine gate_callee (f := 69) rfl ?_); refine goesL_ (some 24) rfl rfl Try.func69 (by kernel_rfl) rfl #[.agg #[.int .i64 a0_0, .int .i64 a0_1], .agg #[.int .i64 a1_0, .int .i64 a1_1]] rfl zm ?_; (with_reducible refine (impl_compareCells.calls a0_0 a0_1 a1_0 a1_1 t229 _ A5.out).mono ?_); rintro e w11 ⟨rfl, hb⟩; refine ⟨_, rfl, ?_⟩; have n0_ := aM (blk_below (g := gb226) (o := .cells #[.int .i64 a0_0, .int .i64 a0_1, .int .i64 a0_2] 47 (0, 0)) (mB_ BK226.out) hb); have n1_ := aM (blk_below (g := gb227) (o := .cells #[.int .i64 a1_0, .int .i64 a1_1, .int .i64 a1_2] 47 (0, 0)) (mB_ BK227.out) hb); have n2_ := aM (below_step (zt GE226.out GE227.out) hb); clear BK226 BK227 HB; have BK226 := n0_; have BK227 := n1_; have HB := n2_; clear n0_ n1_ n2_; (try clear hb); (try clear hb2); (try clear hk); (try clear hi)))
 go_ret
 exact ⟨zw, zt GE226.out GE227.out⟩
end Go.Proofs.Ytdcpahfpnjnmcaa.F
end
section
namespace Go.Proofs.Ytdcpahfpnjnmcaa.F
open Go.RowKit Go.Proofs.YtdcpahfpnjnmcaaW.PrintWords Go.Proofs.YtdcpahfpnjnmcaaW.PrintLast Go.Proofs.YtdcpahfpnjnmcaaW.PrintMore
attribute [local go_sem] max2_int min2_int max_two min_two max_three min_three max_four min_four
set_option linter.unusedVariables false
set_option linter.unusedSimpArgs false
def impl_isSolid.l0 : Nat → List (S47) → List (S47) → Int → Int → Option (Bool)
 | 0, _, _, _, _ => none
 | k + 1, x0, x5, x6, x7 => if x7 < x6 then (if 0 ≤ x7 then (if x7 < (x5.length : Int) then ((impl_isCoordinate.f ((rd_T47 x5 x7).f0)).bind fun t232 => (if t232 = true then ((impl_isCoordinate.f ((rd_T47 x5 x7).f1)).bind fun t233 => (if t233 = true then ((impl_isCoordinate.f ((rd_T47 x5 x7).f2)).bind fun t234 => (if t234 = true then (if x7 > 0 then (if 0 ≤ (wrap64 (x7 - 1)) then (if (wrap64 (x7 - 1)) < (x0.length : Int) then ((impl_compareCubes.f ((rd_T47 x0 (wrap64 (x7 - 1))).f0) ((rd_T47 x0 (wrap64 (x7 - 1))).f1) ((rd_T47 x0 (wrap64 (x7 - 1))).f2) ((rd_T47 x5 x7).f0) ((rd_T47 x5 x7).f1) ((rd_T47 x5 x7).f2)).bind fun t236 => (if t236 ≥ 0 then (some false) else (impl_isSolid.l0 k x0 x5 x6 (wrap64 (x7 + 1))))) else (none)) else (none)) else (impl_isSolid.l0 k x0 x5 x6 (wrap64 (x7 + 1)))) else (some false))) else (some false))) else (some false))) else (none)) else (none)) else (if (x0.length : Int) ≥ 1 then (some (decide ((x0.length : Int) ≤ 24))) else (some false))
def impl_isSolid.f (k : Nat) (l0 : List (S47)) : Option (Bool) := impl_isSolid.l0 k l0 l0 (l0.length : Int) 0
def impl_isSolid.T4 : Bool × List (List Nat × List Nat) := (true, [([], []), ([0], [0]), ([1], [1]), ([2], [2]), ([3, 2], [3]), ([4], [4]), ([5, 4], [4, 5]), ([6, 4, 4], [4, 6]), ([7, 4], [4, 7]), ([4, 8], [4, 8]), ([9, 7], [9]), ([10], [10]), ([11, 10], [10, 11]), ([12, 10, 10], [10, 12]), ([13, 10], [10, 13]), ([10, 14], [10, 14]), ([15, 13], [15]), ([16], [16]), ([17, 16], [16, 17]), ([18, 16, 16], [16, 18]), ([19], [19]), ([19], [19]), ([21, 19], [19, 21]), ([20, 22, 19], [19, 20, 22]), ([23, 19], [19, 23]), ([19], [19]), ([24, 25, 19, 19], [19, 24, 25]), ([26, 19], [19, 26]), ([19, 27, 16], [16, 19, 27]), ([16, 28], [16, 28])])
def impl_isSolid.B4 : List Nat := [0, 1, 3, 7, 15, 31, 63, 127, 255, 511, 1023, 2047, 4095, 8191, 16383, 32767, 65535, 131071, 262143, 524287, 1048575, 1048575, 3145727, 8388607, 16777215, 1048575, 67108863, 134217727, 268435455, 536870911]
theorem impl_isSolid.tab4 : rtab .any (opsOf Try.f46 4) = impl_isSolid.T4 := by kernel_rfl
theorem impl_isSolid.bits4 : waitsOk impl_isSolid.T4.2 impl_isSolid.B4 = true := by kernel_rfl
end Go.Proofs.Ytdcpahfpnjnmcaa.F
end
