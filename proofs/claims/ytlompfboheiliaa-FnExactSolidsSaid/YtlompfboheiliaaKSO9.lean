/- The row of FnExactSolids, with what it needs: text 10 of 12. -/
import Derived.Test.YtlompfboheiliaaKSO8
import Derived.ChangeArms
import Derived.ChangeSame
import Derived.Deep.Fields
import Derived.Deep.Slices
import Derived.Deep.Strs
import Derived.WideShapes
set_option maxHeartbeats 8000000
set_option maxRecDepth 100000
section
namespace Go.Proofs.Ytlompfboheiliaa.F
open Go.RowKit Go.Proofs.YtlompfboheiliaaW.PrintWords Go.Proofs.YtlompfboheiliaaW.PrintLast Go.Proofs.YtlompfboheiliaaW.PrintMore
attribute [local go_sem] max2_int min2_int max_two min_two max_three min_three max_four min_four
set_option linter.unusedVariables false
set_option linter.unusedSimpArgs false
def spec_Solids.f (k : Nat) (a0 : Int) (a1 : Bool) : Option ((List (List (S43))) × Int) := (spec_l01In.f a0 1 4).bind fun t519 => (if t519 = true then ((spec_l09All.f k a0).bind fun t520 => ((spec_l09Own.f k t520 a1).bind fun t523 => (some (t523, 0)))) else (some (([] : List (List (S43))), 2)))
theorem spec_Solids.calls (k : Nat) (a0 : Int) (a1 : Bool) (r1 : List (List (S43))) (r2 : Int) (w : World) (h : spec_Solids.f k a0 a1 = some (r1, r2)) :
  Calls Try.prog 11 #[.int .i64 a0, .bool a1] w fun e w' => ∃ v0_ : Value, e = .returned (.tuple #[v0_, .int .i64 r2]) ∧ Kd.V (Kd.slice 43 k43) 40 w' w.heap.size (fun k_ => (w.heap.size ≤ k_)) v0_ r1 ∧ Below w.heap.size w w' := by
 have HB := aM (Below.refl w.heap.size w)
 have H : ((spec_l01In.f a0 1 4).bind fun t519 => (if t519 = true then ((spec_l09All.f k a0).bind fun t520 => ((spec_l09Own.f k t520 a1).bind fun t523 => (some (t523, 0)))) else (some (([] : List (List (S43))), 2)))) = some (r1, r2) := h
 clear h
 replace H := Option.bind_eq_some_iff.mp H
 obtain ⟨t519, A30, H⟩ := H
 replace H : (if t519 = true then ((spec_l09All.f k a0).bind fun t520 => ((spec_l09Own.f k t520 a1).bind fun t523 => (some (t523, 0)))) else (some (([] : List (List (S43))), 2))) = some (r1, r2) := H
 have A3 := aM A30
 clear A30
 by_cases c4 : t519 = true
 rotate_left
 ·replace c4 := Bool.eq_false_iff.mpr c4
  subst c4
  have H1 : (some (([] : List (List (S43))), 2)) = some (r1, r2) := by rw [if_neg (show ¬ (false = true) by decide)] at H; exact H
  clear H
  have H := H1
  clear H1
  simp only [Option.some.injEq, Prod.mk.injEq] at H
  obtain ⟨rfl, rfl⟩ := H
  go_enter Try.func11, Try.ntmps11
  go_wp2_with (first | ((with_reducible refine gate_callee (f := 15) rfl ?_); refine goesL_ (some 7) rfl rfl Try.func15 (by kernel_rfl) rfl #[.int .i64 a0, .int .i64 1, .int .i64 4] rfl zm ?_; (with_reducible refine (spec_l01In.calls a0 1 4 false _ A3.out).mono ?_); rintro e w' ⟨rfl, ⟨nd, rfl⟩⟩; refine ⟨_, rfl, ?_⟩))
  go_ret2
  exact ⟨_, zw, by first | exact Kd.S_nil _ _ _ _ _ | exact Kd.N_nil _ _ _ _ _ | exact Kd.V_nil _ _ _ _ _ | exact Kd.Q_nil _ _ _ _ _ | exact Kd.R_nil _ _ _ _ _, zb⟩
 subst c4
 have H1 : ((spec_l09All.f k a0).bind fun t520 => ((spec_l09Own.f k t520 a1).bind fun t523 => (some (t523, 0)))) = some (r1, r2) := by rw [if_pos rfl] at H; exact H
 clear H
 have H := H1
 clear H1
 replace H := Option.bind_eq_some_iff.mp H
 obtain ⟨t520, A50, H⟩ := H
 replace H : ((spec_l09Own.f k t520 a1).bind fun t523 => (some (t523, 0))) = some (r1, r2) := H
 have A5 := aM A50
 clear A50
 replace H := Option.bind_eq_some_iff.mp H
 obtain ⟨t523, A60, H⟩ := H
 replace H : (some (t523, 0)) = some (r1, r2) := H
 have A6 := aM A60
 clear A60
 simp only [Option.some.injEq, Prod.mk.injEq] at H
 obtain ⟨rfl, rfl⟩ := H
 go_enter Try.func11, Try.ntmps11
 go_wp2_with (first | ((with_reducible refine gate_callee (f := 15) rfl ?_); refine goesL_ (some 7) rfl rfl Try.func15 (by kernel_rfl) rfl #[.int .i64 a0, .int .i64 1, .int .i64 4] rfl zm ?_; (with_reducible refine (spec_l01In.calls a0 1 4 true _ A3.out).mono ?_); rintro e w' ⟨rfl, ⟨nd, rfl⟩⟩; refine ⟨_, rfl, ?_⟩) | ((with_reducible refine gate_callee (f := 16) rfl ?_); refine goesL_ (some 10) rfl rfl Try.func16 (by kernel_rfl) rfl #[.int .i64 a0] rfl zm ?_; (with_reducible refine (spec_l09All.calls k a0 t520 _ A5.out).mono ?_); rintro e w7 ⟨v521, rfl, ho0, hb⟩; refine ⟨_, rfl, ?_⟩; have n0_ := aM (Kd.V_lower (Kd.V_mono (ok' := fun k_ => (w.heap.size ≤ k_)) ho0 (fun k_ hk_ => (Nat.le_trans (below_size zb) hk_))) (below_size zb)); have n1_ := aM (below_step zb hb); clear HB; have HO522 := n0_; have HB := n1_; clear n0_ n1_; (try clear hb); (try clear hb2); (try clear hk); (try clear hi); (try clear ho0); obtain ⟨Ao8, co8, eo8⟩ := Kd.V_slice HO522.out; subst eo8) | ((with_reducible refine gate_callee (f := 17) rfl ?_); refine goesL_ (some 12) rfl rfl Try.func17 (by kernel_rfl) rfl #[.slice Ao8 t520.length co8, .bool a1] rfl zm ?_; (with_reducible refine (spec_l09Own.calls k (fun k_ => (w.heap.size ≤ k_)) _ _ t520 a1 t523 _ ?side1 A6.out).mono ?_); (case side1 => exact HO522.out); rintro e w9 ⟨v524, rfl, ho0, hb⟩; refine ⟨_, rfl, ?_⟩; have n0_ := aM (Kd.V_elder' (mV_ HO522.out) (by first | exact Kd.N_base ho0 | exact Kd.S_base ho0 | exact Kd.R_base ho0) hb); have n1_ := aM (Kd.N_lower (Kd.N_mono (ok' := fun k_ => (w.heap.size ≤ k_)) ho0 (fun k_ hk_ => Or.elim hk_ (fun hs_ => hs_) (fun hn_ => (Nat.le_trans (below_size zb) hn_)))) (below_size zb)); have n2_ := aM (below_step zb hb); clear HO522 HB; have HO522 := n0_; have HO525 := n1_; have HB := n2_; clear n0_ n1_ n2_; (try clear hb); (try clear hb2); (try clear hk); (try clear hi); (try clear ho0)))
 go_ret2
 exact ⟨_, zw, Kd.N_V (mN_ HO525.out), zb⟩
def laws_eqCube.f (a0_0 : Int) (a0_1 : Int) (a0_2 : Int) (a1_0 : Int) (a1_1 : Int) (a1_2 : Int) : Option (Bool) := if a0_0 = a1_0 then (if a0_1 = a1_1 then (if a0_2 = a1_2 then (some true) else (some false)) else (some false)) else (some false)
theorem laws_eqCube.calls (a0_0 : Int) (a0_1 : Int) (a0_2 : Int) (a1_0 : Int) (a1_1 : Int) (a1_2 : Int) (r : Bool) (w : World) (h : laws_eqCube.f a0_0 a0_1 a0_2 a1_0 a1_1 a1_2 = some r) :
  Calls Try.prog 48 #[.agg #[.int .i64 a0_0, .int .i64 a0_1, .int .i64 a0_2], .agg #[.int .i64 a1_0, .int .i64 a1_1, .int .i64 a1_2]] w fun e w' => e = .returned (.bool r) ∧ Below w.heap.size w w' := by
 have hu43 := Try.underlying43
 have HB := aM (Below.refl w.heap.size w)
 have H : (if a0_0 = a1_0 then (if a0_1 = a1_1 then (if a0_2 = a1_2 then (some true) else (some false)) else (some false)) else (some false)) = some r := h
 clear h
 by_cases c3 : a0_0 = a1_0
 rotate_left
 ·rw [if_neg c3] at H
  have c3b0 : (a0_0 == a1_0) = false := beq_eq_false_iff_ne.mpr c3
  have c3b1 : (a0_0 != a1_0) = true := bne_iff_ne.mpr c3
  obtain rfl := Option.some.inj H
  go_enter Try.func48, Try.ntmps48
  go_wp2_with (first | ((with_reducible refine gate_dst (N := 2) rfl ?_); refine zx 2 #[.int .i64 a0_0, .int .i64 a0_1, .int .i64 a0_2] 43 ?_; intro gb526 hg w21 hbox hb; have n0_ := aM (below_step zb hb); have n1_ := aM (hbox); have n2_ := aM ((ze : w.heap.size ≤ gb526)); have n3_ := aM ((ze : w.heap.size ≤ gb526)); clear HB; have HB := n0_; have BK526 := n1_; have GW526 := n2_; have GE526 := n3_; clear n0_ n1_ n2_ n3_; clear hb hbox hg) | ((with_reducible refine gate_dst (N := 3) rfl ?_); refine zx 3 #[.int .i64 a1_0, .int .i64 a1_1, .int .i64 a1_2] 43 ?_; intro gb527 hg w22 hbox hb; have n0_ := aM (blk_below (g := gb526) (o := .cells #[.int .i64 a0_0, .int .i64 a0_1, .int .i64 a0_2] 43 (0, 0)) (mB_ BK526.out) hb); have n1_ := aM (below_step (zs GE526.out) hb); have n2_ := aM (hbox); have n3_ := aM ((zf GE526.out : w.heap.size ≤ gb527)); have n4_ := aM ((zf GE526.out : w.heap.size ≤ gb527)); have n5_ := aM ((zl BK526.out : gb526 ≠ gb527)); have n6_ := aM ((zn BK526.out : gb527 ≠ gb526)); clear BK526 HB; have BK526 := n0_; have HB := n1_; have BK527 := n2_; have GW527 := n3_; have GE527 := n4_; have NB526_527 := n5_; have NB527_526 := n6_; clear n0_ n1_ n2_ n3_ n4_ n5_ n6_ hb hbox hg; have hnb23 := NB526_527.out; have hnc23 := NB527_526.out; have hcz24_0 : w22.cell? ⟨gb526, 0, none⟩ = some (.int .i64 a0_0) := (blk_cell BK526.out 0).trans rfl; have hcz24_1 : w22.cell? ⟨gb526, 1, none⟩ = some (.int .i64 a0_1) := (blk_cell BK526.out 1).trans rfl; have hcz24_2 : w22.cell? ⟨gb526, 2, none⟩ = some (.int .i64 a0_2) := (blk_cell BK526.out 2).trans rfl; have hfz24_0 := blk_frozen BK526.out 0; have hfz24_1 := blk_frozen BK526.out 1; have hfz24_2 := blk_frozen BK526.out 2; have hcz25_0 : w22.cell? ⟨gb527, 0, none⟩ = some (.int .i64 a1_0) := (blk_cell BK527.out 0).trans rfl; have hcz25_1 : w22.cell? ⟨gb527, 1, none⟩ = some (.int .i64 a1_1) := (blk_cell BK527.out 1).trans rfl; have hcz25_2 : w22.cell? ⟨gb527, 2, none⟩ = some (.int .i64 a1_2) := (blk_cell BK527.out 2).trans rfl; have hfz25_0 := blk_frozen BK527.out 0; have hfz25_1 := blk_frozen BK527.out 1; have hfz25_2 := blk_frozen BK527.out 2))
  go_ret
  exact ⟨zw, zt GE526.out GE527.out⟩
 rw [if_pos c3] at H
 have c3b0 : (a0_0 == a1_0) = true := beq_iff_eq.mpr c3
 have c3b1 : (a0_0 != a1_0) = false := bne_eq_false_iff_eq.mpr c3
 clear c3
 by_cases c4 : a0_1 = a1_1
 rotate_left
 ·rw [if_neg c4] at H
  have c4b0 : (a0_1 == a1_1) = false := beq_eq_false_iff_ne.mpr c4
  have c4b1 : (a0_1 != a1_1) = true := bne_iff_ne.mpr c4
  obtain rfl := Option.some.inj H
  go_enter Try.func48, Try.ntmps48
  go_wp2_with (first | ((with_reducible refine gate_dst (N := 2) rfl ?_); refine zx 2 #[.int .i64 a0_0, .int .i64 a0_1, .int .i64 a0_2] 43 ?_; intro gb526 hg w16 hbox hb; have n0_ := aM (below_step zb hb); have n1_ := aM (hbox); have n2_ := aM ((ze : w.heap.size ≤ gb526)); have n3_ := aM ((ze : w.heap.size ≤ gb526)); clear HB; have HB := n0_; have BK526 := n1_; have GW526 := n2_; have GE526 := n3_; clear n0_ n1_ n2_ n3_; clear hb hbox hg) | ((with_reducible refine gate_dst (N := 3) rfl ?_); refine zx 3 #[.int .i64 a1_0, .int .i64 a1_1, .int .i64 a1_2] 43 ?_; intro gb527 hg w17 hbox hb; have n0_ := aM (blk_below (g := gb526) (o := .cells #[.int .i64 a0_0, .int .i64 a0_1, .int .i64 a0_2] 43 (0, 0)) (mB_ BK526.out) hb); have n1_ := aM (below_step (zs GE526.out) hb); have n2_ := aM (hbox); have n3_ := aM ((zf GE526.out : w.heap.size ≤ gb527)); have n4_ := aM ((zf GE526.out : w.heap.size ≤ gb527)); have n5_ := aM ((zl BK526.out : gb526 ≠ gb527)); have n6_ := aM ((zn BK526.out : gb527 ≠ gb526)); clear BK526 HB; have BK526 := n0_; have HB := n1_; have BK527 := n2_; have GW527 := n3_; have GE527 := n4_; have NB526_527 := n5_; have NB527_526 := n6_; clear n0_ n1_ n2_ n3_ n4_ n5_ n6_ hb hbox hg; have hnb18 := NB526_527.out; have hnc18 := NB527_526.out; have hcz19_0 : w17.cell? ⟨gb526, 0, none⟩ = some (.int .i64 a0_0) := (blk_cell BK526.out 0).trans rfl; have hcz19_1 : w17.cell? ⟨gb526, 1, none⟩ = some (.int .i64 a0_1) := (blk_cell BK526.out 1).trans rfl; have hcz19_2 : w17.cell? ⟨gb526, 2, none⟩ = some (.int .i64 a0_2) := (blk_cell BK526.out 2).trans rfl; have hfz19_0 := blk_frozen BK526.out 0; have hfz19_1 := blk_frozen BK526.out 1; have hfz19_2 := blk_frozen BK526.out 2; have hcz20_0 : w17.cell? ⟨gb527, 0, none⟩ = some (.int .i64 a1_0) := (blk_cell BK527.out 0).trans rfl; have hcz20_1 : w17.cell? ⟨gb527, 1, none⟩ = some (.int .i64 a1_1) := (blk_cell BK527.out 1).trans rfl; have hcz20_2 : w17.cell? ⟨gb527, 2, none⟩ = some (.int .i64 a1_2) := (blk_cell BK527.out 2).trans rfl; have hfz20_0 := blk_frozen BK527.out 0; have hfz20_1 := blk_frozen BK527.out 1; have hfz20_2 := blk_frozen BK527.out 2))
  go_ret
  exact ⟨zw, zt GE526.out GE527.out⟩
 rw [if_pos c4] at H
 have c4b0 : (a0_1 == a1_1) = true := beq_iff_eq.mpr c4
 have c4b1 : (a0_1 != a1_1) = false := bne_eq_false_iff_eq.mpr c4
 clear c4
 by_cases c5 : a0_2 = a1_2
 rotate_left
 ·rw [if_neg c5] at H
  have c5b0 : (a0_2 == a1_2) = false := beq_eq_false_iff_ne.mpr c5
  have c5b1 : (a0_2 != a1_2) = true := bne_iff_ne.mpr c5
  obtain rfl := Option.some.inj H
  go_enter Try.func48, Try.ntmps48
  go_wp2_with (first | ((with_reducible refine gate_dst (N := 2) rfl ?_); refine zx 2 #[.int .i64 a0_0, .int .i64 a0_1, .int .i64 a0_2] 43 ?_; intro gb526 hg w11 hbox hb; have n0_ := aM (below_step zb hb); have n1_ := aM (hbox); have n2_ := aM ((ze : w.heap.size ≤ gb526)); have n3_ := aM ((ze : w.heap.size ≤ gb526)); clear HB; have HB := n0_; have BK526 := n1_; have GW526 := n2_; have GE526 := n3_; clear n0_ n1_ n2_ n3_; clear hb hbox hg) | ((with_reducible refine gate_dst (N := 3) rfl ?_); refine zx 3 #[.int .i64 a1_0, .int .i64 a1_1, .int .i64 a1_2] 43 ?_; intro gb527 hg w12 hbox hb; have n0_ := aM (blk_below (g := gb526) (o := .cells #[.int .i64 a0_0, .int .i64 a0_1, .int .i64 a0_2] 43 (0, 0)) (mB_ BK526.out) hb); have n1_ := aM (below_step (zs GE526.out) hb); have n2_ := aM (hbox); have n3_ := aM ((zf GE526.out : w.heap.size ≤ gb527)); have n4_ := aM ((zf GE526.out : w.heap.size ≤ gb527)); have n5_ := aM ((zl BK526.out : gb526 ≠ gb527)); have n6_ := aM ((zn BK526.out : gb527 ≠ gb526)); clear BK526 HB; have BK526 := n0_; have HB := n1_; have BK527 := n2_; have GW527 := n3_; have GE527 := n4_; have NB526_527 := n5_; have NB527_526 := n6_; clear n0_ n1_ n2_ n3_ n4_ n5_ n6_ hb hbox hg; have hnb13 := NB526_527.out; have hnc13 := NB527_526.out; have hcz14_0 : w12.cell? ⟨gb526, 0, none⟩ = some (.int .i64 a0_0) := (blk_cell BK526.out 0).trans rfl; have hcz14_1 : w12.cell? ⟨gb526, 1, none⟩ = some (.int .i64 a0_1) := (blk_cell BK526.out 1).trans rfl; have hcz14_2 : w12.cell? ⟨gb526, 2, none⟩ = some (.int .i64 a0_2) := (blk_cell BK526.out 2).trans rfl; have hfz14_0 := blk_frozen BK526.out 0; have hfz14_1 := blk_frozen BK526.out 1; have hfz14_2 := blk_frozen BK526.out 2; have hcz15_0 : w12.cell? ⟨gb527, 0, none⟩ = some (.int .i64 a1_0) := (blk_cell BK527.out 0).trans rfl; have hcz15_1 : w12.cell? ⟨gb527, 1, none⟩ = some (.int .i64 a1_1) := (blk_cell BK527.out 1).trans rfl; have hcz15_2 : w12.cell? ⟨gb527, 2, none⟩ = some (.int .i64 a1_2) := (blk_cell BK527.out 2).trans rfl; have hfz15_0 := blk_frozen BK527.out 0; have hfz15_1 := blk_frozen BK527.out 1; have hfz15_2 := blk_frozen BK527.out 2))
  go_ret
  exact ⟨zw, zt GE526.out GE527.out⟩
 rw [if_pos c5] at H
 have c5b0 : (a0_2 == a1_2) = true := beq_iff_eq.mpr c5
 have c5b1 : (a0_2 != a1_2) = false := bne_eq_false_iff_eq.mpr c5
 clear c5
 obtain rfl := Option.some.inj H
 go_enter Try.func48, Try.ntmps48
 go_wp2_with (first | ((with_reducible refine gate_dst (N := 2) rfl ?_); refine zx 2 #[.int .i64 a0_0, .int .i64 a0_1, .int .i64 a0_2] 43 ?_; intro gb526 hg w6 hbox hb; have n0_ := aM (below_step zb hb); have n1_ := aM (hbox); have n2_ := aM ((ze : w.heap.size ≤ gb526)); have n3_ := aM ((ze : w.heap.size ≤ gb526)); clear HB; have HB := n0_; have BK526 := n1_; have GW526 := n2_; have GE526 := n3_; clear n0_ n1_ n2_ n3_; clear hb hbox hg) | ((with_reducible refine gate_dst (N := 3) rfl ?_); refine zx 3 #[.int .i64 a1_0, .int .i64 a1_1, .int .i64 a1_2] 43 ?_; intro gb527 hg w7 hbox hb; have n0_ := aM (blk_below (g := gb526) (o := .cells #[.int .i64 a0_0, .int .i64 a0_1, .int .i64 a0_2] 43 (0, 0)) (mB_ BK526.out) hb); have n1_ := aM (below_step (zs GE526.out) hb); have n2_ := aM (hbox); have n3_ := aM ((zf GE526.out : w.heap.size ≤ gb527)); have n4_ := aM ((zf GE526.out : w.heap.size ≤ gb527)); have n5_ := aM ((zl BK526.out : gb526 ≠ gb527)); have n6_ := aM ((zn BK526.out : gb527 ≠ gb526)); clear BK526 HB; have BK526 := n0_; have HB := n1_; have BK527 := n2_; have GW527 := n3_; have GE527 := n4_; have NB526_527 := n5_; have NB527_526 := n6_; clear n0_ n1_ n2_ n3_ n4_ n5_ n6_ hb hbox hg; have hnb8 := NB526_527.out; have hnc8 := NB527_526.out; have hcz9_0 : w7.cell? ⟨gb526, 0, none⟩ = some (.int .i64 a0_0) := (blk_cell BK526.out 0).trans rfl; have hcz9_1 : w7.cell? ⟨gb526, 1, none⟩ = some (.int .i64 a0_1) := (blk_cell BK526.out 1).trans rfl; have hcz9_2 : w7.cell? ⟨gb526, 2, none⟩ = some (.int .i64 a0_2) := (blk_cell BK526.out 2).trans rfl; have hfz9_0 := blk_frozen BK526.out 0; have hfz9_1 := blk_frozen BK526.out 1; have hfz9_2 := blk_frozen BK526.out 2; have hcz10_0 : w7.cell? ⟨gb527, 0, none⟩ = some (.int .i64 a1_0) := (blk_cell BK527.out 0).trans rfl; have hcz10_1 : w7.cell? ⟨gb527, 1, none⟩ = some (.int .i64 a1_1) := (blk_cell BK527.out 1).trans rfl; have hcz10_2 : w7.cell? ⟨gb527, 2, none⟩ = some (.int .i64 a1_2) := (blk_cell BK527.out 2).trans rfl; have hfz10_0 := blk_frozen BK527.out 0; have hfz10_1 := blk_frozen BK527.out 1; have hfz10_2 := blk_frozen BK527.out 2))
 go_ret
 exact ⟨zw, zt GE526.out GE527.out⟩
def laws_eqCubeS.l0 : Nat → List (S43) → List (S43) → Int → Option (Bool)
 | 0, _, _, _ => none
 | k + 1, x0, x1, x5 => if x5 < (x0.length : Int) then (if 0 ≤ x5 then (if x5 < (x1.length : Int) then ((laws_eqCube.f ((rd_T43 x0 x5).f0) ((rd_T43 x0 x5).f1) ((rd_T43 x0 x5).f2) ((rd_T43 x1 x5).f0) ((rd_T43 x1 x5).f1) ((rd_T43 x1 x5).f2)).bind fun t530 => (if t530 = true then (laws_eqCubeS.l0 k x0 x1 (wrap64 (x5 + 1))) else (some false))) else (none)) else (none)) else (some true)
def laws_eqCubeS.f (k : Nat) (l0 : List (S43)) (l1 : List (S43)) : Option (Bool) := if (l0.length : Int) = (l1.length : Int) then (laws_eqCubeS.l0 k l0 l1 0) else (some false)
def laws_eqCubeS.T6 : Bool × List (List Nat × List Nat) := (true, [([], []), ([], []), ([0, 1], [0, 1]), ([2], [2]), ([], []), ([], []), ([4, 5], [4, 5]), ([6], [6]), ([3, 7], [3, 7]), ([8], [8])])
def laws_eqCubeS.B6 : List Nat := [0, 0, 3, 7, 0, 0, 48, 112, 255, 511]
theorem laws_eqCubeS.tab6 : rtab .any (opsOf Try.f22 6) = laws_eqCubeS.T6 := by kernel_rfl
theorem laws_eqCubeS.bits6 : waitsOk laws_eqCubeS.T6.2 laws_eqCubeS.B6 = true := by kernel_rfl
abbrev laws_eqCubeS.c3 (w : World) (a : Addr) (i : Int) (l : List S43) (R : Prop) : Prop := w.cell? (a.add (i.toNat * 3)) = some (.int .i64 ((rd_T43 l i).f0)) ∧ w.cell? ⟨(a.add (i.toNat * 3)).block, (a.add (i.toNat * 3)).off + 1, none⟩ = some (.int .i64 ((rd_T43 l i).f1)) ∧ w.cell? ⟨(a.add (i.toNat * 3)).block, (a.add (i.toNat * 3)).off + 2, none⟩ = some (.int .i64 ((rd_T43 l i).f2)) ∧ R
abbrev laws_eqCubeS.d3 (w : World) (a : Addr) (i : Int) (l : List S43) : Prop := w.cell? (a.add (i.toNat * 3)) = some (.int .i64 ((rd_T43 l i).f0)) ∧ w.cell? ⟨(a.add (i.toNat * 3)).block, (a.add (i.toNat * 3)).off + 1, none⟩ = some (.int .i64 ((rd_T43 l i).f1)) ∧ w.cell? ⟨(a.add (i.toNat * 3)).block, (a.add (i.toNat * 3)).off + 2, none⟩ = some (.int .i64 ((rd_T43 l i).f2))
theorem laws_eqCubeS.calls (k : Nat) (A0 : Option Addr) (c0 : Nat) (l0 : List (S43)) (A1 : Option Addr) (c1 : Nat) (l1 : List (S43)) (r : Bool) (w : World) (hr0 : Kd.C k43 w A0 l0.length l0) (hc0 : l0.length ≤ c0) (hr1 : Kd.C k43 w A1 l1.length l1) (hc1 : l1.length ≤ c1) (h : laws_eqCubeS.f k l0 l1 = some r) :
  Calls Try.prog 22 #[.slice A0 l0.length c0, .slice A1 l1.length c1] w fun e w' => e = .returned (.bool r) ∧ Below w.heap.size w w' := by
 have hu43 := Try.underlying43
 have HR0 := aM hr0
 have HC0 := aM hc0
 clear hr0 hc0
 have HR1 := aM hr1
 have HC1 := aM hc1
 clear hr1 hc1
 have HB := aM (Below.refl w.heap.size w)
 have H : (if (l0.length : Int) = (l1.length : Int) then (laws_eqCubeS.l0 k l0 l1 0) else (some false)) = some r := h
 clear h
 by_cases c3 : (l0.length : Int) = (l1.length : Int)
 rotate_left
 ·rw [if_neg c3] at H
  have c3b0 : ((l0.length : Int) == (l1.length : Int)) = false := beq_eq_false_iff_ne.mpr c3
  have c3b1 : ((l0.length : Int) != (l1.length : Int)) = true := bne_iff_ne.mpr c3
  have c3b2 : (l0.length == l1.length) = false := by first | simpa using c3 | (simp at c3 ⊢; omega)
  obtain rfl := Option.some.inj H
  go_enter Try.func22, Try.ntmps22
  go_wp2
  go_ret
  exact ⟨zw, zb⟩
 rw [if_pos c3] at H
 have c3b0 : ((l0.length : Int) == (l1.length : Int)) = true := beq_iff_eq.mpr c3
 have c3b1 : ((l0.length : Int) != (l1.length : Int)) = false := bne_eq_false_iff_eq.mpr c3
 have c3b2 : (l0.length == l1.length) = true := by first | simpa using c3 | (simp at c3 ⊢; omega)
 clear c3
 have H' := aM H
 clear H
 go_enter Try.func22, Try.ntmps22
 go_wp2
 go_loopg [5] k (fun kq v5 w' => ∃ (x5_1 : Int), v5 = .int .i64 x5_1 ∧ Aside0 (laws_eqCubeS.l0 kq l0 l1 x5_1 = some r) ∧ Aside0 (kq ≤ k) ∧ Aside0 (Below w.heap.size w w'))
 case atStart => exact ⟨(0), zr, H', ⟨Nat.le_refl _⟩, ⟨zb⟩⟩
 case round =>
  clear H'
  try clear c1
  try clear c2
  try clear p2
  try clear c3
  try clear c3b0
  try clear c3b1
  try clear c3b2
  obtain ⟨x5_1, rfl, HA, HK1, HB⟩ := hrel
  cases gk with
  | zero => exact absurd HA.out (by simp [laws_eqCubeS.l0])
  | succ k1 =>
   have H := HA.out
   clear HA
   simp only [laws_eqCubeS.l0] at H
   by_cases c4 : x5_1 < (l0.length : Int)
   rotate_left
   ·rw [if_neg c4] at H
    have c4b0 : decide (x5_1 < (l0.length : Int)) = false := decide_eq_false c4
    clear c4
    obtain rfl := Option.some.inj H
    go_wp2
    go_ret
    exact ⟨zw, zb⟩
   rw [if_pos c4] at H
   have c4b0 : decide (x5_1 < (l0.length : Int)) = true := decide_eq_true c4
   clear c4
   by_cases c5 : 0 ≤ x5_1
   rotate_left
   ·rw [if_neg c5] at H
    exact absurd H (by simp)
   rw [if_pos c5] at H
   have c5b0 : decide (0 ≤ x5_1) = true := decide_eq_true c5
   clear c5
   by_cases c6 : x5_1 < (l1.length : Int)
   rotate_left
   ·rw [if_neg c6] at H
    exact absurd H (by simp)
   rw [if_pos c6] at H
   have c6b0 : decide (x5_1 < (l1.length : Int)) = true := decide_eq_true c6
   clear c6
   replace H := Option.bind_eq_some_iff.mp H
   obtain ⟨t530, A70, H⟩ := H
   replace H : (if t530 = true then (laws_eqCubeS.l0 k1 l0 l1 (wrap64 (x5_1 + 1))) else (some false)) = some r := H
   have A7 := aM A70
   clear A70
   by_cases c8 : t530 = true
   rotate_left
   ·replace c8 := Bool.eq_false_iff.mpr c8
    subst c8
    have H1 : (some false) = some r := by rw [if_neg (show ¬ (false = true) by decide)] at H; exact H
    clear H
    have H := H1
    clear H1
    obtain rfl := Option.some.inj H
    try go_wp2
    have n0_ := aM (below_drew1 HB.out)
    clear HB
    have HB := n0_
    clear n0_
    have p528 : 0 ≤ (x5_1 : Int) := of_decide_eq_true za
    have q528 : x5_1 < (l0.length : Int) := of_decide_eq_true za
    obtain ⟨ad528, e528, hx528_0, hx528_1, hx528_2⟩ := at_T43 HR0.out x5_1 p528 q528
    have hw528_2 := hx528_2
    have hw528_1 := hx528_1
    have hw528_0 := hx528_0
    cases e528
    replace hx528_0 := zk HB.out hx528_0
    replace hx528_1 := zk HB.out hx528_1
    replace hx528_2 := zk HB.out hx528_2
    replace p528 := eq_true p528
    replace q528 := eq_true q528
    have p529 : 0 ≤ (x5_1 : Int) := of_decide_eq_true za
    have q529 : x5_1 < (l1.length : Int) := of_decide_eq_true za
    obtain ⟨ad529, e529, hx529_0, hx529_1, hx529_2⟩ := at_T43 HR1.out x5_1 p529 q529
    have hw529_2 := hx529_2
    have hw529_1 := hx529_1
    have hw529_0 := hx529_0
    cases e529
    replace hx529_0 := zk HB.out hx529_0
    replace hx529_1 := zk HB.out hx529_1
    replace hx529_2 := zk HB.out hx529_2
    replace p529 := eq_true p529
    replace q529 := eq_true q529
    refine start_ (n := 10) (S := fun w' => (laws_eqCubeS.c3 w' ad528 x5_1 l0 ((laws_eqCubeS.d3 w' ad529 x5_1 l1)))) (ds := []) zA5 (by kernel_rfl) rfl rfl ⟨(zk HB.out hw528_0), (zk HB.out hw528_1), (zk HB.out hw528_2), (zk HB.out hw529_0), (zk HB.out hw529_1), (zk HB.out hw529_2)⟩ (fun hHeld => ?_); refine with_tabW laws_eqCubeS.tab6 laws_eqCubeS.bits6 (fun HT_ HW_ => ?_)
    generalize wr.drew = w11 at HB hx528_0 hx528_1 hx528_2 hx529_0 hx529_1 hx529_2 hHeld ⊢
    refine zp 0 (some 17) ?_ zA6 rfl rfl (Or.inl ⟨by rfl, ?_⟩) ?_ ?_ ?_
    rotate_left
    ·intro w'
     go_simp
     with_reducible rfl
    rotate_left
    ·simp only [Act.put, xA, xB, xC, i64_w, i32_w]
     rfl
    refine zp 1 (some 18) ?_ zA7 rfl rfl (Or.inl ⟨by rfl, ?_⟩) ?_ ?_ ?_
    rotate_left
    ·intro w'
     go_simp
     with_reducible rfl
    rotate_left
    ·simp only [Act.put, xA, xB, xC, i64_w, i32_w]
     rfl
    refine zp 2 (some 19) ?_ zA8 rfl rfl (Or.inl ⟨by rfl, ?_⟩) ?_ ?_ ?_
    rotate_left
    ·intro w'
     go_simp
     with_reducible rfl
    rotate_left
    ·simp only [Act.put, xA, xB, xC, i64_w, i32_w]
     rfl
    refine zp 4 (some 21) ?_ zA108 rfl rfl (Or.inl ⟨by rfl, ?_⟩) ?_ ?_ ?_
    rotate_left
    ·intro w'
     go_simp
     with_reducible rfl
    rotate_left
    ·simp only [Act.put, xA, xB, xC, i64_w, i32_w]
     rfl
    refine zp 5 (some 22) ?_ zA109 rfl rfl (Or.inl ⟨by rfl, ?_⟩) ?_ ?_ ?_
    rotate_left
    ·intro w'
     go_simp
     with_reducible rfl
    rotate_left
    ·simp only [Act.put, xA, xB, xC, i64_w, i32_w]
     rfl
    refine zp 6 (some 23) ?_ zA110 rfl rfl (Or.inl ⟨by rfl, ?_⟩) ?_ ?_ ?_
    rotate_left
    ·intro w'
     go_simp
     with_reducible rfl
    rotate_left
    ·simp only [Act.put, xA, xB, xC, i64_w, i32_w]
     rfl
    refine zu 3 (some 20) ?_ zA12 rfl rfl (Or.inl ⟨by rfl, ?_⟩) hHeld ?_ ?_ ?_
    rotate_left
    ·rintro w' ⟨s0, s1, s2, s3, s4, s5⟩
     go_simp
     with_reducible rfl
    rotate_left
    ·simp only [Act.put, xA, xB, xC, i64_w, i32_w]
     rfl
    refine zu 7 (some 24) ?_ zA13 rfl rfl (Or.inl ⟨by rfl, ?_⟩) hHeld ?_ ?_ ?_
    rotate_left
    ·rintro w' ⟨s0, s1, s2, s3, s4, s5⟩
     go_simp
     with_reducible rfl
    rotate_left
    ·simp only [Act.put, xA, xB, xC, i64_w, i32_w]
     rfl
    refine one_ (i := 8) (N := some 25) zA14 rfl rfl (one_of HT_.out (by kernel_rfl)) (by decide) (fun K hK => ?_)
    refine goes_ Try.func48 (by kernel_rfl) rfl #[.agg #[.int .i64 ((rd_T43 l0 x5_1).f0), .int .i64 ((rd_T43 l0 x5_1).f1), .int .i64 ((rd_T43 l0 x5_1).f2)], .agg #[.int .i64 ((rd_T43 l1 x5_1).f0), .int .i64 ((rd_T43 l1 x5_1).f1), .int .i64 ((rd_T43 l1 x5_1).f2)]] (by rfl) rfl rfl zm ?_
    with_reducible refine (laws_eqCube.calls ((rd_T43 l0 x5_1).f0) ((rd_T43 l0 x5_1).f1) ((rd_T43 l0 x5_1).f2) ((rd_T43 l1 x5_1).f0) ((rd_T43 l1 x5_1).f1) ((rd_T43 l1 x5_1).f2) false _ A7.out).mono ?_
    rintro e w12 ⟨rfl, hb⟩
    refine ⟨_, rfl, ?_⟩
    have n0_ := aM (below_step zb hb)
    clear HB
    have HB := n0_
    clear n0_
    (try clear hb)
    (try clear hb2)
    (try clear hk)
    (try clear hi)
    refine hK.out _ _ ⟨(zk HB.out hw528_0), (zk HB.out hw528_1), (zk HB.out hw528_2), (zk HB.out hw529_0), (zk HB.out hw529_1), (zk HB.out hw529_2)⟩ (fun hHeld => ?_)
    clear hK K
    refine norm_ (a' := ?_) ?_ ?_
    rotate_left
    ·show Act.put _ (some 25) _ = _
     simp only [Act.put, xA, xB, xC, i64_w, i32_w]
     rfl
    refine zp 9 (some 26) ?_ zA15 rfl rfl (Or.inl ⟨by rfl, ?_⟩) ?_ ?_ ?_
    rotate_left
    ·intro w'
     go_simp
     with_reducible rfl
    rotate_left
    ·simp only [Act.put, xA, xB, xC, i64_w, i32_w]
     rfl
    refine done_ (done_of HT_.out (by kernel_rfl)) ?_
    try go_wp2
    go_ret
    exact ⟨zw, zb⟩
   subst c8
   have H1 : (laws_eqCubeS.l0 k1 l0 l1 (wrap64 (x5_1 + 1))) = some r := by rw [if_pos rfl] at H; exact H
   clear H
   have H := H1
   clear H1
   have H' := aM H
   clear H
   try go_wp2
   have n0_ := aM (below_drew1 HB.out)
   clear HB
   have HB := n0_
   clear n0_
   have p528 : 0 ≤ (x5_1 : Int) := of_decide_eq_true za
   have q528 : x5_1 < (l0.length : Int) := of_decide_eq_true za
   obtain ⟨ad528, e528, hx528_0, hx528_1, hx528_2⟩ := at_T43 HR0.out x5_1 p528 q528
   have hw528_2 := hx528_2
   have hw528_1 := hx528_1
   have hw528_0 := hx528_0
   cases e528
   replace hx528_0 := zk HB.out hx528_0
   replace hx528_1 := zk HB.out hx528_1
   replace hx528_2 := zk HB.out hx528_2
   replace p528 := eq_true p528
   replace q528 := eq_true q528
   have p529 : 0 ≤ (x5_1 : Int) := of_decide_eq_true za
   have q529 : x5_1 < (l1.length : Int) := of_decide_eq_true za
   obtain ⟨ad529, e529, hx529_0, hx529_1, hx529_2⟩ := at_T43 HR1.out x5_1 p529 q529
   have hw529_2 := hx529_2
   have hw529_1 := hx529_1
   have hw529_0 := hx529_0
   cases e529
   replace hx529_0 := zk HB.out hx529_0
   replace hx529_1 := zk HB.out hx529_1
   replace hx529_2 := zk HB.out hx529_2
   replace p529 := eq_true p529
   replace q529 := eq_true q529
   refine start_ (n := 10) (S := fun w' => (laws_eqCubeS.c3 w' ad528 x5_1 l0 ((laws_eqCubeS.d3 w' ad529 x5_1 l1)))) (ds := []) zA5 (by kernel_rfl) rfl rfl ⟨(zk HB.out hw528_0), (zk HB.out hw528_1), (zk HB.out hw528_2), (zk HB.out hw529_0), (zk HB.out hw529_1), (zk HB.out hw529_2)⟩ (fun hHeld => ?_); refine with_tabW laws_eqCubeS.tab6 laws_eqCubeS.bits6 (fun HT_ HW_ => ?_)
   generalize wr.drew = w9 at HB hx528_0 hx528_1 hx528_2 hx529_0 hx529_1 hx529_2 hHeld ⊢
   refine zp 0 (some 17) ?_ zA6 rfl rfl (Or.inl ⟨by rfl, ?_⟩) ?_ ?_ ?_
   rotate_left
   ·intro w'
    go_simp
    with_reducible rfl
   rotate_left
   ·simp only [Act.put, xA, xB, xC, i64_w, i32_w]
    rfl
   refine zp 1 (some 18) ?_ zA7 rfl rfl (Or.inl ⟨by rfl, ?_⟩) ?_ ?_ ?_
   rotate_left
   ·intro w'
    go_simp
    with_reducible rfl
   rotate_left
   ·simp only [Act.put, xA, xB, xC, i64_w, i32_w]
    rfl
   refine zp 2 (some 19) ?_ zA8 rfl rfl (Or.inl ⟨by rfl, ?_⟩) ?_ ?_ ?_
   rotate_left
   ·intro w'
    go_simp
    with_reducible rfl
   rotate_left
   ·simp only [Act.put, xA, xB, xC, i64_w, i32_w]
    rfl
   refine zp 4 (some 21) ?_ zA108 rfl rfl (Or.inl ⟨by rfl, ?_⟩) ?_ ?_ ?_
   rotate_left
   ·intro w'
    go_simp
    with_reducible rfl
   rotate_left
   ·simp only [Act.put, xA, xB, xC, i64_w, i32_w]
    rfl
   refine zp 5 (some 22) ?_ zA109 rfl rfl (Or.inl ⟨by rfl, ?_⟩) ?_ ?_ ?_
   rotate_left
   ·intro w'
    go_simp
    with_reducible rfl
   rotate_left
   ·simp only [Act.put, xA, xB, xC, i64_w, i32_w]
    rfl
   refine zp 6 (some 23) ?_ zA110 rfl rfl (Or.inl ⟨by rfl, ?_⟩) ?_ ?_ ?_
   rotate_left
   ·intro w'
    go_simp
    with_reducible rfl
   rotate_left
   ·simp only [Act.put, xA, xB, xC, i64_w, i32_w]
    rfl
   refine zu 3 (some 20) ?_ zA12 rfl rfl (Or.inl ⟨by rfl, ?_⟩) hHeld ?_ ?_ ?_
   rotate_left
   ·rintro w' ⟨s0, s1, s2, s3, s4, s5⟩
    go_simp
    with_reducible rfl
   rotate_left
   ·simp only [Act.put, xA, xB, xC, i64_w, i32_w]
    rfl
   refine zu 7 (some 24) ?_ zA13 rfl rfl (Or.inl ⟨by rfl, ?_⟩) hHeld ?_ ?_ ?_
   rotate_left
   ·rintro w' ⟨s0, s1, s2, s3, s4, s5⟩
    go_simp
    with_reducible rfl
   rotate_left
   ·simp only [Act.put, xA, xB, xC, i64_w, i32_w]
    rfl
   refine one_ (i := 8) (N := some 25) zA14 rfl rfl (one_of HT_.out (by kernel_rfl)) (by decide) (fun K hK => ?_)
   refine goes_ Try.func48 (by kernel_rfl) rfl #[.agg #[.int .i64 ((rd_T43 l0 x5_1).f0), .int .i64 ((rd_T43 l0 x5_1).f1), .int .i64 ((rd_T43 l0 x5_1).f2)], .agg #[.int .i64 ((rd_T43 l1 x5_1).f0), .int .i64 ((rd_T43 l1 x5_1).f1), .int .i64 ((rd_T43 l1 x5_1).f2)]] (by rfl) rfl rfl zm ?_
   with_reducible refine (laws_eqCube.calls ((rd_T43 l0 x5_1).f0) ((rd_T43 l0 x5_1).f1) ((rd_T43 l0 x5_1).f2) ((rd_T43 l1 x5_1).f0) ((rd_T43 l1 x5_1).f1) ((rd_T43 l1 x5_1).f2) true _ A7.out).mono ?_
   rintro e w10 ⟨rfl, hb⟩
   refine ⟨_, rfl, ?_⟩
   have n0_ := aM (below_step zb hb)
   clear HB
   have HB := n0_
   clear n0_
   (try clear hb)
   (try clear hb2)
   (try clear hk)
   (try clear hi)
   refine hK.out _ _ ⟨(zk HB.out hw528_0), (zk HB.out hw528_1), (zk HB.out hw528_2), (zk HB.out hw529_0), (zk HB.out hw529_1), (zk HB.out hw529_2)⟩ (fun hHeld => ?_)
   clear hK K
   refine norm_ (a' := ?_) ?_ ?_
   rotate_left
   ·show Act.put _ (some 25) _ = _
    simp only [Act.put, xA, xB, xC, i64_w, i32_w]
    rfl
   refine zp 9 (some 26) ?_ zA15 rfl rfl (Or.inl ⟨by rfl, ?_⟩) ?_ ?_ ?_
   rotate_left
   ·intro w'
    go_simp
    with_reducible rfl
   rotate_left
   ·simp only [Act.put, xA, xB, xC, i64_w, i32_w]
    rfl
   refine done_ (done_of HT_.out (by kernel_rfl)) ?_
   try go_wp2
   go_roundg k1
   case measure => have := HK1.out; omega
   case rel => exact ⟨(wrap64 (x5_1 + 1)), zr, H', ⟨by have := HK1.out; omega⟩, ⟨zb⟩⟩
def laws_eqCubeSS.l0 : Nat → List (List (S43)) → List (List (S43)) → Int → Option (Bool)
 | 0, _, _, _ => none
 | k + 1, x0, x1, x5 => if x5 < (x0.length : Int) then (if 0 ≤ x5 then (if x5 < (x1.length : Int) then ((laws_eqCubeS.f k (rd_L2 x0 x5) (rd_L2 x1 x5)).bind fun t533 => (if t533 = true then (laws_eqCubeSS.l0 k x0 x1 (wrap64 (x5 + 1))) else (some false))) else (none)) else (none)) else (some true)
def laws_eqCubeSS.f (k : Nat) (l0 : List (List (S43))) (l1 : List (List (S43))) : Option (Bool) := if (l0.length : Int) = (l1.length : Int) then (laws_eqCubeSS.l0 k l0 l1 0) else (some false)
def laws_eqCubeSS.T6 : Bool × List (List Nat × List Nat) := (true, [([], []), ([], []), ([0, 1], [0, 1]), ([2], [2]), ([], []), ([], []), ([4, 5], [4, 5]), ([6], [6]), ([3, 7], [3, 7]), ([8], [8])])
def laws_eqCubeSS.B6 : List Nat := [0, 0, 3, 7, 0, 0, 48, 112, 255, 511]
theorem laws_eqCubeSS.tab6 : rtab .any (opsOf Try.f12 6) = laws_eqCubeSS.T6 := by kernel_rfl
theorem laws_eqCubeSS.bits6 : waitsOk laws_eqCubeSS.T6.2 laws_eqCubeSS.B6 = true := by kernel_rfl
theorem laws_eqCubeSS.calls (k : Nat) (A0 : Option Addr) (c0 : Nat) (l0 : List (List (S43))) (A1 : Option Addr) (c1 : Nat) (l1 : List (List (S43))) (r : Bool) (w : World) (hr0 : Kd.C (Kd.slice 43 k43) w A0 l0.length l0) (hc0 : l0.length ≤ c0) (hr1 : Kd.C (Kd.slice 43 k43) w A1 l1.length l1) (hc1 : l1.length ≤ c1) (h : laws_eqCubeSS.f k l0 l1 = some r) :
  Calls Try.prog 12 #[.slice A0 l0.length c0, .slice A1 l1.length c1] w fun e w' => e = .returned (.bool r) ∧ Below w.heap.size w w' := by
 have HR0 := aM hr0
 have HC0 := aM hc0
 clear hr0 hc0
 have HR1 := aM hr1
 have HC1 := aM hc1
 clear hr1 hc1
 have HB := aM (Below.refl w.heap.size w)
 have H : (if (l0.length : Int) = (l1.length : Int) then (laws_eqCubeSS.l0 k l0 l1 0) else (some false)) = some r := h
 clear h
 by_cases c3 : (l0.length : Int) = (l1.length : Int)
 rotate_left
 ·rw [if_neg c3] at H
  have c3b0 : ((l0.length : Int) == (l1.length : Int)) = false := beq_eq_false_iff_ne.mpr c3
  have c3b1 : ((l0.length : Int) != (l1.length : Int)) = true := bne_iff_ne.mpr c3
  have c3b2 : (l0.length == l1.length) = false := by first | simpa using c3 | (simp at c3 ⊢; omega)
  obtain rfl := Option.some.inj H
  go_enter Try.func12, Try.ntmps12
  go_wp2
  go_ret
  exact ⟨zw, zb⟩
 rw [if_pos c3] at H
 have c3b0 : ((l0.length : Int) == (l1.length : Int)) = true := beq_iff_eq.mpr c3
 have c3b1 : ((l0.length : Int) != (l1.length : Int)) = false := bne_eq_false_iff_eq.mpr c3
 have c3b2 : (l0.length == l1.length) = true := by first | simpa using c3 | (simp at c3 ⊢; omega)
 clear c3
 have H' := aM H
 clear H
 go_enter Try.func12, Try.ntmps12
 go_wp2
 go_loopg [5] k (fun kq v5 w' => ∃ (x5_1 : Int), v5 = .int .i64 x5_1 ∧ Aside0 (laws_eqCubeSS.l0 kq l0 l1 x5_1 = some r) ∧ Aside0 (kq ≤ k) ∧ Aside0 (Below w.heap.size w w'))
 case atStart => exact ⟨(0), zr, H', ⟨Nat.le_refl _⟩, ⟨zb⟩⟩
 case round =>
  clear H'
  try clear c1
  try clear p2
  try clear c3
  try clear c3b0
  try clear c3b1
  try clear c3b2
  obtain ⟨x5_1, rfl, HA, HK1, HB⟩ := hrel
  cases gk with
  | zero => exact absurd HA.out (by simp [laws_eqCubeSS.l0])
  | succ k1 =>
   have H := HA.out
   clear HA
   simp only [laws_eqCubeSS.l0] at H
   by_cases c4 : x5_1 < (l0.length : Int)
   rotate_left
   ·rw [if_neg c4] at H
    have c4b0 : decide (x5_1 < (l0.length : Int)) = false := decide_eq_false c4
    clear c4
    obtain rfl := Option.some.inj H
    go_wp2
    go_ret
    exact ⟨zw, zb⟩
   rw [if_pos c4] at H
   have c4b0 : decide (x5_1 < (l0.length : Int)) = true := decide_eq_true c4
   clear c4
   by_cases c5 : 0 ≤ x5_1
   rotate_left
   ·rw [if_neg c5] at H
    exact absurd H (by simp)
   rw [if_pos c5] at H
   have c5b0 : decide (0 ≤ x5_1) = true := decide_eq_true c5
   clear c5
   by_cases c6 : x5_1 < (l1.length : Int)
   rotate_left
   ·rw [if_neg c6] at H
    exact absurd H (by simp)
   rw [if_pos c6] at H
   have c6b0 : decide (x5_1 < (l1.length : Int)) = true := decide_eq_true c6
   clear c6
   replace H := Option.bind_eq_some_iff.mp H
   obtain ⟨t533, A70, H⟩ := H
   replace H : (if t533 = true then (laws_eqCubeSS.l0 k1 l0 l1 (wrap64 (x5_1 + 1))) else (some false)) = some r := H
   have A7 := aM A70
   clear A70
   by_cases c8 : t533 = true
   rotate_left
   ·replace c8 := Bool.eq_false_iff.mpr c8
    subst c8
    have H1 : (some false) = some r := by rw [if_neg (show ¬ (false = true) by decide)] at H; exact H
    clear H
    have H := H1
    clear H1
    obtain rfl := Option.some.inj H
    try go_wp2
    have n0_ := aM (below_drew1 HB.out)
    clear HB
    have HB := n0_
    clear n0_
    have p531 : 0 ≤ (x5_1 : Int) := of_decide_eq_true za
    have q531 : x5_1 < (l0.length : Int) := of_decide_eq_true za
    obtain ⟨ad531, A531_0, c531_0, e531, hx531_0, hl531_0, hi531_0⟩ := at_L2 HR0.out x5_1 p531 q531
    have hw531_0 := hx531_0
    cases e531
    replace hx531_0 := zk HB.out hx531_0
    have HR531_0 := aM hi531_0
    have HC531_0 := aM hl531_0
    clear hi531_0 hl531_0
    replace p531 := eq_true p531
    replace q531 := eq_true q531
    have p532 : 0 ≤ (x5_1 : Int) := of_decide_eq_true za
    have q532 : x5_1 < (l1.length : Int) := of_decide_eq_true za
    obtain ⟨ad532, A532_0, c532_0, e532, hx532_0, hl532_0, hi532_0⟩ := at_L2 HR1.out x5_1 p532 q532
    have hw532_0 := hx532_0
    cases e532
    replace hx532_0 := zk HB.out hx532_0
    have HR532_0 := aM hi532_0
    have HC532_0 := aM hl532_0
    clear hi532_0 hl532_0
    replace p532 := eq_true p532
    replace q532 := eq_true q532
    refine start_ (n := 10) (S := fun w' => w'.cell? (ad531.add (x5_1).toNat) = some (.slice A531_0 (rd_L2 l0 x5_1).length c531_0) ∧ w'.cell? (ad532.add (x5_1).toNat) = some (.slice A532_0 (rd_L2 l1 x5_1).length c532_0)) (ds := []) zA5 (by kernel_rfl) rfl rfl ⟨(zk HB.out hw531_0), (zk HB.out hw532_0)⟩ (fun hHeld => ?_); refine with_tabW laws_eqCubeSS.tab6 laws_eqCubeSS.bits6 (fun HT_ HW_ => ?_)
    generalize wr.drew = w11 at HB HR531_0 HR532_0 hx531_0 hx532_0 hHeld ⊢
    refine zp 0 (some 17) ?_ zA6 rfl rfl (Or.inl ⟨by rfl, ?_⟩) ?_ ?_ ?_
    rotate_left
    ·intro w'
     go_simp
     with_reducible rfl
    rotate_left
    ·simp only [Act.put, xA, xB, xC, i64_w, i32_w]
     rfl
    refine zp 1 (some 18) ?_ zA7 rfl rfl (Or.inl ⟨by rfl, ?_⟩) ?_ ?_ ?_
    rotate_left
    ·intro w'
     go_simp
     with_reducible rfl
    rotate_left
    ·simp only [Act.put, xA, xB, xC, i64_w, i32_w]
     rfl
    refine zp 2 (some 19) ?_ zA8 rfl rfl (Or.inl ⟨by rfl, ?_⟩) ?_ ?_ ?_
    rotate_left
    ·intro w'
     go_simp
     with_reducible rfl
    rotate_left
    ·simp only [Act.put, xA, xB, xC, i64_w, i32_w]
     rfl
    refine zp 4 (some 21) ?_ zA108 rfl rfl (Or.inl ⟨by rfl, ?_⟩) ?_ ?_ ?_
    rotate_left
    ·intro w'
     go_simp
     with_reducible rfl
    rotate_left
    ·simp only [Act.put, xA, xB, xC, i64_w, i32_w]
     rfl
    refine zp 5 (some 22) ?_ zA109 rfl rfl (Or.inl ⟨by rfl, ?_⟩) ?_ ?_ ?_
    rotate_left
    ·intro w'
     go_simp
     with_reducible rfl
    rotate_left
    ·simp only [Act.put, xA, xB, xC, i64_w, i32_w]
     rfl
    refine zp 6 (some 23) ?_ zA110 rfl rfl (Or.inl ⟨by rfl, ?_⟩) ?_ ?_ ?_
    rotate_left
    ·intro w'
     go_simp
     with_reducible rfl
    rotate_left
    ·simp only [Act.put, xA, xB, xC, i64_w, i32_w]
     rfl
    refine zu 3 (some 20) ?_ zA12 rfl rfl (Or.inl ⟨by rfl, ?_⟩) hHeld ?_ ?_ ?_
    rotate_left
    ·rintro w' ⟨s0, s1⟩
     go_simp
     with_reducible rfl
    rotate_left
    ·simp only [Act.put, xA, xB, xC, i64_w, i32_w]
     rfl
    refine zu 7 (some 24) ?_ zA13 rfl rfl (Or.inl ⟨by rfl, ?_⟩) hHeld ?_ ?_ ?_
    rotate_left
    ·rintro w' ⟨s0, s1⟩
     go_simp
     with_reducible rfl
    rotate_left
    ·simp only [Act.put, xA, xB, xC, i64_w, i32_w]
     rfl
    refine one_ (i := 8) (N := some 25) zA14 rfl rfl (one_of HT_.out (by kernel_rfl)) (by decide) (fun K hK => ?_)
    refine goes_ Try.func22 (by kernel_rfl) rfl #[.slice A531_0 (rd_L2 l0 x5_1).length c531_0, .slice A532_0 (rd_L2 l1 x5_1).length c532_0] (by rfl) rfl rfl zm ?_
    with_reducible refine (laws_eqCubeS.calls k1 _ _ (rd_L2 l0 x5_1) _ _ (rd_L2 l1 x5_1) false _ ?side1 ?side2 ?side3 ?side4 A7.out).mono ?_
    (case side1 => repeat (first | exact (Kd.C_below HR531_0.out HB.out) | (with_reducible refine Kd.C_alloc ?_ _) | (with_reducible refine Kd.C_drewN ?_ _) | (with_reducible refine Kd.C_drew ?_)))
    (case side2 => exact HC531_0.out)
    (case side3 => repeat (first | exact (Kd.C_below HR532_0.out HB.out) | (with_reducible refine Kd.C_alloc ?_ _) | (with_reducible refine Kd.C_drewN ?_ _) | (with_reducible refine Kd.C_drew ?_)))
    (case side4 => exact HC532_0.out)
    rintro e w12 ⟨rfl, hb⟩
    refine ⟨_, rfl, ?_⟩
    have n0_ := aM (below_step zb hb)
    clear HB
    have HB := n0_
    clear n0_
    (try clear hb)
    (try clear hb2)
    (try clear hk)
    (try clear hi)
    refine hK.out _ _ ⟨(zk HB.out hw531_0), (zk HB.out hw532_0)⟩ (fun hHeld => ?_)
    clear hK K
    refine norm_ (a' := ?_) ?_ ?_
    rotate_left
    ·show Act.put _ (some 25) _ = _
     simp only [Act.put, xA, xB, xC, i64_w, i32_w]
     rfl
    refine zp 9 (some 26) ?_ zA15 rfl rfl (Or.inl ⟨by rfl, ?_⟩) ?_ ?_ ?_
    rotate_left
    ·intro w'
     go_simp
     with_reducible rfl
    rotate_left
    ·simp only [Act.put, xA, xB, xC, i64_w, i32_w]
     rfl
    refine done_ (done_of HT_.out (by kernel_rfl)) ?_
    try go_wp2
    go_ret
    exact ⟨zw, zb⟩
   subst c8
   have H1 : (laws_eqCubeSS.l0 k1 l0 l1 (wrap64 (x5_1 + 1))) = some r := by rw [if_pos rfl] at H; exact H
   clear H
   have H := H1
   clear H1
   have H' := aM H
   clear H
   try go_wp2
   have n0_ := aM (below_drew1 HB.out)
   clear HB
   have HB := n0_
   clear n0_
   have p531 : 0 ≤ (x5_1 : Int) := of_decide_eq_true za
   have q531 : x5_1 < (l0.length : Int) := of_decide_eq_true za
   obtain ⟨ad531, A531_0, c531_0, e531, hx531_0, hl531_0, hi531_0⟩ := at_L2 HR0.out x5_1 p531 q531
   have hw531_0 := hx531_0
   cases e531
   replace hx531_0 := zk HB.out hx531_0
   have HR531_0 := aM hi531_0
   have HC531_0 := aM hl531_0
   clear hi531_0 hl531_0
   replace p531 := eq_true p531
   replace q531 := eq_true q531
   have p532 : 0 ≤ (x5_1 : Int) := of_decide_eq_true za
   have q532 : x5_1 < (l1.length : Int) := of_decide_eq_true za
   obtain ⟨ad532, A532_0, c532_0, e532, hx532_0, hl532_0, hi532_0⟩ := at_L2 HR1.out x5_1 p532 q532
   have hw532_0 := hx532_0
   cases e532
   replace hx532_0 := zk HB.out hx532_0
   have HR532_0 := aM hi532_0
   have HC532_0 := aM hl532_0
   clear hi532_0 hl532_0
   replace p532 := eq_true p532
   replace q532 := eq_true q532
   refine start_ (n := 10) (S := fun w' => w'.cell? (ad531.add (x5_1).toNat) = some (.slice A531_0 (rd_L2 l0 x5_1).length c531_0) ∧ w'.cell? (ad532.add (x5_1).toNat) = some (.slice A532_0 (rd_L2 l1 x5_1).length c532_0)) (ds := []) zA5 (by kernel_rfl) rfl rfl ⟨(zk HB.out hw531_0), (zk HB.out hw532_0)⟩ (fun hHeld => ?_); refine with_tabW laws_eqCubeSS.tab6 laws_eqCubeSS.bits6 (fun HT_ HW_ => ?_)
   generalize wr.drew = w9 at HB HR531_0 HR532_0 hx531_0 hx532_0 hHeld ⊢
   refine zp 0 (some 17) ?_ zA6 rfl rfl (Or.inl ⟨by rfl, ?_⟩) ?_ ?_ ?_
   rotate_left
   ·intro w'
    go_simp
    with_reducible rfl
   rotate_left
   ·simp only [Act.put, xA, xB, xC, i64_w, i32_w]
    rfl
   refine zp 1 (some 18) ?_ zA7 rfl rfl (Or.inl ⟨by rfl, ?_⟩) ?_ ?_ ?_
   rotate_left
   ·intro w'
    go_simp
    with_reducible rfl
   rotate_left
   ·simp only [Act.put, xA, xB, xC, i64_w, i32_w]
    rfl
   refine zp 2 (some 19) ?_ zA8 rfl rfl (Or.inl ⟨by rfl, ?_⟩) ?_ ?_ ?_
   rotate_left
   ·intro w'
    go_simp
    with_reducible rfl
   rotate_left
   ·simp only [Act.put, xA, xB, xC, i64_w, i32_w]
    rfl
   refine zp 4 (some 21) ?_ zA108 rfl rfl (Or.inl ⟨by rfl, ?_⟩) ?_ ?_ ?_
   rotate_left
   ·intro w'
    go_simp
    with_reducible rfl
   rotate_left
   ·simp only [Act.put, xA, xB, xC, i64_w, i32_w]
    rfl
   refine zp 5 (some 22) ?_ zA109 rfl rfl (Or.inl ⟨by rfl, ?_⟩) ?_ ?_ ?_
   rotate_left
   ·intro w'
    go_simp
    with_reducible rfl
   rotate_left
   ·simp only [Act.put, xA, xB, xC, i64_w, i32_w]
    rfl
   refine zp 6 (some 23) ?_ zA110 rfl rfl (Or.inl ⟨by rfl, ?_⟩) ?_ ?_ ?_
   rotate_left
   ·intro w'
    go_simp
    with_reducible rfl
   rotate_left
   ·simp only [Act.put, xA, xB, xC, i64_w, i32_w]
    rfl
   refine zu 3 (some 20) ?_ zA12 rfl rfl (Or.inl ⟨by rfl, ?_⟩) hHeld ?_ ?_ ?_
   rotate_left
   ·rintro w' ⟨s0, s1⟩
    go_simp
    with_reducible rfl
   rotate_left
   ·simp only [Act.put, xA, xB, xC, i64_w, i32_w]
    rfl
   refine zu 7 (some 24) ?_ zA13 rfl rfl (Or.inl ⟨by rfl, ?_⟩) hHeld ?_ ?_ ?_
   rotate_left
   ·rintro w' ⟨s0, s1⟩
    go_simp
    with_reducible rfl
   rotate_left
   ·simp only [Act.put, xA, xB, xC, i64_w, i32_w]
    rfl
   refine one_ (i := 8) (N := some 25) zA14 rfl rfl (one_of HT_.out (by kernel_rfl)) (by decide) (fun K hK => ?_)
   refine goes_ Try.func22 (by kernel_rfl) rfl #[.slice A531_0 (rd_L2 l0 x5_1).length c531_0, .slice A532_0 (rd_L2 l1 x5_1).length c532_0] (by rfl) rfl rfl zm ?_
   with_reducible refine (laws_eqCubeS.calls k1 _ _ (rd_L2 l0 x5_1) _ _ (rd_L2 l1 x5_1) true _ ?side1 ?side2 ?side3 ?side4 A7.out).mono ?_
   (case side1 => repeat (first | exact (Kd.C_below HR531_0.out HB.out) | (with_reducible refine Kd.C_alloc ?_ _) | (with_reducible refine Kd.C_drewN ?_ _) | (with_reducible refine Kd.C_drew ?_)))
   (case side2 => exact HC531_0.out)
   (case side3 => repeat (first | exact (Kd.C_below HR532_0.out HB.out) | (with_reducible refine Kd.C_alloc ?_ _) | (with_reducible refine Kd.C_drewN ?_ _) | (with_reducible refine Kd.C_drew ?_)))
   (case side4 => exact HC532_0.out)
   rintro e w10 ⟨rfl, hb⟩
   refine ⟨_, rfl, ?_⟩
   have n0_ := aM (below_step zb hb)
   clear HB
   have HB := n0_
   clear n0_
   (try clear hb)
   (try clear hb2)
   (try clear hk)
   (try clear hi)
   refine hK.out _ _ ⟨(zk HB.out hw531_0), (zk HB.out hw532_0)⟩ (fun hHeld => ?_)
   clear hK K
   refine norm_ (a' := ?_) ?_ ?_
   rotate_left
   ·show Act.put _ (some 25) _ = _
    simp only [Act.put, xA, xB, xC, i64_w, i32_w]
    rfl
   refine zp 9 (some 26) ?_ zA15 rfl rfl (Or.inl ⟨by rfl, ?_⟩) ?_ ?_ ?_
   rotate_left
   ·intro w'
    go_simp
    with_reducible rfl
   rotate_left
   ·simp only [Act.put, xA, xB, xC, i64_w, i32_w]
    rfl
   refine done_ (done_of HT_.out (by kernel_rfl)) ?_
   try go_wp2
   go_roundg k1
   case measure => have := HK1.out; omega
   case rel => exact ⟨(wrap64 (x5_1 + 1)), zr, H', ⟨by have := HK1.out; omega⟩, ⟨zb⟩⟩
def laws_markCubeS.l0 : Nat → List (S43) → Int → Int → Option (Int × (List (S43)))
 | 0, _, _, _ => none
 | k + 1, x0, x1, x5 => if x5 < (x0.length : Int) then (if 0 ≤ x5 then ((some (x0.set (x5 : Int).toNat (⟨x1, (rd_T43 x0 x5).f1, (rd_T43 x0 x5).f2⟩ : S43) : List (S43))).bind fun y534 => ((some (y534.set (x5 : Int).toNat (⟨(rd_T43 y534 x5).f0, wrap64 (x1 + 1), (rd_T43 y534 x5).f2⟩ : S43) : List (S43))).bind fun y535 => (laws_markCubeS.l0 k (y535.set (x5 : Int).toNat (⟨(rd_T43 y535 x5).f0, (rd_T43 y535 x5).f1, wrap64 ((wrap64 (x1 + 1)) + 1)⟩ : S43)) (wrap64 ((wrap64 ((wrap64 (x1 + 1)) + 1)) + 1)) (wrap64 (x5 + 1))))) else (none)) else (some (x1, x0))
def laws_markCubeS.f (k : Nat) (l0 : List (S43)) (a1 : Int) : Option (Int × (List (S43))) := laws_markCubeS.l0 k l0 a1 0
theorem laws_markCubeS.calls (k : Nat) (P0_ : Nat → Prop) (u9000_ : Value) (l0 : List (S43)) (a1 : Int) (r1 : Int) (r2 : List (S43)) (w0 w : World) (hB : Below w0.heap.size w0 w) (ho0 : Kd.R k43 43 w w0.heap.size P0_ u9000_ l0) (h : laws_markCubeS.f k l0 a1 = some (r1, r2)) :
  Calls Try.prog 23 #[u9000_, .int .i64 a1] w fun e w' => e = .returned (.int .i64 r1) ∧ Kd.R k43 43 w' w0.heap.size (fun k_ => (P0_ k_ ∨ w.heap.size ≤ k_)) u9000_ r2 ∧ Below w0.heap.size w0 w' ∧ Kept w w' (fun k_ => P0_ k_) := by
 have HO0 := aM (show Kd.R k43 43 w w0.heap.size (fun k_ => (P0_ k_ ∨ w.heap.size ≤ k_)) u9000_ l0 from Kd.R_mono ho0 (fun k_ hk => (.inl hk)))
 have HK := aM (Kept.refl w (fun k_ => P0_ k_))
 have HW0 := aM hB.size
 have HB := aM hB
 clear hB
 have H : (laws_markCubeS.l0 k l0 a1 0) = some (r1, r2) := h
 clear h
 have H' := aM H
 clear H
 go_enter Try.func23, Try.ntmps23
 go_wp2
 go_loopg [1, 5] k (fun kq v1 v5 w' => ∃ (x0_1 : List (S43)) (x1_1 : Int) (x5_1 : Int), v1 = .int .i64 x1_1 ∧ v5 = .int .i64 x5_1 ∧ Aside0 (laws_markCubeS.l0 kq x0_1 x1_1 x5_1 = some (r1, r2)) ∧ Aside0 (kq ≤ k) ∧ Aside0 (Kd.R k43 43 w' w0.heap.size (fun k_ => (P0_ k_ ∨ w.heap.size ≤ k_)) u9000_ x0_1) ∧ Aside0 (Kept w w' (fun k_ => P0_ k_)) ∧ Aside0 (Below w0.heap.size w0 w'))
 case atStart => exact ⟨(l0), (a1), (0), zr, zr, H', ⟨Nat.le_refl _⟩, ⟨mR_ HO0.out⟩, ⟨by repeat (first | (with_reducible first | exact HK.out | apply Kept.alloc | apply Kept.drewN | apply Kept.drew) | exact HK.out)⟩, ⟨zb⟩⟩
 case round =>
  clear H'
  try clear c2
  try clear p2
  obtain ⟨x0_1, x1_1, x5_1, rfl, rfl, HA, HK1, HO_0, HK, HB⟩ := hrel
  cases gk with
  | zero => exact absurd HA.out (by simp [laws_markCubeS.l0])
  | succ k1 =>
   have H := HA.out
   clear HA
   simp only [laws_markCubeS.l0] at H
   by_cases c3 : x5_1 < (x0_1.length : Int)
   rotate_left
   ·rw [if_neg c3] at H
    have c3b0 : decide (x5_1 < (x0_1.length : Int)) = false := decide_eq_false c3
    clear c3
    simp only [Option.some.injEq, Prod.mk.injEq] at H
    obtain ⟨rfl, rfl⟩ := H
    obtain ⟨Ao15, co15, eo15⟩ := Kd.R_slice HO_0.out
    subst eo15
    go_wp2
    go_ret
    exact ⟨zw, mR_ HO_0.out, zb, by repeat (first | (with_reducible first | exact HK.out | apply Kept.alloc | apply Kept.drewN | apply Kept.drew) | exact HK.out)⟩
   rw [if_pos c3] at H
   have c3b0 : decide (x5_1 < (x0_1.length : Int)) = true := decide_eq_true c3
   clear c3
   by_cases c4 : 0 ≤ x5_1
   rotate_left
   ·rw [if_neg c4] at H
    exact absurd H (by simp)
   rw [if_pos c4] at H
   have c4b0 : decide (0 ≤ x5_1) = true := decide_eq_true c4
   clear c4
   obtain ⟨y534, hy534⟩ : ∃ y_ : List (S43), y_ = (x0_1.set (x5_1 : Int).toNat (⟨x1_1, (rd_T43 x0_1 x5_1).f1, (rd_T43 x0_1 x5_1).f2⟩ : S43)) := ⟨_, rfl⟩
   replace H : ((some (y534.set (x5_1 : Int).toNat (⟨(rd_T43 y534 x5_1).f0, wrap64 (x1_1 + 1), (rd_T43 y534 x5_1).f2⟩ : S43) : List (S43))).bind fun y535 => (laws_markCubeS.l0 k1 (y535.set (x5_1 : Int).toNat (⟨(rd_T43 y535 x5_1).f0, (rd_T43 y535 x5_1).f1, wrap64 ((wrap64 (x1_1 + 1)) + 1)⟩ : S43)) (wrap64 ((wrap64 ((wrap64 (x1_1 + 1)) + 1)) + 1)) (wrap64 (x5_1 + 1)))) = some (r1, r2) := zy H hy534
   have Ny534 := aM hy534
   clear hy534
   obtain ⟨y535, hy535⟩ : ∃ y_ : List (S43), y_ = (y534.set (x5_1 : Int).toNat (⟨(rd_T43 y534 x5_1).f0, wrap64 (x1_1 + 1), (rd_T43 y534 x5_1).f2⟩ : S43)) := ⟨_, rfl⟩
   replace H : (laws_markCubeS.l0 k1 (y535.set (x5_1 : Int).toNat (⟨(rd_T43 y535 x5_1).f0, (rd_T43 y535 x5_1).f1, wrap64 ((wrap64 (x1_1 + 1)) + 1)⟩ : S43)) (wrap64 ((wrap64 ((wrap64 (x1_1 + 1)) + 1)) + 1)) (wrap64 (x5_1 + 1))) = some (r1, r2) := zy H hy535
   have Ny535 := aM hy535
   clear hy535
   obtain ⟨y536, hy536⟩ : ∃ y_ : List (S43), y_ = (y535.set (x5_1 : Int).toNat (⟨(rd_T43 y535 x5_1).f0, (rd_T43 y535 x5_1).f1, wrap64 ((wrap64 (x1_1 + 1)) + 1)⟩ : S43)) := ⟨_, rfl⟩
   replace H : (laws_markCubeS.l0 k1 y536 (wrap64 ((wrap64 ((wrap64 (x1_1 + 1)) + 1)) + 1)) (wrap64 (x5_1 + 1))) = some (r1, r2) := zy H hy536
   have Ny536 := aM hy536
   clear hy536
   have H' := aM H
   clear H
   obtain ⟨Ao8, co8, eo8⟩ := Kd.R_slice HO_0.out
   subst eo8
   have p5 : 0 ≤ (x5_1 : Int) := of_decide_eq_true za
   have q5 : (x5_1 : Int) < ((x0_1.length : Int) : Int) := of_decide_eq_true za
   obtain ⟨go5, co5, eo5, gb5, gl5, cl5, HG5⟩ := Kd.R_form HO_0.out (by omega)
   (first | cases eo5 | (injection eo5 with ea_ en_ ec_; (first | subst ea_ | (injection ea_ with ea_; subst ea_)); subst ec_; clear en_))
   have GB5 := aM gb5
   have GG5 := aM HG5
   clear gb5 gl5 HG5
   have HMgo5 := aM (show (P0_ go5 ∨ w.heap.size ≤ go5) from (HO_0.out.1 _ rfl))
   obtain ⟨ce5, hcl5, hM5, hcc5, hfr5⟩ := Kd.R_elem HO_0.out z43 (x5_1 : Int) p5 q5
   obtain rfl := k43_openM hM5
   have hx5_0 : wr.cell? ⟨go5, (x5_1 : Int).toNat * 3, none⟩ = some (.int .i64 ((rd_T43 x0_1 x5_1).f0)) := hcc5 0 _ rfl
   have hx5_1 : wr.cell? ⟨go5, (x5_1 : Int).toNat * 3 + 1, none⟩ = some (.int .i64 ((rd_T43 x0_1 x5_1).f1)) := hcc5 1 _ rfl
   have hx5_2 : wr.cell? ⟨go5, (x5_1 : Int).toNat * 3 + 2, none⟩ = some (.int .i64 ((rd_T43 x0_1 x5_1).f2)) := hcc5 2 _ rfl
   have hf5_0 : wr.frozen? ⟨go5, (x5_1 : Int).toNat * 3, none⟩ = false := hfr5 0
   have hf5_1 : wr.frozen? ⟨go5, (x5_1 : Int).toNat * 3 + 1, none⟩ = false := hfr5 1
   have hf5_2 : wr.frozen? ⟨go5, (x5_1 : Int).toNat * 3 + 2, none⟩ = false := hfr5 2
   clear hcl5 hcc5 hfr5 hM5
   replace p5 := eq_true p5
   replace q5 := eq_true q5
   have HX9 := aM (show Kd.R k43 43 wr w0.heap.size (fun k_ => (P0_ k_ ∨ w.heap.size ≤ k_)) (.slice (some ⟨go5, 0, none⟩) x0_1.length co8) x0_1 from (mR_ HO_0.out))
   obtain ⟨ce9, hcl9, hM9, hcc9, hfr9⟩ := Kd.R_elem HX9.out z43 (x5_1 : Int) (of_decide_eq_true za) (by have h_ : (x5_1 : Int) < ((x0_1.length : Int) : Int) := of_decide_eq_true za; first | exact h_ | (have e_ := (Kd.R_reads' HO_0.out).1; omega) | simpa using h_)
   obtain rfl := k43_openM hM9
   have HP9 := Kd.R_seg HX9.out (x5_1 : Int) (of_decide_eq_true za) (by have h_ : (x5_1 : Int) < ((x0_1.length : Int) : Int) := of_decide_eq_true za; first | exact h_ | (have e_ := (Kd.R_reads' HO_0.out).1; omega) | simpa using h_) (seg := [.int .i64 x1_1]) (j := 0) hcl9 hcc9 (show 1 ≤ 3 from by decide) (x' := (⟨x1_1, (rd_T43 x0_1 x5_1).f1, (rd_T43 x0_1 x5_1).f2⟩ : S43)) (k43_mkM _ _ _ (⟨x1_1, (rd_T43 x0_1 x5_1).f1, (rd_T43 x0_1 x5_1).f2⟩ : S43) ) (fun _ hk => hk)
   have hx9_0 := hcc9 0 _ rfl
   (try simp only [show (k43).sz = 3 from rfl, Nat.mul_one, Nat.add_zero] at hx9_0)
   have hf9_0 := hfr9 0
   (try simp only [show (k43).sz = 3 from rfl, Nat.mul_one, Nat.add_zero] at hf9_0)
   clear hcl9 hcc9 hfr9 hM9
   go_wp2_with (first | ((with_reducible refine gate_store (t := 2) (p := 16) rfl ?_); refine store_event (t := 2) (p := 16) (v := ?vo_w10) (w1 := (wr.setCell ⟨go5, (x5_1 : Int).toNat * 3, none⟩ (.int .i64 x1_1))) ?hg ?ho ?hn ?hr ?_; (case ho => rfl); (case hg => rfl); (case hn => rfl); (case hr => first | (go_simp; done) | (go_simp; rfl)); intro w10 hw; have hg : wr.grownBy w10 (some go5) := (by rw [hw]; exact HP9.2); have hp_ : Kd.R k43 43 w10 w0.heap.size (fun k_ => (P0_ k_ ∨ w.heap.size ≤ k_)) (.slice (some ⟨go5, 0, none⟩) x0_1.length co8) y534 := (by rw [hw, Ny534.out]; exact HP9.1); clear HP9; have n0_ := aM (hp_); have n1_ := aM ((by rw [hw]; exact below_set (HB.out) GB5.out : Below w0.heap.size w0 w10)); have n2_ := aM (Kept.of_grown (S := (fun k_ => P0_ k_)) hg (by repeat (first | (with_reducible first | exact HK.out | apply Kept.alloc | apply Kept.drewN | apply Kept.drew) | exact HK.out)) (fun k_ e_ => (HO_0.out.1 k_ e_))); clear HO_0 HB HK; have HO_0 := n0_; have HB := n1_; have HK := n2_; clear n0_ n1_ n2_ hg hw hp_; have p6 : 0 ≤ (x5_1 : Int) := of_decide_eq_true za; have q6 : (x5_1 : Int) < ((x0_1.length : Int) : Int) := of_decide_eq_true za; obtain ⟨ce6, hcl6, hM6, hcc6, hfr6⟩ := Kd.R_elem HO_0.out z43 (x5_1 : Int) p6 q6; obtain rfl := k43_openM hM6; have hx6_0 : w10.cell? ⟨go5, (x5_1 : Int).toNat * 3, none⟩ = some (.int .i64 ((rd_T43 y534 x5_1).f0)) := hcc6 0 _ rfl; have hx6_1 : w10.cell? ⟨go5, (x5_1 : Int).toNat * 3 + 1, none⟩ = some (.int .i64 ((rd_T43 y534 x5_1).f1)) := hcc6 1 _ rfl; have hx6_2 : w10.cell? ⟨go5, (x5_1 : Int).toNat * 3 + 2, none⟩ = some (.int .i64 ((rd_T43 y534 x5_1).f2)) := hcc6 2 _ rfl; have hf6_0 : w10.frozen? ⟨go5, (x5_1 : Int).toNat * 3, none⟩ = false := hfr6 0; have hf6_1 : w10.frozen? ⟨go5, (x5_1 : Int).toNat * 3 + 1, none⟩ = false := hfr6 1; have hf6_2 : w10.frozen? ⟨go5, (x5_1 : Int).toNat * 3 + 2, none⟩ = false := hfr6 2; clear hcl6 hcc6 hfr6 hM6; replace p6 := eq_true p6; replace q6 := eq_true q6; have HX11 := aM (show Kd.R k43 43 w10 w0.heap.size (fun k_ => (P0_ k_ ∨ w.heap.size ≤ k_)) (.slice (some ⟨go5, 0, none⟩) x0_1.length co8) y534 from (mR_ HO_0.out)); obtain ⟨ce11, hcl11, hM11, hcc11, hfr11⟩ := Kd.R_elem HX11.out z43 (x5_1 : Int) (of_decide_eq_true za) (by have h_ : (x5_1 : Int) < ((x0_1.length : Int) : Int) := of_decide_eq_true za; first | exact h_ | (have e_ := (Kd.R_reads' HO_0.out).1; omega) | simpa using h_); obtain rfl := k43_openM hM11; have HP11 := Kd.R_seg HX11.out (x5_1 : Int) (of_decide_eq_true za) (by have h_ : (x5_1 : Int) < ((x0_1.length : Int) : Int) := of_decide_eq_true za; first | exact h_ | (have e_ := (Kd.R_reads' HO_0.out).1; omega) | simpa using h_) (seg := [.int .i64 (wrap64 (x1_1 + 1))]) (j := 1) hcl11 hcc11 (show 2 ≤ 3 from by decide) (x' := (⟨(rd_T43 y534 x5_1).f0, wrap64 (x1_1 + 1), (rd_T43 y534 x5_1).f2⟩ : S43)) (k43_mkM _ _ _ (⟨(rd_T43 y534 x5_1).f0, wrap64 (x1_1 + 1), (rd_T43 y534 x5_1).f2⟩ : S43) ) (fun _ hk => hk); have hx11_1 := hcc11 1 _ rfl; (try simp only [show (k43).sz = 3 from rfl, Nat.mul_one, Nat.add_zero] at hx11_1); have hf11_1 := hfr11 1; (try simp only [show (k43).sz = 3 from rfl, Nat.mul_one, Nat.add_zero] at hf11_1); clear hcl11 hcc11 hfr11 hM11) | ((with_reducible refine gate_store (t := 2) (p := 23) rfl ?_); refine store_event (t := 2) (p := 23) (v := ?vo_w12) (w1 := (w10.setCell ⟨go5, (x5_1 : Int).toNat * 3 + 1, none⟩ (.int .i64 (wrap64 (x1_1 + 1))))) ?hg ?ho ?hn ?hr ?_; (case ho => rfl); (case hg => rfl); (case hn => rfl); (case hr => first | (go_simp; done) | (go_simp; rfl)); intro w12 hw; have hg : w10.grownBy w12 (some go5) := (by rw [hw]; exact HP11.2); have hp_ : Kd.R k43 43 w12 w0.heap.size (fun k_ => (P0_ k_ ∨ w.heap.size ≤ k_)) (.slice (some ⟨go5, 0, none⟩) x0_1.length co8) y535 := (by rw [hw, Ny535.out]; exact HP11.1); clear HP11; have n0_ := aM (hp_); have n1_ := aM ((by rw [hw]; exact below_set (HB.out) GB5.out : Below w0.heap.size w0 w12)); have n2_ := aM (Kept.of_grown (S := (fun k_ => P0_ k_)) hg (by repeat (first | (with_reducible first | exact HK.out | apply Kept.alloc | apply Kept.drewN | apply Kept.drew) | exact HK.out)) (fun k_ e_ => (HO_0.out.1 k_ e_))); clear HO_0 HB HK; have HO_0 := n0_; have HB := n1_; have HK := n2_; clear n0_ n1_ n2_ hg hw hp_; have p7 : 0 ≤ (x5_1 : Int) := of_decide_eq_true za; have q7 : (x5_1 : Int) < ((x0_1.length : Int) : Int) := of_decide_eq_true za; obtain ⟨ce7, hcl7, hM7, hcc7, hfr7⟩ := Kd.R_elem HO_0.out z43 (x5_1 : Int) p7 q7; obtain rfl := k43_openM hM7; have hx7_0 : w12.cell? ⟨go5, (x5_1 : Int).toNat * 3, none⟩ = some (.int .i64 ((rd_T43 y535 x5_1).f0)) := hcc7 0 _ rfl; have hx7_1 : w12.cell? ⟨go5, (x5_1 : Int).toNat * 3 + 1, none⟩ = some (.int .i64 ((rd_T43 y535 x5_1).f1)) := hcc7 1 _ rfl; have hx7_2 : w12.cell? ⟨go5, (x5_1 : Int).toNat * 3 + 2, none⟩ = some (.int .i64 ((rd_T43 y535 x5_1).f2)) := hcc7 2 _ rfl; have hf7_0 : w12.frozen? ⟨go5, (x5_1 : Int).toNat * 3, none⟩ = false := hfr7 0; have hf7_1 : w12.frozen? ⟨go5, (x5_1 : Int).toNat * 3 + 1, none⟩ = false := hfr7 1; have hf7_2 : w12.frozen? ⟨go5, (x5_1 : Int).toNat * 3 + 2, none⟩ = false := hfr7 2; clear hcl7 hcc7 hfr7 hM7; replace p7 := eq_true p7; replace q7 := eq_true q7; have HX13 := aM (show Kd.R k43 43 w12 w0.heap.size (fun k_ => (P0_ k_ ∨ w.heap.size ≤ k_)) (.slice (some ⟨go5, 0, none⟩) x0_1.length co8) y535 from (mR_ HO_0.out)); obtain ⟨ce13, hcl13, hM13, hcc13, hfr13⟩ := Kd.R_elem HX13.out z43 (x5_1 : Int) (of_decide_eq_true za) (by have h_ : (x5_1 : Int) < ((x0_1.length : Int) : Int) := of_decide_eq_true za; first | exact h_ | (have e_ := (Kd.R_reads' HO_0.out).1; omega) | simpa using h_); obtain rfl := k43_openM hM13; have HP13 := Kd.R_seg HX13.out (x5_1 : Int) (of_decide_eq_true za) (by have h_ : (x5_1 : Int) < ((x0_1.length : Int) : Int) := of_decide_eq_true za; first | exact h_ | (have e_ := (Kd.R_reads' HO_0.out).1; omega) | simpa using h_) (seg := [.int .i64 (wrap64 ((wrap64 (x1_1 + 1)) + 1))]) (j := 2) hcl13 hcc13 (show 3 ≤ 3 from by decide) (x' := (⟨(rd_T43 y535 x5_1).f0, (rd_T43 y535 x5_1).f1, wrap64 ((wrap64 (x1_1 + 1)) + 1)⟩ : S43)) (k43_mkM _ _ _ (⟨(rd_T43 y535 x5_1).f0, (rd_T43 y535 x5_1).f1, wrap64 ((wrap64 (x1_1 + 1)) + 1)⟩ : S43) ) (fun _ hk => hk); have hx13_2 := hcc13 2 _ rfl; (try simp only [show (k43).sz = 3 from rfl, Nat.mul_one, Nat.add_zero] at hx13_2); have hf13_2 := hfr13 2; (try simp only [show (k43).sz = 3 from rfl, Nat.mul_one, Nat.add_zero] at hf13_2); clear hcl13 hcc13 hfr13 hM13) | ((with_reducible refine gate_store (t := 2) (p := 30) rfl ?_); refine store_event (t := 2) (p := 30) (v := ?vo_w14) (w1 := (w12.setCell ⟨go5, (x5_1 : Int).toNat * 3 + 2, none⟩ (.int .i64 (wrap64 ((wrap64 (x1_1 + 1)) + 1))))) ?hg ?ho ?hn ?hr ?_; (case ho => rfl); (case hg => rfl); (case hn => rfl); (case hr => first | (go_simp; done) | (go_simp; rfl)); intro w14 hw; have hg : w12.grownBy w14 (some go5) := (by rw [hw]; exact HP13.2); have hp_ : Kd.R k43 43 w14 w0.heap.size (fun k_ => (P0_ k_ ∨ w.heap.size ≤ k_)) (.slice (some ⟨go5, 0, none⟩) x0_1.length co8) y536 := (by rw [hw, Ny536.out]; exact HP13.1); clear HP13; have n0_ := aM (hp_); have n1_ := aM ((by rw [hw]; exact below_set (HB.out) GB5.out : Below w0.heap.size w0 w14)); have n2_ := aM (Kept.of_grown (S := (fun k_ => P0_ k_)) hg (by repeat (first | (with_reducible first | exact HK.out | apply Kept.alloc | apply Kept.drewN | apply Kept.drew) | exact HK.out)) (fun k_ e_ => (HO_0.out.1 k_ e_))); clear HO_0 HB HK; have HO_0 := n0_; have HB := n1_; have HK := n2_; clear n0_ n1_ n2_; clear hg hw hp_))
   go_roundg k1
   case measure => have := HK1.out; omega
   case rel => exact ⟨(y536), (wrap64 ((wrap64 ((wrap64 (x1_1 + 1)) + 1)) + 1)), (wrap64 (x5_1 + 1)), zr, zr, H', ⟨by have := HK1.out; omega⟩, ⟨mR_ HO_0.out⟩, ⟨by repeat (first | (with_reducible first | exact HK.out | apply Kept.alloc | apply Kept.drewN | apply Kept.drew) | exact HK.out)⟩, ⟨zb⟩⟩
theorem V_part0_ {α : Type} {d : Kd α} {e base : Nat} {W w1 : World} {u v : Value} {xs ys : List α} {ok ok2 : Nat → Prop} (h4 : Kd.V d e W base ok v xs) (h7 : Kd.S d e w1 W.heap.size ok2 u ys) (hb : Below W.heap.size W w1) (hB : base ≤ W.heap.size) :
    ∃ N : Nat, Kd.V d e w1 base (fun k => k < N) v xs ∧ Kd.S d e w1 base (fun k => N ≤ k) u ys :=
  ⟨W.heap.size, Kd.V_mono (Kd.V_old h4 hb) (fun _ hk => hk.2), Kd.S_lower (Kd.S_mono (Kd.S_bound h7) (fun _ hk => hk.2.1)) hB⟩
def laws_markCubeSS.l0 : Nat → List (List S43) → Int → Int → Option (Int × List (List S43))
 | 0, _, _, _ => none
 | k + 1, x0, x1, x5 => if x5 < (x0.length : Int) then (if 0 ≤ x5 then ((laws_markCubeS.f k (x0.getD x5.toNat []) x1).bind fun bt => (laws_markCubeSS.l0 k (x0.set x5.toNat bt.2) bt.1 (wrap64 (x5 + 1)))) else (none)) else (some (x1, x0))
def laws_markCubeSS.f (k : Nat) (l0 : List (List S43)) (a1 : Int) : Option (Int × List (List S43)) := laws_markCubeSS.l0 k l0 a1 0
set_option maxHeartbeats 4000000 in
theorem laws_markCubeSS.calls (k : Nat) (P0_ : Nat → Prop) (u9000_ : Value) (l0 : List (List S43)) (a1 : Int) (r1 : Int) (r2 : List (List S43)) (w0 w : World) (hB : Below w0.heap.size w0 w) (ho0 : Kd.S (Kd.slice 43 k43) 40 w w0.heap.size P0_ u9000_ l0) (h : laws_markCubeSS.f k l0 a1 = some (r1, r2)) :
    Calls Try.prog 13 #[u9000_, .int .i64 a1] w fun e w' => e = .returned (.int .i64 r1) ∧ Kd.S (Kd.slice 43 k43) 40 w' w0.heap.size (fun k_ => (P0_ k_ ∨ w.heap.size ≤ k_)) u9000_ r2 ∧ Below w0.heap.size w0 w' ∧ Kept w w' (fun k_ => P0_ k_) := by
  have HO0 := aM (show Kd.S (Kd.slice 43 k43) 40 w w0.heap.size (fun k_ => (P0_ k_ ∨ w.heap.size ≤ k_)) u9000_ l0 from Kd.S_mono ho0 (fun k_ hk => (.inl hk)))
  have HK := aM (Kept.refl w (fun k_ => P0_ k_))
  have HB := aM hB
  have H' := aM (show laws_markCubeSS.l0 k l0 a1 0 = some (r1, r2) from h)
  clear h ho0 hB
  go_enter Try.func13, Try.ntmps13
  go_wp2
  go_loopg [1, 5] k (fun kq v1 v5 w' => ∃ (x0_1 : List (List S43)) (x1_1 : Int) (x5_1 : Int), v1 = .int .i64 x1_1 ∧ v5 = .int .i64 x5_1 ∧ Aside0 (laws_markCubeSS.l0 kq x0_1 x1_1 x5_1 = some (r1, r2)) ∧ Aside0 (kq ≤ k) ∧ Aside0 (Kd.S (Kd.slice 43 k43) 40 w' w0.heap.size (fun k_ => (P0_ k_ ∨ w.heap.size ≤ k_)) u9000_ x0_1) ∧ Aside0 (Kept w w' (fun k_ => P0_ k_)) ∧ Aside0 (Below w0.heap.size w0 w'))
  case atStart => exact ⟨(l0), (a1), (0), rfl, rfl, H', ⟨Nat.le_refl _⟩, ⟨mS_ HO0.out⟩, ⟨by repeat (first | (with_reducible first | exact HK.out | apply Kept.alloc | apply Kept.drewN | apply Kept.drew) | exact HK.out)⟩, ⟨zb⟩⟩
  case round =>
    clear H'
    obtain ⟨x0_1, x1_1, x5_1, rfl, rfl, HA, HK1, HO_0, HK, HB⟩ := hrel
    cases gk with
    | zero => exact absurd HA.out (by simp [laws_markCubeSS.l0])
    | succ k1 =>
      have H := HA.out
      clear HA
      simp only [laws_markCubeSS.l0] at H
      by_cases c3 : x5_1 < (x0_1.length : Int)
      · rw [if_pos c3] at H
        have c3b0 : decide (x5_1 < (x0_1.length : Int)) = true := decide_eq_true c3
        by_cases c4 : 0 ≤ x5_1
        · rw [if_pos c4] at H
          have c4b0 : decide (0 ≤ x5_1) = true := decide_eq_true c4
          replace H := Option.bind_eq_some_iff.mp H
          obtain ⟨⟨t1, t2⟩, A50, H⟩ := H
          have A5 := aM A50
          have H' := aM H
          clear A50 H
          obtain ⟨go5, co5, eo5, gb5, gl5, _⟩ := Kd.S_form HO_0.out (by omega)
          subst eo5
          obtain ⟨oki, cc, hcl, hM, hcc, hoki, hH⟩ := Kd.S_lend HO_0.out [] x5_1 c4 c3
          obtain ⟨v5, rfl, hv⟩ := hM
          have hx : wr.cell? ⟨go5, x5_1.toNat, none⟩ = some v5 := by
            have := hcc 0 v5 rfl
            rw [show (Kd.slice 43 k43).sz = 1 from rfl, Nat.mul_one, Nat.add_zero] at this
            exact this
          have hx2 : wr.cell? ((⟨go5, 0, none⟩ : Addr).add x5_1.toNat) = some v5 := by rw [add_plain]; exact hx
          have HV := aM hv
          have HH := aM hH
          have HOK := aM hoki
          clear hcl hcc hoki hH hv
          replace c3 := eq_true c3
          replace c4 := eq_true c4
          go_wp2_with fail
          refine (laws_markCubeS.calls k1 oki v5 _ x1_1 t1 t2 w0 wr HB.out HV.out A5.out).mono ?_
          rintro e w1 ⟨rfl, hR, hb, hkp⟩
          have n0_ := aM (Kd.H_back (Kd.H_kept (Kd.H_widen HH.out) hkp (fun k_ _ hn hk => hn (.inl hk))) (okp := fun k_ => oki k_ ∨ wr.heap.size ≤ k_) ⟨_, rfl, hR⟩ (fun k_ hk => hk.elim .inl (fun hk => .inr ⟨.inr (Nat.le_trans HK.out.1 hk), hk⟩)))
          have n1_ := aM (HK.out.then_ hkp (fun k_ hk => (HOK.out k_ hk).1))
          have n2_ := aM hb
          clear HO_0 HK HB HV HH HOK hR hb hkp
          have HO_0 := n0_
          have HK := n1_
          have HB := n2_
          clear n0_ n1_ n2_
          go_wp2
          go_roundg k1
          case measure => have := HK1.out; omega
          case rel => exact ⟨_, _, _, rfl, rfl, H', ⟨by have := HK1.out; omega⟩, ⟨mS_ HO_0.out⟩, ⟨by repeat (first | (with_reducible first | exact HK.out | apply Kept.alloc | apply Kept.drewN | apply Kept.drew) | exact HK.out)⟩, ⟨zb⟩⟩
        · rw [if_neg c4] at H
          cases H
      · rw [if_neg c3] at H
        have c3b0 : decide (x5_1 < (x0_1.length : Int)) = false := decide_eq_false c3
        obtain ⟨Ao7, co7, rfl⟩ := Kd.S_slice HO_0.out
        injection H with H
        injection H with H1 H2
        subst H1 H2
        go_wp2
        go_ret
        exact ⟨rfl, mS_ HO_0.out, zb, by repeat (first | (with_reducible first | exact HK.out | apply Kept.alloc | apply Kept.drewN | apply Kept.drew) | exact HK.out)⟩
def laws_heldCubeS.l0 : Nat → List (S43) → Int → Int → Option (Int)
 | 0, _, _, _ => none
 | k + 1, x0, x1, x5 => if x5 < (x0.length : Int) then (if 0 ≤ x5 then (if ((rd_T43 x0 x5).f0) = x1 then (if ((rd_T43 x0 x5).f1) = (wrap64 (x1 + 1)) then (if ((rd_T43 x0 x5).f2) = (wrap64 ((wrap64 (x1 + 1)) + 1)) then (laws_heldCubeS.l0 k x0 (wrap64 ((wrap64 ((wrap64 (x1 + 1)) + 1)) + 1)) (wrap64 (x5 + 1))) else (some (-1))) else (some (-1))) else (some (-1))) else (none)) else (some x1)
def laws_heldCubeS.f (k : Nat) (l0 : List (S43)) (a1 : Int) : Option (Int) := laws_heldCubeS.l0 k l0 a1 0
theorem laws_heldCubeS.calls (k : Nat) (A0 : Option Addr) (c0 : Nat) (l0 : List (S43)) (a1 : Int) (r : Int) (w : World) (hr0 : Kd.C k43 w A0 l0.length l0) (hc0 : l0.length ≤ c0) (h : laws_heldCubeS.f k l0 a1 = some r) :
  Calls Try.prog 24 #[.slice A0 l0.length c0, .int .i64 a1] w fun e w' => e = .returned (.int .i64 r) ∧ Drawn0 w w' := by
 have HR0 := aM hr0
 have HC0 := aM hc0
 clear hr0 hc0
 have H : (laws_heldCubeS.l0 k l0 a1 0) = some r := h
 clear h
 have H' := aM H
 clear H
 go_enter Try.func24, Try.ntmps24
 go_wp2
 go_loopg [1, 5] k (fun kq v1 v5 w' => ∃ (x1_1 : Int) (x5_1 : Int), v1 = .int .i64 x1_1 ∧ v5 = .int .i64 x5_1 ∧ Aside0 (laws_heldCubeS.l0 kq l0 x1_1 x5_1 = some r) ∧ Aside0 (kq ≤ k) ∧ Drawn0 w w')
 case atStart => exact ⟨(a1), (0), zr, zr, H', ⟨Nat.le_refl _⟩, by repeat (first | exact Drawn0.refl _ | apply Drawn0.step)⟩
 case round =>
  clear H'
  try clear c2
  try clear p2
  obtain ⟨x1_1, x5_1, rfl, rfl, HA, HK1, ⟨m1, rfl⟩⟩ := hrel
  cases gk with
  | zero => exact absurd HA.out (by simp [laws_heldCubeS.l0])
  | succ k1 =>
   have H := HA.out
   clear HA
   simp only [laws_heldCubeS.l0] at H
   by_cases c3 : x5_1 < (l0.length : Int)
   rotate_left
   ·rw [if_neg c3] at H
    have c3b0 : decide (x5_1 < (l0.length : Int)) = false := decide_eq_false c3
    clear c3
    obtain rfl := Option.some.inj H
    go_wp2
    go_ret
    exact ⟨by first | rfl | (simp; done) | (simp [*]; done), by repeat (first | exact Drawn0.refl _ | apply Drawn0.step)⟩
   rw [if_pos c3] at H
   have c3b0 : decide (x5_1 < (l0.length : Int)) = true := decide_eq_true c3
   clear c3
   by_cases c4 : 0 ≤ x5_1
   rotate_left
   ·rw [if_neg c4] at H
    exact absurd H (by simp)
   rw [if_pos c4] at H
   have c4b0 : decide (0 ≤ x5_1) = true := decide_eq_true c4
   clear c4
   by_cases c5 : ((rd_T43 l0 x5_1).f0) = x1_1
   rotate_left
   ·rw [if_neg c5] at H
    have c5b0 : (((rd_T43 l0 x5_1).f0) == x1_1) = false := beq_eq_false_iff_ne.mpr c5
    have c5b1 : (((rd_T43 l0 x5_1).f0) != x1_1) = true := bne_iff_ne.mpr c5
    obtain rfl := Option.some.inj H
    have p537 : 0 ≤ (x5_1 : Int) := of_decide_eq_true za
    have q537 : x5_1 < (l0.length : Int) := of_decide_eq_true za
    obtain ⟨ad537, e537, hx537_0, hx537_1, hx537_2⟩ := at_T43 HR0.out x5_1 p537 q537
    cases e537
    replace p537 := eq_true p537
    replace q537 := eq_true q537
    go_wp2
    go_ret
    exact ⟨by first | rfl | (simp; done) | (simp [*]; done), by repeat (first | exact Drawn0.refl _ | apply Drawn0.step)⟩
   rw [if_pos c5] at H
   have c5b0 : (((rd_T43 l0 x5_1).f0) == x1_1) = true := beq_iff_eq.mpr c5
   have c5b1 : (((rd_T43 l0 x5_1).f0) != x1_1) = false := bne_eq_false_iff_eq.mpr c5
   clear c5
   by_cases c6 : ((rd_T43 l0 x5_1).f1) = (wrap64 (x1_1 + 1))
   rotate_left
   ·rw [if_neg c6] at H
    have c6b0 : (((rd_T43 l0 x5_1).f1) == (wrap64 (x1_1 + 1))) = false := beq_eq_false_iff_ne.mpr c6
    have c6b1 : (((rd_T43 l0 x5_1).f1) != (wrap64 (x1_1 + 1))) = true := bne_iff_ne.mpr c6
    obtain rfl := Option.some.inj H
    have p537 : 0 ≤ (x5_1 : Int) := of_decide_eq_true za
    have q537 : x5_1 < (l0.length : Int) := of_decide_eq_true za
    obtain ⟨ad537, e537, hx537_0, hx537_1, hx537_2⟩ := at_T43 HR0.out x5_1 p537 q537
    cases e537
    replace p537 := eq_true p537
    replace q537 := eq_true q537
    have p538 : 0 ≤ (x5_1 : Int) := of_decide_eq_true za
    have q538 : x5_1 < (l0.length : Int) := of_decide_eq_true za
    obtain ⟨ad538, e538, hx538_0, hx538_1, hx538_2⟩ := at_T43 HR0.out x5_1 p538 q538
    obtain rfl : ad537 = ad538 := (by injection e538)
    replace p538 := eq_true p538
    replace q538 := eq_true q538
    go_wp2
    go_ret
    exact ⟨by first | rfl | (simp; done) | (simp [*]; done), by repeat (first | exact Drawn0.refl _ | apply Drawn0.step)⟩
   rw [if_pos c6] at H
   have c6b0 : (((rd_T43 l0 x5_1).f1) == (wrap64 (x1_1 + 1))) = true := beq_iff_eq.mpr c6
   have c6b1 : (((rd_T43 l0 x5_1).f1) != (wrap64 (x1_1 + 1))) = false := bne_eq_false_iff_eq.mpr c6
   clear c6
   by_cases c7 : ((rd_T43 l0 x5_1).f2) = (wrap64 ((wrap64 (x1_1 + 1)) + 1))
   rotate_left
   ·rw [if_neg c7] at H
    have c7b0 : (((rd_T43 l0 x5_1).f2) == (wrap64 ((wrap64 (x1_1 + 1)) + 1))) = false := beq_eq_false_iff_ne.mpr c7
    have c7b1 : (((rd_T43 l0 x5_1).f2) != (wrap64 ((wrap64 (x1_1 + 1)) + 1))) = true := bne_iff_ne.mpr c7
    obtain rfl := Option.some.inj H
    have p537 : 0 ≤ (x5_1 : Int) := of_decide_eq_true za
    have q537 : x5_1 < (l0.length : Int) := of_decide_eq_true za
    obtain ⟨ad537, e537, hx537_0, hx537_1, hx537_2⟩ := at_T43 HR0.out x5_1 p537 q537
    cases e537
    replace p537 := eq_true p537
    replace q537 := eq_true q537
    have p538 : 0 ≤ (x5_1 : Int) := of_decide_eq_true za
    have q538 : x5_1 < (l0.length : Int) := of_decide_eq_true za
    obtain ⟨ad538, e538, hx538_0, hx538_1, hx538_2⟩ := at_T43 HR0.out x5_1 p538 q538
    obtain rfl : ad537 = ad538 := (by injection e538)
    replace p538 := eq_true p538
    replace q538 := eq_true q538
    have p539 : 0 ≤ (x5_1 : Int) := of_decide_eq_true za
    have q539 : x5_1 < (l0.length : Int) := of_decide_eq_true za
    obtain ⟨ad539, e539, hx539_0, hx539_1, hx539_2⟩ := at_T43 HR0.out x5_1 p539 q539
    obtain rfl : ad537 = ad539 := (by injection e539)
    replace p539 := eq_true p539
    replace q539 := eq_true q539
    go_wp2
    go_ret
    exact ⟨by first | rfl | (simp; done) | (simp [*]; done), by repeat (first | exact Drawn0.refl _ | apply Drawn0.step)⟩
   rw [if_pos c7] at H
   have c7b0 : (((rd_T43 l0 x5_1).f2) == (wrap64 ((wrap64 (x1_1 + 1)) + 1))) = true := beq_iff_eq.mpr c7
   have c7b1 : (((rd_T43 l0 x5_1).f2) != (wrap64 ((wrap64 (x1_1 + 1)) + 1))) = false := bne_eq_false_iff_eq.mpr c7
   clear c7
   have H' := aM H
   clear H
   have p537 : 0 ≤ (x5_1 : Int) := of_decide_eq_true za
   have q537 : x5_1 < (l0.length : Int) := of_decide_eq_true za
   obtain ⟨ad537, e537, hx537_0, hx537_1, hx537_2⟩ := at_T43 HR0.out x5_1 p537 q537
   cases e537
   replace p537 := eq_true p537
   replace q537 := eq_true q537
   have p538 : 0 ≤ (x5_1 : Int) := of_decide_eq_true za
   have q538 : x5_1 < (l0.length : Int) := of_decide_eq_true za
   obtain ⟨ad538, e538, hx538_0, hx538_1, hx538_2⟩ := at_T43 HR0.out x5_1 p538 q538
   obtain rfl : ad537 = ad538 := (by injection e538)
   replace p538 := eq_true p538
   replace q538 := eq_true q538
   have p539 : 0 ≤ (x5_1 : Int) := of_decide_eq_true za
   have q539 : x5_1 < (l0.length : Int) := of_decide_eq_true za
   obtain ⟨ad539, e539, hx539_0, hx539_1, hx539_2⟩ := at_T43 HR0.out x5_1 p539 q539
   obtain rfl : ad537 = ad539 := (by injection e539)
   replace p539 := eq_true p539
   replace q539 := eq_true q539
   go_wp2
   go_roundg k1
   case measure => have := HK1.out; omega
   case rel => exact ⟨(wrap64 ((wrap64 ((wrap64 (x1_1 + 1)) + 1)) + 1)), (wrap64 (x5_1 + 1)), zr, zr, H', ⟨by have := HK1.out; omega⟩, by repeat (first | exact Drawn0.refl _ | apply Drawn0.step)⟩
def laws_heldCubeSS.l0 : Nat → List (List (S43)) → Int → Int → Option (Int)
 | 0, _, _, _ => none
 | k + 1, x0, x1, x5 => if x5 < (x0.length : Int) then (if 0 ≤ x5 then ((laws_heldCubeS.f k (rd_L2 x0 x5) x1).bind fun t541 => (if t541 < 0 then (some (-1)) else (laws_heldCubeSS.l0 k x0 t541 (wrap64 (x5 + 1))))) else (none)) else (some x1)
def laws_heldCubeSS.f (k : Nat) (l0 : List (List (S43))) (a1 : Int) : Option (Int) := laws_heldCubeSS.l0 k l0 a1 0
theorem laws_heldCubeSS.calls (k : Nat) (A0 : Option Addr) (c0 : Nat) (l0 : List (List (S43))) (a1 : Int) (r : Int) (w : World) (hr0 : Kd.C (Kd.slice 43 k43) w A0 l0.length l0) (hc0 : l0.length ≤ c0) (h : laws_heldCubeSS.f k l0 a1 = some r) :
  Calls Try.prog 14 #[.slice A0 l0.length c0, .int .i64 a1] w fun e w' => e = .returned (.int .i64 r) ∧ Drawn0 w w' := by
 have HR0 := aM hr0
 have HC0 := aM hc0
 clear hr0 hc0
 have H : (laws_heldCubeSS.l0 k l0 a1 0) = some r := h
 clear h
 have H' := aM H
 clear H
 go_enter Try.func14, Try.ntmps14
 go_wp2
 go_loopg [1, 5] k (fun kq v1 v5 w' => ∃ (x1_1 : Int) (x5_1 : Int), v1 = .int .i64 x1_1 ∧ v5 = .int .i64 x5_1 ∧ Aside0 (laws_heldCubeSS.l0 kq l0 x1_1 x5_1 = some r) ∧ Aside0 (kq ≤ k) ∧ Drawn0 w w')
 case atStart => exact ⟨(a1), (0), zr, zr, H', ⟨Nat.le_refl _⟩, by repeat (first | exact Drawn0.refl _ | apply Drawn0.step)⟩
 case round =>
  clear H'
  try clear c1
  try clear p2
  obtain ⟨x1_1, x5_1, rfl, rfl, HA, HK1, ⟨m1, rfl⟩⟩ := hrel
  cases gk with
  | zero => exact absurd HA.out (by simp [laws_heldCubeSS.l0])
  | succ k1 =>
   have H := HA.out
   clear HA
   simp only [laws_heldCubeSS.l0] at H
   by_cases c3 : x5_1 < (l0.length : Int)
   rotate_left
   ·rw [if_neg c3] at H
    have c3b0 : decide (x5_1 < (l0.length : Int)) = false := decide_eq_false c3
    clear c3
    obtain rfl := Option.some.inj H
    go_wp2
    go_ret
    exact ⟨by first | rfl | (simp; done) | (simp [*]; done), by repeat (first | exact Drawn0.refl _ | apply Drawn0.step)⟩
   rw [if_pos c3] at H
   have c3b0 : decide (x5_1 < (l0.length : Int)) = true := decide_eq_true c3
   clear c3
   by_cases c4 : 0 ≤ x5_1
   rotate_left
   ·rw [if_neg c4] at H
    exact absurd H (by simp)
   rw [if_pos c4] at H
   have c4b0 : decide (0 ≤ x5_1) = true := decide_eq_true c4
   clear c4
   replace H := Option.bind_eq_some_iff.mp H
   obtain ⟨t541, A50, H⟩ := H
   replace H : (if t541 < 0 then (some (-1)) else (laws_heldCubeSS.l0 k1 l0 t541 (wrap64 (x5_1 + 1)))) = some r := H
   have A5 := aM A50
   clear A50
   by_cases c6 : t541 < 0
   ·rw [if_pos c6] at H
    have c6b0 : decide (t541 < 0) = true := decide_eq_true c6
    clear c6
    obtain rfl := Option.some.inj H
    have p540 : 0 ≤ (x5_1 : Int) := of_decide_eq_true za
    have q540 : x5_1 < (l0.length : Int) := of_decide_eq_true za
    obtain ⟨ad540, A540_0, c540_0, e540, hx540_0, hl540_0, hi540_0⟩ := at_L2 HR0.out x5_1 p540 q540
    cases e540
    have HR540_0 := aM hi540_0
    have HC540_0 := aM hl540_0
    clear hi540_0 hl540_0
    replace p540 := eq_true p540
    replace q540 := eq_true q540
    go_wp2_with (first | ((with_reducible refine gate_callee (f := 24) rfl ?_); refine goesL_ (some 17) rfl rfl Try.func24 (by kernel_rfl) rfl #[.slice A540_0 (rd_L2 l0 x5_1).length c540_0, .int .i64 x1_1] rfl zm ?_; (with_reducible refine (laws_heldCubeS.calls k1 _ _ (rd_L2 l0 x5_1) x1_1 t541 _ ?side1 ?side2 A5.out).mono ?_); (case side1 => repeat (first | exact HR540_0.out | (with_reducible refine Kd.C_alloc ?_ _) | (with_reducible refine Kd.C_drewN ?_ _) | (with_reducible refine Kd.C_drew ?_))); (case side2 => exact HC540_0.out); rintro e w' ⟨rfl, ⟨nd, rfl⟩⟩; refine ⟨_, rfl, ?_⟩))
    go_ret
    exact ⟨by first | rfl | (simp; done) | (simp [*]; done), by repeat (first | exact Drawn0.refl _ | apply Drawn0.step)⟩
   rw [if_neg c6] at H
   have c6b0 : decide (t541 < 0) = false := decide_eq_false c6
   clear c6
   have H' := aM H
   clear H
   have p540 : 0 ≤ (x5_1 : Int) := of_decide_eq_true za
   have q540 : x5_1 < (l0.length : Int) := of_decide_eq_true za
   obtain ⟨ad540, A540_0, c540_0, e540, hx540_0, hl540_0, hi540_0⟩ := at_L2 HR0.out x5_1 p540 q540
   cases e540
   have HR540_0 := aM hi540_0
   have HC540_0 := aM hl540_0
   clear hi540_0 hl540_0
   replace p540 := eq_true p540
   replace q540 := eq_true q540
   go_wp2_with (first | ((with_reducible refine gate_callee (f := 24) rfl ?_); refine goesL_ (some 17) rfl rfl Try.func24 (by kernel_rfl) rfl #[.slice A540_0 (rd_L2 l0 x5_1).length c540_0, .int .i64 x1_1] rfl zm ?_; (with_reducible refine (laws_heldCubeS.calls k1 _ _ (rd_L2 l0 x5_1) x1_1 t541 _ ?side1 ?side2 A5.out).mono ?_); (case side1 => repeat (first | exact HR540_0.out | (with_reducible refine Kd.C_alloc ?_ _) | (with_reducible refine Kd.C_drewN ?_ _) | (with_reducible refine Kd.C_drew ?_))); (case side2 => exact HC540_0.out); rintro e w' ⟨rfl, ⟨nd, rfl⟩⟩; refine ⟨_, rfl, ?_⟩))
   go_roundg k1
   case measure => have := HK1.out; omega
   case rel => exact ⟨(t541), (wrap64 (x5_1 + 1)), zr, zr, H', ⟨by have := HK1.out; omega⟩, by repeat (first | exact Drawn0.refl _ | apply Drawn0.step)⟩
mutual
def laws_FnExactSolids.j0 : Nat → Int → Bool → List (List (S43)) → Int → List (List (S43)) → Bool → Option (Bool)
 | 0, _, _, _, _, _, _ => none
 | k + 1, x0, x1, x5, x6, x7, x33 => if x33 = true then (some false) else ((laws_markCubeSS.f k x7 1).bind fun bt551 => ((laws_heldCubeSS.f k bt551.2 1).bind fun t553 => (if t553 < 0 then (some false) else (if t553 = bt551.1 then ((impl_Solids.f k x0 x1).bind fun bt554 => ((laws_eqCubeSS.f k bt554.1 x5).bind fun t558 => (if t558 = true then (laws_FnExactSolids.j1 k bt551.2 bt551.1 (bt554.2 != x6)) else (laws_FnExactSolids.j1 k bt551.2 bt551.1 true)))) else (some false)))))
def laws_FnExactSolids.j1 : Nat → List (List (S43)) → Int → Bool → Option (Bool)
 | 0, _, _, _ => none
 | k + 1, x7, x9, x59 => if x59 = true then (some false) else ((laws_heldCubeSS.f k x7 1).bind fun t559 => (if t559 < 0 then (some false) else (if t559 = x9 then (some true) else (some false))))
end
def laws_FnExactSolids.f (k : Nat) (a0 : Int) (a1 : Bool) : Option (Bool) := (spec_Solids.f k a0 a1).bind fun bt542 => ((impl_Solids.f k a0 a1).bind fun bt546 => ((laws_eqCubeSS.f k bt546.1 bt542.1).bind fun t550 => (if t550 = true then (laws_FnExactSolids.j0 k a0 a1 bt542.1 bt542.2 bt546.1 (bt546.2 != bt542.2)) else (laws_FnExactSolids.j0 k a0 a1 bt542.1 bt542.2 bt546.1 true))))
theorem laws_FnExactSolids.calls (k : Nat) (a0 : Int) (a1 : Bool) (r : Bool) (w : World) (h : laws_FnExactSolids.f k a0 a1 = some r) :
  Calls Try.prog 5 #[.int .i64 a0, .bool a1] w fun e w' => e = .returned (.bool r) ∧ Below w.heap.size w w' := by
 have HB := aM (Below.refl w.heap.size w)
 have H : ((spec_Solids.f k a0 a1).bind fun bt542 => ((impl_Solids.f k a0 a1).bind fun bt546 => ((laws_eqCubeSS.f k bt546.1 bt542.1).bind fun t550 => (if t550 = true then (laws_FnExactSolids.j0 k a0 a1 bt542.1 bt542.2 bt546.1 (bt546.2 != bt542.2)) else (laws_FnExactSolids.j0 k a0 a1 bt542.1 bt542.2 bt546.1 true))))) = some r := h
 clear h
 replace H := Option.bind_eq_some_iff.mp H
 obtain ⟨⟨t542, t545⟩, A30, H⟩ := H
 replace H : ((impl_Solids.f k a0 a1).bind fun bt546 => ((laws_eqCubeSS.f k bt546.1 t542).bind fun t550 => (if t550 = true then (laws_FnExactSolids.j0 k a0 a1 t542 t545 bt546.1 (bt546.2 != t545)) else (laws_FnExactSolids.j0 k a0 a1 t542 t545 bt546.1 true)))) = some r := H
 have A3 := aM A30
 clear A30
 replace H := Option.bind_eq_some_iff.mp H
 obtain ⟨⟨t546, t547⟩, A40, H⟩ := H
 replace H : ((laws_eqCubeSS.f k t546 t542).bind fun t550 => (if t550 = true then (laws_FnExactSolids.j0 k a0 a1 t542 t545 t546 (t547 != t545)) else (laws_FnExactSolids.j0 k a0 a1 t542 t545 t546 true))) = some r := H
 have A4 := aM A40
 clear A40
 have HC5 := aM H
 clear H
 go_enter Try.func5, Try.ntmps5
 go_upto_region 3 with (first | ((with_reducible refine gate_callee (f := 11) rfl ?_); refine goesL_ (some 16) rfl rfl Try.func11 (by kernel_rfl) rfl #[.int .i64 a0, .bool a1] rfl zm ?_; (with_reducible refine (spec_Solids.calls k a0 a1 t542 t545 _ A3.out).mono ?_); rintro e w6 ⟨v543, rfl, ho0, hb⟩; refine ⟨_, rfl, ?_⟩; have n0_ := aM (Kd.V_lower (Kd.V_mono (ok' := fun k_ => True) ho0 (fun k_ hk_ => trivial)) (below_size zb)); have n1_ := aM (below_step zb hb); clear HB; have HO544 := n0_; have HB := n1_; clear n0_ n1_; (try clear hb); (try clear hb2); (try clear hk); (try clear hi); (try clear ho0)) | ((with_reducible refine gate_callee (f := 10) rfl ?_); refine goesL_ (some 22) rfl rfl Try.func10 (by kernel_rfl) rfl #[.int .i64 a0, .bool a1] rfl zm ?_; (with_reducible refine (impl_Solids.calls k a0 a1 t546 t547 _ A4.out).mono ?_); rintro e w7 ⟨v548, rfl, ho0, hb⟩; refine ⟨_, rfl, ?_⟩; obtain ⟨NZ_, nV_, nS_⟩ := V_part0_ (mV_ HO544.out) ho0 hb (below_size zb); have n0_ := aM nV_; have n1_ := aM nS_; have n2_ := aM (below_step zb hb); clear HO544 HB; have HO544 := n0_; have HO549 := n1_; have HB := n2_; clear n0_ n1_ n2_ nV_ nS_; (try clear hb); (try clear hb2); (try clear hk); (try clear hi); (try clear ho0)))
 (try simp only [Act.put, xA, xB, xC])
 go_cut [33] (fun v33 wc => ∃ (kq : Nat) (x33_4 : Bool), v33 = .bool x33_4 ∧ Aside0 (laws_FnExactSolids.j0 kq a0 a1 t542 t545 t546 x33_4 = some r) ∧ Aside0 (kq ≤ k) ∧ Aside0 (Kd.V (Kd.slice 43 k43) 40 wc w.heap.size (fun k_ => k_ < NZ_) v543 t542) ∧ Aside0 (Kd.S (Kd.slice 43 k43) 40 wc w.heap.size (fun k_ => NZ_ ≤ k_) v548 t546) ∧ Aside0 (Below w.heap.size w wc))
 case first =>
  have H := HC5.out
  clear HC5
  replace H := Option.bind_eq_some_iff.mp H
  obtain ⟨t550, A80, H⟩ := H
  replace H : (if t550 = true then (laws_FnExactSolids.j0 k a0 a1 t542 t545 t546 (t547 != t545)) else (laws_FnExactSolids.j0 k a0 a1 t542 t545 t546 true)) = some r := H
  have A8 := aM A80
  clear A80
  by_cases c9 : t550 = true
  ·subst c9
   have H1 : (laws_FnExactSolids.j0 k a0 a1 t542 t545 t546 (t547 != t545)) = some r := by rw [if_pos rfl] at H; exact H
   clear H
   have H := H1
   clear H1
   have H' := aM H
   clear H
   obtain ⟨Ao10, co10, eo10⟩ := Kd.S_slice HO549.out
   subst eo10
   obtain ⟨Ao11, co11, eo11⟩ := Kd.V_slice HO544.out
   subst eo11
   go_wp2_with (first | ((with_reducible refine gate_callee (f := 12) rfl ?_); refine goesL_ (some 27) rfl rfl Try.func12 (by kernel_rfl) rfl #[.slice Ao10 t546.length co10, .slice Ao11 t542.length co11] rfl zm ?_; (with_reducible refine (laws_eqCubeSS.calls k _ _ t546 _ _ t542 true _ ?side1 ?side2 ?side3 ?side4 A8.out).mono ?_); (case side1 => repeat (first | exact (Kd.S_reads' HO549.out).2.2 | (with_reducible refine Kd.C_alloc ?_ _) | (with_reducible refine Kd.C_drewN ?_ _) | (with_reducible refine Kd.C_drew ?_))); (case side2 => exact (Kd.S_reads' HO549.out).2.1); (case side3 => repeat (first | exact (Kd.V_reads' HO544.out).2.2 | (with_reducible refine Kd.C_alloc ?_ _) | (with_reducible refine Kd.C_drewN ?_ _) | (with_reducible refine Kd.C_drew ?_))); (case side4 => exact (Kd.V_reads' HO544.out).2.1); rintro e w12 ⟨rfl, hb⟩; refine ⟨_, rfl, ?_⟩; have n0_ := aM (Kd.V_below (mV_ HO544.out) hb); have n1_ := aM (Kd.S_below (mS_ HO549.out) hb); have n2_ := aM (below_step zb hb); clear HO544 HO549 HB; have HO544 := n0_; have HO549 := n1_; have HB := n2_; clear n0_ n1_ n2_; (try clear hb); (try clear hb2); (try clear hk); (try clear hi)))
   go_meet
   case rel => exact ⟨_, ((t547 != t545)), zr, H', ⟨by first | omega | exact Nat.le_refl _⟩, ⟨mV_ HO544.out⟩, ⟨mS_ HO549.out⟩, ⟨zb⟩⟩
  replace c9 := Bool.eq_false_iff.mpr c9
  subst c9
  have H1 : (laws_FnExactSolids.j0 k a0 a1 t542 t545 t546 true) = some r := by rw [if_neg (show ¬ (false = true) by decide)] at H; exact H
  clear H
  have H := H1
  clear H1
  have H' := aM H
  clear H
  obtain ⟨Ao13, co13, eo13⟩ := Kd.S_slice HO549.out
  subst eo13
  obtain ⟨Ao14, co14, eo14⟩ := Kd.V_slice HO544.out
  subst eo14
  go_wp2_with (first | ((with_reducible refine gate_callee (f := 12) rfl ?_); refine goesL_ (some 27) rfl rfl Try.func12 (by kernel_rfl) rfl #[.slice Ao13 t546.length co13, .slice Ao14 t542.length co14] rfl zm ?_; (with_reducible refine (laws_eqCubeSS.calls k _ _ t546 _ _ t542 false _ ?side1 ?side2 ?side3 ?side4 A8.out).mono ?_); (case side1 => repeat (first | exact (Kd.S_reads' HO549.out).2.2 | (with_reducible refine Kd.C_alloc ?_ _) | (with_reducible refine Kd.C_drewN ?_ _) | (with_reducible refine Kd.C_drew ?_))); (case side2 => exact (Kd.S_reads' HO549.out).2.1); (case side3 => repeat (first | exact (Kd.V_reads' HO544.out).2.2 | (with_reducible refine Kd.C_alloc ?_ _) | (with_reducible refine Kd.C_drewN ?_ _) | (with_reducible refine Kd.C_drew ?_))); (case side4 => exact (Kd.V_reads' HO544.out).2.1); rintro e w15 ⟨rfl, hb⟩; refine ⟨_, rfl, ?_⟩; have n0_ := aM (Kd.V_below (mV_ HO544.out) hb); have n1_ := aM (Kd.S_below (mS_ HO549.out) hb); have n2_ := aM (below_step zb hb); clear HO544 HO549 HB; have HO544 := n0_; have HO549 := n1_; have HB := n2_; clear n0_ n1_ n2_; (try clear hb); (try clear hb2); (try clear hk); (try clear hi)))
  go_meet
  case rel => exact ⟨_, (true), zr, H', ⟨by first | omega | exact Nat.le_refl _⟩, ⟨mV_ HO544.out⟩, ⟨mS_ HO549.out⟩, ⟨zb⟩⟩
 case rest =>
  clear HC5
  try clear c1
  try clear p2
  try clear c5
  try clear c9
  try clear c10
  try clear c11
  try clear c12
  obtain ⟨kq, x33_4, rfl, HA, HJ4, HO_5, HO_7, HB⟩ := hcut
  cases kq with
  | zero => exact absurd HA.out (by simp [laws_FnExactSolids.j0])
  | succ kj4 =>
   have H := HA.out
   clear HA
   simp only [laws_FnExactSolids.j0] at H
   by_cases c16 : x33_4 = true
   ·subst c16
    have H1 : (some false) = some r := by rw [if_pos rfl] at H; exact H
    clear H
    have H := H1
    clear H1
    obtain rfl := Option.some.inj H
    go_wp2
    go_ret
    exact ⟨zw, zb⟩
   replace c16 := Bool.eq_false_iff.mpr c16
   subst c16
   have H1 : ((laws_markCubeSS.f kj4 t546 1).bind fun bt551 => ((laws_heldCubeSS.f kj4 bt551.2 1).bind fun t553 => (if t553 < 0 then (some false) else (if t553 = bt551.1 then ((impl_Solids.f kj4 a0 a1).bind fun bt554 => ((laws_eqCubeSS.f kj4 bt554.1 t542).bind fun t558 => (if t558 = true then (laws_FnExactSolids.j1 kj4 bt551.2 bt551.1 (bt554.2 != t545)) else (laws_FnExactSolids.j1 kj4 bt551.2 bt551.1 true)))) else (some false))))) = some r := by rw [if_neg (show ¬ (false = true) by decide)] at H; exact H
   clear H
   have H := H1
   clear H1
   replace H := Option.bind_eq_some_iff.mp H
   obtain ⟨⟨t551, t552⟩, A170, H⟩ := H
   replace H : ((laws_heldCubeSS.f kj4 t552 1).bind fun t553 => (if t553 < 0 then (some false) else (if t553 = t551 then ((impl_Solids.f kj4 a0 a1).bind fun bt554 => ((laws_eqCubeSS.f kj4 bt554.1 t542).bind fun t558 => (if t558 = true then (laws_FnExactSolids.j1 kj4 t552 t551 (bt554.2 != t545)) else (laws_FnExactSolids.j1 kj4 t552 t551 true)))) else (some false)))) = some r := H
   have A17 := aM A170
   clear A170
   replace H := Option.bind_eq_some_iff.mp H
   obtain ⟨t553, A180, H⟩ := H
   replace H : (if t553 < 0 then (some false) else (if t553 = t551 then ((impl_Solids.f kj4 a0 a1).bind fun bt554 => ((laws_eqCubeSS.f kj4 bt554.1 t542).bind fun t558 => (if t558 = true then (laws_FnExactSolids.j1 kj4 t552 t551 (bt554.2 != t545)) else (laws_FnExactSolids.j1 kj4 t552 t551 true)))) else (some false))) = some r := H
   have A18 := aM A180
   clear A180
   by_cases c19 : t553 < 0
   ·rw [if_pos c19] at H
    have c19b0 : decide (t553 < 0) = true := decide_eq_true c19
    clear c19
    obtain rfl := Option.some.inj H
    obtain ⟨Ao20, co20, eo20⟩ := Kd.S_slice HO_7.out
    subst eo20
    go_wp2_with (first | ((with_reducible refine gate_callee (f := 13) rfl ?_); refine goesL_ (some 36) rfl rfl Try.func13 (by kernel_rfl) rfl #[.slice Ao20 t546.length co20, .int .i64 1] rfl zm ?_; (with_reducible refine (laws_markCubeSS.calls kj4 (fun k_ => NZ_ ≤ k_) (.slice Ao20 t546.length co20) t546 1 t551 t552 w _ ?side1 ?side2 A17.out).mono ?_); (case side1 => repeat (first | (with_reducible first | exact HB.out | apply below_alloc | apply pw_below_drewN | apply below_drew1) | exact HB.out)); (case side2 => exact HO_7.out); rintro e w21 ⟨rfl, hy0, hb, hkp⟩; refine ⟨_, rfl, ?_⟩; have n0_ := aM (Kd.V_mono (ok' := fun k_ => k_ < NZ_) (Kd.V_keptB (HO_5.out) hkp (fun k_ hk_ hs_ => Nat.not_le.2 hk_ hs_)) (fun k_ hk_ => hk_.1)); have n1_ := aM (hy0); have n2_ := aM (hb); clear HO_5 HO_7 HB; have HO_5 := n0_; have HO_7 := n1_; have HB := n2_; clear n0_ n1_ n2_; (try clear hb); (try clear hkp); (try clear hy0)) | ((with_reducible refine gate_callee (f := 14) rfl ?_); refine goesL_ (some 39) rfl rfl Try.func14 (by kernel_rfl) rfl #[.slice Ao20 t552.length co20, .int .i64 1] rfl (by (try simp only [mA, mB, mC]); first | done | (rw [show t552.length = t546.length from (Kd.S_reads' HO_7.out).1.symm] <;> rfl) | rfl | (simp only [lD, lT]; rfl)) ?_; (with_reducible refine (laws_heldCubeSS.calls kj4 _ _ t552 1 t553 _ ?side1 ?side2 A18.out).mono ?_); (case side1 => repeat (first | exact (Kd.S_reads' HO_7.out).2.2 | (with_reducible refine Kd.C_alloc ?_ _) | (with_reducible refine Kd.C_drewN ?_ _) | (with_reducible refine Kd.C_drew ?_))); (case side2 => rw [show t552.length = t546.length from (Kd.S_reads' HO_7.out).1.symm]; exact (Kd.S_reads' HO_7.out).2.1); rintro e w' ⟨rfl, ⟨nd, rfl⟩⟩; refine ⟨_, rfl, ?_⟩))
    go_ret
    exact ⟨zw, zb⟩
   rw [if_neg c19] at H
   have c19b0 : decide (t553 < 0) = false := decide_eq_false c19
   clear c19
   by_cases c22 : t553 = t551
   rotate_left
   ·rw [if_neg c22] at H
    have c22b0 : (t553 == t551) = false := beq_eq_false_iff_ne.mpr c22
    have c22b1 : (t553 != t551) = true := bne_iff_ne.mpr c22
    obtain rfl := Option.some.inj H
    obtain ⟨Ao40, co40, eo40⟩ := Kd.S_slice HO_7.out
    subst eo40
    go_wp2_with (first | ((with_reducible refine gate_callee (f := 13) rfl ?_); refine goesL_ (some 36) rfl rfl Try.func13 (by kernel_rfl) rfl #[.slice Ao40 t546.length co40, .int .i64 1] rfl zm ?_; (with_reducible refine (laws_markCubeSS.calls kj4 (fun k_ => NZ_ ≤ k_) (.slice Ao40 t546.length co40) t546 1 t551 t552 w _ ?side1 ?side2 A17.out).mono ?_); (case side1 => repeat (first | (with_reducible first | exact HB.out | apply below_alloc | apply pw_below_drewN | apply below_drew1) | exact HB.out)); (case side2 => exact HO_7.out); rintro e w41 ⟨rfl, hy0, hb, hkp⟩; refine ⟨_, rfl, ?_⟩; have n0_ := aM (Kd.V_mono (ok' := fun k_ => k_ < NZ_) (Kd.V_keptB (HO_5.out) hkp (fun k_ hk_ hs_ => Nat.not_le.2 hk_ hs_)) (fun k_ hk_ => hk_.1)); have n1_ := aM (hy0); have n2_ := aM (hb); clear HO_5 HO_7 HB; have HO_5 := n0_; have HO_7 := n1_; have HB := n2_; clear n0_ n1_ n2_; (try clear hb); (try clear hkp); (try clear hy0)) | ((with_reducible refine gate_callee (f := 14) rfl ?_); refine goesL_ (some 39) rfl rfl Try.func14 (by kernel_rfl) rfl #[.slice Ao40 t552.length co40, .int .i64 1] rfl (by (try simp only [mA, mB, mC]); first | done | (rw [show t552.length = t546.length from (Kd.S_reads' HO_7.out).1.symm] <;> rfl) | rfl | (simp only [lD, lT]; rfl)) ?_; (with_reducible refine (laws_heldCubeSS.calls kj4 _ _ t552 1 t553 _ ?side1 ?side2 A18.out).mono ?_); (case side1 => repeat (first | exact (Kd.S_reads' HO_7.out).2.2 | (with_reducible refine Kd.C_alloc ?_ _) | (with_reducible refine Kd.C_drewN ?_ _) | (with_reducible refine Kd.C_drew ?_))); (case side2 => rw [show t552.length = t546.length from (Kd.S_reads' HO_7.out).1.symm]; exact (Kd.S_reads' HO_7.out).2.1); rintro e w' ⟨rfl, ⟨nd, rfl⟩⟩; refine ⟨_, rfl, ?_⟩))
    go_ret
    exact ⟨zw, zb⟩
   rw [if_pos c22] at H
   have c22b0 : (t553 == t551) = true := beq_iff_eq.mpr c22
   have c22b1 : (t553 != t551) = false := bne_eq_false_iff_eq.mpr c22
   clear c22
   replace H := Option.bind_eq_some_iff.mp H
   obtain ⟨⟨t554, t555⟩, A230, H⟩ := H
   replace H : ((laws_eqCubeSS.f kj4 t554 t542).bind fun t558 => (if t558 = true then (laws_FnExactSolids.j1 kj4 t552 t551 (t555 != t545)) else (laws_FnExactSolids.j1 kj4 t552 t551 true))) = some r := H
   have A23 := aM A230
   clear A230
   have HC24 := aM H
   clear H
   obtain ⟨Ao25, co25, eo25⟩ := Kd.S_slice HO_7.out
   subst eo25
   go_upto_region 14 with (first | ((with_reducible refine gate_callee (f := 13) rfl ?_); refine goesL_ (some 36) rfl rfl Try.func13 (by kernel_rfl) rfl #[.slice Ao25 t546.length co25, .int .i64 1] rfl zm ?_; (with_reducible refine (laws_markCubeSS.calls kj4 (fun k_ => NZ_ ≤ k_) (.slice Ao25 t546.length co25) t546 1 t551 t552 w _ ?side1 ?side2 A17.out).mono ?_); (case side1 => repeat (first | (with_reducible first | exact HB.out | apply below_alloc | apply pw_below_drewN | apply below_drew1) | exact HB.out)); (case side2 => exact HO_7.out); rintro e w26 ⟨rfl, hy0, hb, hkp⟩; refine ⟨_, rfl, ?_⟩; have n0_ := aM (Kd.V_mono (ok' := fun k_ => k_ < NZ_) (Kd.V_keptB (HO_5.out) hkp (fun k_ hk_ hs_ => Nat.not_le.2 hk_ hs_)) (fun k_ hk_ => hk_.1)); have n1_ := aM (hy0); have n2_ := aM (hb); clear HO_5 HO_7 HB; have HO_5 := n0_; have HO_7 := n1_; have HB := n2_; clear n0_ n1_ n2_; (try clear hb); (try clear hkp); (try clear hy0)) | ((with_reducible refine gate_callee (f := 14) rfl ?_); refine goesL_ (some 39) rfl rfl Try.func14 (by kernel_rfl) rfl #[.slice Ao25 t552.length co25, .int .i64 1] rfl (by (try simp only [mA, mB, mC]); first | done | (rw [show t552.length = t546.length from (Kd.S_reads' HO_7.out).1.symm] <;> rfl) | rfl | (simp only [lD, lT]; rfl)) ?_; (with_reducible refine (laws_heldCubeSS.calls kj4 _ _ t552 1 t553 _ ?side1 ?side2 A18.out).mono ?_); (case side1 => repeat (first | exact (Kd.S_reads' HO_7.out).2.2 | (with_reducible refine Kd.C_alloc ?_ _) | (with_reducible refine Kd.C_drewN ?_ _) | (with_reducible refine Kd.C_drew ?_))); (case side2 => rw [show t552.length = t546.length from (Kd.S_reads' HO_7.out).1.symm]; exact (Kd.S_reads' HO_7.out).2.1); rintro e w' ⟨rfl, ⟨nd, rfl⟩⟩; refine ⟨_, rfl, ?_⟩) | ((with_reducible refine gate_callee (f := 10) rfl ?_); refine goesL_ (some 48) rfl rfl Try.func10 (by kernel_rfl) rfl #[.int .i64 a0, .bool a1] rfl zm ?_; (with_reducible refine (impl_Solids.calls kj4 a0 a1 t554 t555 _ A23.out).mono ?_); rintro e w27 ⟨v556, rfl, ho0, hb⟩; refine ⟨_, rfl, ?_⟩; have n0_ := aM (Kd.V_elder' (mV_ HO_5.out) (Kd.S_base ho0) hb); have n1_ := aM (Kd.S_elder' (mS_ HO_7.out) (Kd.S_base ho0) hb); have n2_ := aM (Kd.S_lower (Kd.S_new' ho0 (Kd.S_lt (mS_ HO_7.out))) (below_size zb)); have n3_ := aM (below_step zb hb); clear HO_5 HO_7 HB; have HO_5 := n0_; have HO_7 := n1_; have HO557 := n2_; have HB := n3_; clear n0_ n1_ n2_ n3_; (try clear hb); (try clear hb2); (try clear hk); (try clear hi); (try clear ho0)))
   (try simp only [Act.put, xA, xB, xC])
   go_cut [59] (fun v59 wc => ∃ (kq : Nat) (x59_23 : Bool), v59 = .bool x59_23 ∧ Aside0 (laws_FnExactSolids.j1 kq t552 t551 x59_23 = some r) ∧ Aside0 (kq ≤ kj4) ∧ Aside0 (Kd.S (Kd.slice 43 k43) 40 wc w.heap.size (fun _ => True) (.slice Ao25 t546.length co25) t552) ∧ Aside0 (Below w.heap.size w wc))
   case first =>
    have H := HC24.out
    clear HC24
    replace H := Option.bind_eq_some_iff.mp H
    obtain ⟨t558, A280, H⟩ := H
    replace H : (if t558 = true then (laws_FnExactSolids.j1 kj4 t552 t551 (t555 != t545)) else (laws_FnExactSolids.j1 kj4 t552 t551 true)) = some r := H
    have A28 := aM A280
    clear A280
    by_cases c29 : t558 = true
    ·subst c29
     have H1 : (laws_FnExactSolids.j1 kj4 t552 t551 (t555 != t545)) = some r := by rw [if_pos rfl] at H; exact H
     clear H
     have H := H1
     clear H1
     have H' := aM H
     clear H
     obtain ⟨Ao30, co30, eo30⟩ := Kd.S_slice HO557.out
     subst eo30
     obtain ⟨Ao31, co31, eo31⟩ := Kd.V_slice HO_5.out
     subst eo31
     go_wp2_with (first | ((with_reducible refine gate_callee (f := 12) rfl ?_); refine goesL_ (some 53) rfl rfl Try.func12 (by kernel_rfl) rfl #[.slice Ao30 t554.length co30, .slice Ao31 t542.length co31] rfl zm ?_; (with_reducible refine (laws_eqCubeSS.calls kj4 _ _ t554 _ _ t542 true _ ?side1 ?side2 ?side3 ?side4 A28.out).mono ?_); (case side1 => repeat (first | exact (Kd.S_reads' HO557.out).2.2 | (with_reducible refine Kd.C_alloc ?_ _) | (with_reducible refine Kd.C_drewN ?_ _) | (with_reducible refine Kd.C_drew ?_))); (case side2 => exact (Kd.S_reads' HO557.out).2.1); (case side3 => repeat (first | exact (Kd.V_reads' HO_5.out).2.2 | (with_reducible refine Kd.C_alloc ?_ _) | (with_reducible refine Kd.C_drewN ?_ _) | (with_reducible refine Kd.C_drew ?_))); (case side4 => exact (Kd.V_reads' HO_5.out).2.1); rintro e w32 ⟨rfl, hb⟩; refine ⟨_, rfl, ?_⟩; have n0_ := aM (Kd.V_below (mV_ HO_5.out) hb); have n1_ := aM (Kd.S_below (mS_ HO_7.out) hb); have n2_ := aM (Kd.S_below (mS_ HO557.out) hb); have n3_ := aM (below_step zb hb); clear HO_5 HO_7 HO557 HB; have HO_5 := n0_; have HO_7 := n1_; have HO557 := n2_; have HB := n3_; clear n0_ n1_ n2_ n3_; (try clear hb); (try clear hb2); (try clear hk); (try clear hi)))
     go_meet
     case rel => exact ⟨_, ((t555 != t545)), zr, H', ⟨by have := HJ4.out; first | omega | exact Nat.le_refl _⟩, ⟨zd64 HO_7.out⟩, ⟨zb⟩⟩
    replace c29 := Bool.eq_false_iff.mpr c29
    subst c29
    have H1 : (laws_FnExactSolids.j1 kj4 t552 t551 true) = some r := by rw [if_neg (show ¬ (false = true) by decide)] at H; exact H
    clear H
    have H := H1
    clear H1
    have H' := aM H
    clear H
    obtain ⟨Ao33, co33, eo33⟩ := Kd.S_slice HO557.out
    subst eo33
    obtain ⟨Ao34, co34, eo34⟩ := Kd.V_slice HO_5.out
    subst eo34
    go_wp2_with (first | ((with_reducible refine gate_callee (f := 12) rfl ?_); refine goesL_ (some 53) rfl rfl Try.func12 (by kernel_rfl) rfl #[.slice Ao33 t554.length co33, .slice Ao34 t542.length co34] rfl zm ?_; (with_reducible refine (laws_eqCubeSS.calls kj4 _ _ t554 _ _ t542 false _ ?side1 ?side2 ?side3 ?side4 A28.out).mono ?_); (case side1 => repeat (first | exact (Kd.S_reads' HO557.out).2.2 | (with_reducible refine Kd.C_alloc ?_ _) | (with_reducible refine Kd.C_drewN ?_ _) | (with_reducible refine Kd.C_drew ?_))); (case side2 => exact (Kd.S_reads' HO557.out).2.1); (case side3 => repeat (first | exact (Kd.V_reads' HO_5.out).2.2 | (with_reducible refine Kd.C_alloc ?_ _) | (with_reducible refine Kd.C_drewN ?_ _) | (with_reducible refine Kd.C_drew ?_))); (case side4 => exact (Kd.V_reads' HO_5.out).2.1); rintro e w35 ⟨rfl, hb⟩; refine ⟨_, rfl, ?_⟩; have n0_ := aM (Kd.V_below (mV_ HO_5.out) hb); have n1_ := aM (Kd.S_below (mS_ HO_7.out) hb); have n2_ := aM (Kd.S_below (mS_ HO557.out) hb); have n3_ := aM (below_step zb hb); clear HO_5 HO_7 HO557 HB; have HO_5 := n0_; have HO_7 := n1_; have HO557 := n2_; have HB := n3_; clear n0_ n1_ n2_ n3_; (try clear hb); (try clear hb2); (try clear hk); (try clear hi)))
    go_meet
    case rel => exact ⟨_, (true), zr, H', ⟨by have := HJ4.out; first | omega | exact Nat.le_refl _⟩, ⟨zd64 HO_7.out⟩, ⟨zb⟩⟩
   case rest =>
    clear HC24
    try clear c1
    try clear c2
    try clear p2
    try clear c5
    try clear c9
    try clear c10
    try clear c11
    try clear c12
    try clear c13
    try clear c14
    try clear c16
    try clear c19
    try clear c19b0
    try clear c22
    try clear c22b0
    try clear c22b1
    try clear c29
    try clear p2
    obtain ⟨kq, x59_23, rfl, HA, HJ23, HO_7, HB⟩ := hcut
    have hl7_23 := (Kd.S_reads' HO_7.out).1
    rw [hl7_23] at HO_7
    (try simp only [hl7_23])
    cases kq with
    | zero => exact absurd HA.out (by simp [laws_FnExactSolids.j1])
    | succ kj23 =>
     have H := HA.out
     clear HA
     simp only [laws_FnExactSolids.j1] at H
     by_cases c36 : x59_23 = true
     ·subst c36
      have H1 : (some false) = some r := by rw [if_pos rfl] at H; exact H
      clear H
      have H := H1
      clear H1
      obtain rfl := Option.some.inj H
      go_wp2
      go_ret
      exact ⟨zw, zb⟩
     replace c36 := Bool.eq_false_iff.mpr c36
     subst c36
     have H1 : ((laws_heldCubeSS.f kj23 t552 1).bind fun t559 => (if t559 < 0 then (some false) else (if t559 = t551 then (some true) else (some false)))) = some r := by rw [if_neg (show ¬ (false = true) by decide)] at H; exact H
     clear H
     have H := H1
     clear H1
     replace H := Option.bind_eq_some_iff.mp H
     obtain ⟨t559, A370, H⟩ := H
     replace H : (if t559 < 0 then (some false) else (if t559 = t551 then (some true) else (some false))) = some r := H
     have A37 := aM A370
     clear A370
     by_cases c38 : t559 < 0
     ·rw [if_pos c38] at H
      have c38b0 : decide (t559 < 0) = true := decide_eq_true c38
      clear c38
      obtain rfl := Option.some.inj H
      go_wp2_with (first | ((with_reducible refine gate_callee (f := 14) rfl ?_); refine goesL_ (some 62) rfl rfl Try.func14 (by kernel_rfl) rfl #[.slice Ao25 t552.length co25, .int .i64 1] rfl zm ?_; (with_reducible refine (laws_heldCubeSS.calls kj23 _ _ t552 1 t559 _ ?side1 ?side2 A37.out).mono ?_); (case side1 => repeat (first | exact (Kd.S_reads' HO_7.out).2.2 | (with_reducible refine Kd.C_alloc ?_ _) | (with_reducible refine Kd.C_drewN ?_ _) | (with_reducible refine Kd.C_drew ?_))); (case side2 => exact (Kd.S_reads' HO_7.out).2.1); rintro e w' ⟨rfl, ⟨nd, rfl⟩⟩; refine ⟨_, rfl, ?_⟩))
      go_ret
      exact ⟨zw, zb⟩
     rw [if_neg c38] at H
     have c38b0 : decide (t559 < 0) = false := decide_eq_false c38
     clear c38
     by_cases c39 : t559 = t551
     rotate_left
     ·rw [if_neg c39] at H
      have c39b0 : (t559 == t551) = false := beq_eq_false_iff_ne.mpr c39
      have c39b1 : (t559 != t551) = true := bne_iff_ne.mpr c39
      obtain rfl := Option.some.inj H
      go_wp2_with (first | ((with_reducible refine gate_callee (f := 14) rfl ?_); refine goesL_ (some 62) rfl rfl Try.func14 (by kernel_rfl) rfl #[.slice Ao25 t552.length co25, .int .i64 1] rfl zm ?_; (with_reducible refine (laws_heldCubeSS.calls kj23 _ _ t552 1 t559 _ ?side1 ?side2 A37.out).mono ?_); (case side1 => repeat (first | exact (Kd.S_reads' HO_7.out).2.2 | (with_reducible refine Kd.C_alloc ?_ _) | (with_reducible refine Kd.C_drewN ?_ _) | (with_reducible refine Kd.C_drew ?_))); (case side2 => exact (Kd.S_reads' HO_7.out).2.1); rintro e w' ⟨rfl, ⟨nd, rfl⟩⟩; refine ⟨_, rfl, ?_⟩))
      go_ret
      exact ⟨zw, zb⟩
     rw [if_pos c39] at H
     have c39b0 : (t559 == t551) = true := beq_iff_eq.mpr c39
     have c39b1 : (t559 != t551) = false := bne_eq_false_iff_eq.mpr c39
     clear c39
     obtain rfl := Option.some.inj H
     go_wp2_with (first | ((with_reducible refine gate_callee (f := 14) rfl ?_); refine goesL_ (some 62) rfl rfl Try.func14 (by kernel_rfl) rfl #[.slice Ao25 t552.length co25, .int .i64 1] rfl zm ?_; (with_reducible refine (laws_heldCubeSS.calls kj23 _ _ t552 1 t559 _ ?side1 ?side2 A37.out).mono ?_); (case side1 => repeat (first | exact (Kd.S_reads' HO_7.out).2.2 | (with_reducible refine Kd.C_alloc ?_ _) | (with_reducible refine Kd.C_drewN ?_ _) | (with_reducible refine Kd.C_drew ?_))); (case side2 => exact (Kd.S_reads' HO_7.out).2.1); rintro e w' ⟨rfl, ⟨nd, rfl⟩⟩; refine ⟨_, rfl, ?_⟩))
     go_ret
     exact ⟨zw, zb⟩
end Go.Proofs.Ytlompfboheiliaa.F
end
section
namespace Go.Proofs.Ytlompfboheiliaa.L
open Go.RowKit Go.Proofs.YtlompfboheiliaaW.PrintWords
theorem Ev.pos {α : Type} {c : Prop} [Decidable c] {f g : Nat → Option α} {r : α} (h : c) (e : Ev f r) : Ev (fun k => if c then f k else g k) r := by
  obtain ⟨K, e⟩ := e
  exact ⟨K, fun k hk => (if_pos h).trans (e k hk)⟩
theorem Ev.neg {α : Type} {c : Prop} [Decidable c] {f g : Nat → Option α} {r : α} (h : ¬ c) (e : Ev g r) : Ev (fun k => if c then f k else g k) r := by
  obtain ⟨K, e⟩ := e
  exact ⟨K, fun k hk => (if_neg h).trans (e k hk)⟩
theorem Ev.if_ {α : Type} {c : Prop} [Decidable c] {f g : Nat → Option α} {r s : α} (h : c → Ev f r) (h' : ¬ c → Ev g s) : Ev (fun k => if c then f k else g k) (if c then r else s) := by
  by_cases hc : c
  · rw [if_pos hc]; exact Ev.pos hc (h hc)
  · rw [if_neg hc]; exact Ev.neg hc (h' hc)
theorem Ev.of_eq {α : Type} {g : Nat → Option α} {r s : α} (h : Ev g r) (e : r = s) : Ev g s := e ▸ h
theorem Ev.bind0 {α β : Type} {o : Option α} {f : Nat → α → Option β} {a : α} {r : β} (h : o = some a) (k : Ev (fun n => f n a) r) : Ev (fun n => o.bind (f n)) r := by
  subst h
  exact k
theorem Ev.succ {α : Type} {g : Nat → Option α} {r : α} (h : Ev (fun k => g (k + 1)) r) : Ev g r := by
  obtain ⟨K, h⟩ := h
  refine ⟨K + 1, fun n hn => ?_⟩
  obtain ⟨m, rfl⟩ : ∃ m, n = m + 1 := ⟨n - 1, by omega⟩
  exact h m (by omega)
theorem w64 {n : Int} (h : -9223372036854775808 ≤ n) (h' : n ≤ 9223372036854775807) : wrap64 n = n := by
  unfold wrap64
  omega
theorem getD_at {α : Type} (pre suf : List α) (c d : α) : (pre ++ c :: suf).getD (pre.length : Int).toNat d = c := by
  simp [List.getD]
end Go.Proofs.Ytlompfboheiliaa.L
namespace Go.Proofs.Ytlompfboheiliaa.L
open Go.RowKit Go.Proofs.YtlompfboheiliaaW.PrintWords
theorem loop_list {α σ ρ : Type} (xs : List α) (l : Nat → Int → σ → Option ρ) (g : List α → List α → σ → ρ) (Inv : List α → σ → Prop)
    (hn : ∀ s, Inv xs s → Ev (fun k => l (k + 1) (xs.length : Int) s) (g xs [] s))
    (hs : ∀ (pre : List α) (c : α) (suf : List α) (s : σ), xs = pre ++ c :: suf → Inv pre s → (∀ s', Inv (pre ++ [c]) s' → Ev (fun k => l k ((pre.length : Int) + 1) s') (g (pre ++ [c]) suf s')) → Ev (fun k => l (k + 1) (pre.length : Int) s) (g pre (c :: suf) s)) :
    ∀ s, Inv [] s → Ev (fun k => l k 0 s) (g [] xs s) := by
  have key : ∀ (suf pre : List α), xs = pre ++ suf → ∀ s, Inv pre s → Ev (fun k => l k (pre.length : Int) s) (g pre suf s) := by
    intro suf
    induction suf with
    | nil =>
      intro pre hx s hi
      rw [List.append_nil] at hx
      subst hx
      exact Ev.succ (hn s hi)
    | cons c suf ih =>
      intro pre hx s hi
      refine Ev.succ (hs pre c suf s hx hi fun s' hi' => ?_)
      have := ih (pre ++ [c]) (by rw [hx]; simp) s' hi'
      rw [List.length_append] at this
      exact this
  intro s hi
  exact key xs [] rfl s hi
end Go.Proofs.Ytlompfboheiliaa.L
end
section
namespace Go.Proofs.Ytlompfboheiliaa.L
open Go.RowKit Go.Proofs.YtlompfboheiliaaW.PrintWords Go.Proofs.YtlompfboheiliaaW.PrintLast Go.Proofs.YtlompfboheiliaaW.PrintMore Go.Proofs.Ytlompfboheiliaa.F
set_option linter.unusedVariables false
set_option linter.unusedSimpArgs false
def ok1 (n : Int) : Prop := -100 ≤ n ∧ n ≤ 100
instance (n : Int) : Decidable (ok1 n) := by unfold ok1; infer_instance
def small {α : Type} (l : List α) : Prop := l.length ≤ 4611686018427387904
theorem pre_lt {α : Type} {xs pre suf : List α} {c : α} (h : xs = pre ++ c :: suf) : ((pre.length : Int) < (xs.length : Int)) = True := by
  subst h; simp; omega
theorem pre_w {α : Type} {xs pre suf : List α} {c : α} (h : xs = pre ++ c :: suf) (hs : small xs) : wrap64 ((pre.length : Int) + 1) = (pre.length : Int) + 1 := by
  subst h
  unfold small at hs
  rw [List.length_append, List.length_cons] at hs
  exact w64 (by omega) (by omega)
theorem pre_0 {α : Type} (pre : List α) : (0 ≤ (pre.length : Int)) = True := by simp
theorem len_lt {α : Type} (xs : List α) : ((xs.length : Int) < (xs.length : Int)) = False := by simp
theorem pre_get {α : Type} {xs pre suf : List α} {c : α} (h : xs = pre ++ c :: suf) : xs[pre.length]? = some c := by
  subst h; simp
theorem pre_len {α : Type} {xs pre suf : List α} {c : α} (h : xs = pre ++ c :: suf) : pre.length < xs.length := by
  subst h; simp
def fits {α : Type} (l : List α) : Prop := l.length ≤ 1048576
theorem fits.small {α : Type} {l : List α} (h : fits l) : small l := by unfold fits at h; unfold L.small; omega
abbrev Cube := S43
def okQ (c : Cube) : Prop := ok1 c.f0 ∧ ok1 c.f1 ∧ ok1 c.f2
instance (c : Cube) : Decidable (okQ c) := by unfold okQ; infer_instance
def ltQ (a b : Cube) : Prop := a.f2 < b.f2 ∨ a.f2 = b.f2 ∧ (a.f1 < b.f1 ∨ a.f1 = b.f1 ∧ a.f0 < b.f0)
instance (a b : Cube) : Decidable (ltQ a b) := by unfold ltQ; infer_instance
theorem ltQ_irrefl (a : Cube) : ¬ ltQ a a := by unfold ltQ; omega
theorem ltQ_total {a b : Cube} (h : ¬ ltQ a b) (h' : ¬ ltQ b a) : a = b := by
  obtain ⟨a0, a1, a2⟩ := a
  obtain ⟨b0, b1, b2⟩ := b
  unfold ltQ at h h'
  simp only at h h'
  simp only [S43.mk.injEq]
  omega
theorem at_preQ {xs pre suf : List Cube} {c : Cube} (h : xs = pre ++ c :: suf) : rd_T43 xs (pre.length : Int) = c := by
  subst h; exact getD_at pre suf c _
theorem less9_eq (a b : Cube) : spec_l09Less.f a.f0 a.f1 a.f2 b.f0 b.f1 b.f2 = some (decide (ltQ a b)) := by
  unfold spec_l09Less.f ltQ
  by_cases h2 : a.f2 < b.f2
  · simp [h2]
  · by_cases e2 : a.f2 = b.f2
    · by_cases h1 : a.f1 < b.f1
      · simp [e2, h1]
      · by_cases e1 : a.f1 = b.f1
        · simp [e2, e1]
        · simp [e2, h1, e1]
    · simp [h2, e2]
theorem cmpV_lt (a b : Cube) : cmpV a b < 0 ↔ ltQ a b := by
  have h := ltV a b
  unfold Go.Proofs.ltOf at h
  have h2 : (cmpV a b < 0) = (a.f2 < b.f2 ∨ a.f2 = b.f2 ∧ (a.f1 < b.f1 ∨ a.f1 = b.f1 ∧ a.f0 < b.f0)) := by
    have := congrArg (· = true) h
    simpa using this
  rw [h2]
  rfl
theorem cmpV_val (a b : Cube) : cmpV a b = if ltQ a b then -1 else if ltQ b a then 1 else 0 := by
  unfold cmpV cI ltQ
  repeat' split
  all_goals omega
theorem eqCube_eq (a b c d e f : Int) : laws_eqCube.f a b c d e f = some (decide (a = d ∧ b = e ∧ c = f)) := by
  unfold laws_eqCube.f
  by_cases h : a = d
  · by_cases h' : b = e
    · by_cases h'' : c = f <;> simp [h, h', h'']
    · simp [h, h']
  · simp [h]
theorem eqCubeS_ev (a : List Cube) (ha : small a) : Ev (fun k => laws_eqCubeS.f k a a) true := by
  unfold laws_eqCubeS.f
  refine Ev.pos rfl ?_
  refine loop_list a (fun k i (_ : Unit) => laws_eqCubeS.l0 k a a i) (fun _ _ _ => true) (fun _ _ => True) ?_ ?_ () trivial
  · intro _ _
    simp only [laws_eqCubeS.l0, len_lt, if_false]
    exact Ev.now _
  · intro pre c suf _ hx _ ih
    simp only [laws_eqCubeS.l0, pre_lt hx, pre_0, if_true, at_preQ hx, eqCube_eq, and_self, decide_true, Option.bind_some, pre_w hx ha]
    exact ih () trivial
def markedQ (m : Int) (n : Nat) : List Cube := (List.range n).map fun (i : Nat) => ⟨m + 3 * (i : Int), m + 1 + 3 * (i : Int), m + 2 + 3 * (i : Int)⟩
theorem markedQ_len (m : Int) (n : Nat) : (markedQ m n).length = n := by simp [markedQ]
theorem markedQ_get (m : Int) (n i : Nat) (h : i < n) : (markedQ m n)[i]? = some ⟨m + 3 * (i : Int), m + 1 + 3 * (i : Int), m + 2 + 3 * (i : Int)⟩ := by
  simp [markedQ, h]
theorem markCubeS_from (a : List Cube) (m : Int) (h0 : 0 ≤ m) (h1 : m ≤ 4611686018427387904) (ha : fits a) : Ev (fun k => laws_markCubeS.f k a m) (m + 3 * (a.length : Int), markedQ m a.length) := by
  unfold laws_markCubeS.f
  have hs := ha.small
  unfold fits at ha
  have := loop_list a (fun k i (s : List Cube × Int) => laws_markCubeS.l0 k s.1 s.2 i) (fun pre _ s => (m + 3 * (a.length : Int), s.1.take pre.length ++ (markedQ m a.length).drop pre.length))
    (fun pre s => s.1.length = a.length ∧ s.2 = m + 3 * (pre.length : Int)) ?_ ?_ (a, m) ⟨rfl, by simp⟩
  · simpa using this
  · rintro ⟨l, n⟩ ⟨hl, hn⟩
    simp only at hl hn
    simp only [laws_markCubeS.l0, hl, len_lt, if_false]
    refine Ev.of_eq (Ev.now _) ?_
    rw [List.take_of_length_le (by omega), List.drop_of_length_le (by rw [markedQ_len]; exact Nat.le_refl _), List.append_nil, hn]
  · rintro pre c suf ⟨l, n⟩ hx ⟨hl, hn⟩ ih
    have hp := pre_len hx
    simp only at hl hn
    subst hn
    have hlt : ((pre.length : Int) < (l.length : Int)) = True := by rw [hl]; exact pre_lt hx
    have e1 : wrap64 (m + 3 * (pre.length : Int) + 1) = m + 1 + 3 * (pre.length : Int) := by rw [w64 (by omega) (by omega)]; omega
    have e2 : wrap64 (m + 1 + 3 * (pre.length : Int) + 1) = m + 2 + 3 * (pre.length : Int) := by rw [w64 (by omega) (by omega)]; omega
    have e4 : wrap64 (m + 2 + 3 * (pre.length : Int) + 1) = m + 3 * ((pre.length : Int) + 1) := by rw [w64 (by omega) (by omega)]; omega
    have e3 : ∀ d : Cube, rd_T43 (l.set pre.length d) (pre.length : Int) = d := by
      intro d
      simp [rd_T43, List.getD, hl, hp]
    simp only [laws_markCubeS.l0, hlt, pre_0, if_true, Option.bind_some, Int.toNat_natCast, e3, List.set_set, e1, e2, e4, pre_w hx hs]
    refine Ev.of_eq (ih (l.set pre.length ⟨m + 3 * (pre.length : Int), m + 1 + 3 * (pre.length : Int), m + 2 + 3 * (pre.length : Int)⟩, m + 3 * ((pre.length : Int) + 1)) ⟨by simpa using hl, by simp⟩) ?_
    refine Prod.ext rfl ?_
    simp only [List.length_append, List.length_singleton]
    rw [List.take_add_one, List.getElem?_set_self (by omega), List.take_set_of_le (Nat.le_refl _), List.drop_eq_getElem_cons (i := pre.length) (by rw [markedQ_len]; omega)]
    have := markedQ_get m a.length pre.length hp
    rw [List.getElem?_eq_getElem (by rw [markedQ_len]; omega)] at this
    simp [Option.some.inj this]
theorem heldCubeS_from (m : Int) (n : Nat) (h0 : 0 ≤ m) (h1 : m ≤ 4611686018427387904) (hn : n ≤ 1048576) : Ev (fun k => laws_heldCubeS.f k (markedQ m n) m) (m + 3 * (n : Int)) := by
  unfold laws_heldCubeS.f
  have hs : small (markedQ m n) := by unfold small; rw [markedQ_len]; omega
  refine loop_list (markedQ m n) (fun k i (s : Int) => laws_heldCubeS.l0 k (markedQ m n) s i) (fun _ _ _ => m + 3 * (n : Int)) (fun pre s => s = m + 3 * (pre.length : Int)) ?_ ?_ m (by simp)
  · rintro s rfl
    simp only [laws_heldCubeS.l0, len_lt, if_false]
    rw [markedQ_len]
    exact Ev.now _
  · rintro pre c suf s hx rfl ih
    have hp := pre_len hx
    rw [markedQ_len] at hp
    have hc := pre_get hx
    rw [markedQ_get m n _ hp] at hc
    have hc := Option.some.inj hc
    have e1 : wrap64 (m + 3 * (pre.length : Int) + 1) = m + 1 + 3 * (pre.length : Int) := by rw [w64 (by omega) (by omega)]; omega
    have e2 : wrap64 (m + 1 + 3 * (pre.length : Int) + 1) = m + 2 + 3 * (pre.length : Int) := by rw [w64 (by omega) (by omega)]; omega
    have e4 : wrap64 (m + 2 + 3 * (pre.length : Int) + 1) = m + 3 * ((pre.length : Int) + 1) := by rw [w64 (by omega) (by omega)]; omega
    simp only [laws_heldCubeS.l0, pre_lt hx, pre_0, if_true, at_preQ hx, ← hc, e1, e2, e4, pre_w hx hs]
    exact ih _ (by simp)
def insQ (c : Cube) : List Cube → List Cube
  | [] => [c]
  | a :: r => if ltQ a c then a :: insQ c r else c :: a :: r
theorem insQ_perm (c : Cube) : ∀ l : List Cube, (insQ c l).Perm (c :: l)
  | [] => List.Perm.refl _
  | a :: r => by
    unfold insQ
    split
    · exact ((insQ_perm c r).cons a).trans (List.Perm.swap c a r)
    · exact List.Perm.refl _
theorem specIns_l (l : List Cube) (i : Int) (c : Cube) (hi0 : 0 ≤ i) (hi1 : i < (l.length : Int)) (hc : rd_T43 l i = c) {r : List Cube} (xs : List Cube) (hl : xs.length ≤ 1048576) : ∀ (suf pre : List Cube), xs = pre ++ suf →
    Ev (fun k => spec_l09Sort.l0 k l (pre ++ insQ c suf) (wrap64 (i + 1))) r → Ev (fun k => spec_l09Sort.l1 k l xs i (pre.length : Int)) r := by
  have hs : small xs := by unfold small; omega
  have done : ∀ (suf pre : List Cube), xs = pre ++ suf → Ev (fun k => spec_l09Sort.l0 k l (pre ++ c :: suf) (wrap64 (i + 1))) r →
      Ev (fun k => if (pre.length : Int) ≤ (xs.length : Int) then (if ([] : List Cube).length + (xs.take ((pre.length : Int)).toNat).length < 5864062014805 then (if (([] : List Cube) ++ xs.take ((pre.length : Int)).toNat).length + ([(⟨(rd_T43 l i).f0, (rd_T43 l i).f1, (rd_T43 l i).f2⟩ : S43)] : List Cube).length < 5864062014805 then (if ((([] : List Cube) ++ xs.take ((pre.length : Int)).toNat) ++ ([(⟨(rd_T43 l i).f0, (rd_T43 l i).f1, (rd_T43 l i).f2⟩ : S43)] : List Cube)).length + (xs.drop ((pre.length : Int)).toNat).length < 5864062014805 then spec_l09Sort.l0 k l ((([] : List Cube) ++ xs.take ((pre.length : Int)).toNat) ++ ([(⟨(rd_T43 l i).f0, (rd_T43 l i).f1, (rd_T43 l i).f2⟩ : S43)] : List Cube) ++ xs.drop ((pre.length : Int)).toNat) (wrap64 (i + 1)) else none) else none) else none) else none) r := by
    intro suf pre hx h
    have e1 : xs.take pre.length = pre := by rw [hx]; simp
    have e2 : xs.drop pre.length = suf := by rw [hx]; simp
    have hn : xs.length = pre.length + suf.length := by rw [hx]; simp
    rw [hc]
    simp only [Int.toNat_natCast, e1, e2, List.nil_append, List.append_assoc, List.singleton_append, List.length_append, List.length_nil, List.length_singleton]
    exact Ev.pos (by omega) (Ev.pos (by omega) (Ev.pos (by omega) (Ev.pos (by omega) h)))
  intro suf
  induction suf with
  | nil =>
    intro pre hx h
    have hd := done [] pre hx h
    refine Ev.succ ?_
    simp only [spec_l09Sort.l1, Option.bind_some]
    have hlt : ¬ ((pre.length : Int) < (xs.length : Int)) := by rw [hx]; simp
    have h1 : pre.length ≤ xs.length := by rw [hx]; simp
    refine Ev.neg hlt (Ev.pos (by omega) ?_)
    have hi0' : (0 ≤ i) = True := eq_true hi0
    have hi1' : (i < (l.length : Int)) = True := eq_true hi1
    simp only [hi0', hi1', if_true]
    exact hd
  | cons a suf ih =>
    intro pre hx h
    refine Ev.succ ?_
    have hi0' : (0 ≤ i) = True := eq_true hi0
    have hi1' : (i < (l.length : Int)) = True := eq_true hi1
    simp only [spec_l09Sort.l1, Option.bind_some, pre_lt hx, pre_0, if_true, at_preQ hx, hi0', hi1', pre_w hx hs]
    have hless : spec_l09Less.f a.f0 a.f1 a.f2 (rd_T43 l i).f0 (rd_T43 l i).f1 (rd_T43 l i).f2 = some (decide (ltQ a c)) := by rw [hc]; exact less9_eq a c
    rw [hless]
    simp only [Option.bind_some]
    unfold insQ at h
    by_cases hac : ltQ a c
    · rw [if_pos hac] at h
      refine Ev.pos (by simpa using hac) ?_
      have := ih (pre ++ [a]) (by rw [hx]; simp) (by rw [List.append_assoc]; exact h)
      rw [List.length_append] at this
      exact this
    · rw [if_neg hac] at h
      refine Ev.neg (by simpa using hac) ?_
      exact done (a :: suf) pre hx h
def insAllQ : List Cube → List Cube → List Cube
  | acc, [] => acc
  | acc, c :: r => insAllQ (insQ c acc) r
theorem loop_tailQ {α σ ρ : Type} (c : α) (r : List α) (l : Nat → Int → σ → Option ρ) (g : List α → List α → σ → ρ) (Inv : List α → σ → Prop)
    (hn : ∀ s, Inv (c :: r) s → Ev (fun k => l (k + 1) ((c :: r).length : Int) s) (g (c :: r) [] s))
    (hs : ∀ (pre : List α) (d : α) (suf : List α) (s : σ), c :: r = pre ++ d :: suf → pre ≠ [] → Inv pre s → (∀ s', Inv (pre ++ [d]) s' → Ev (fun k => l k ((pre.length : Int) + 1) s') (g (pre ++ [d]) suf s')) → Ev (fun k => l (k + 1) (pre.length : Int) s) (g pre (d :: suf) s)) :
    ∀ s, Inv [c] s → Ev (fun k => l k 1 s) (g [c] r s) := by
  have key : ∀ (suf pre : List α), c :: r = pre ++ suf → pre ≠ [] → ∀ s, Inv pre s → Ev (fun k => l k (pre.length : Int) s) (g pre suf s) := by
    intro suf
    induction suf with
    | nil =>
      intro pre hx _ s hi
      rw [List.append_nil] at hx
      subst hx
      exact Ev.succ (hn s hi)
    | cons d suf ih =>
      intro pre hx hp s hi
      refine Ev.succ (hs pre d suf s hx hp hi fun s' hi' => ?_)
      have := ih (pre ++ [d]) (by rw [hx]; simp) (by simp) s' hi'
      rw [List.length_append] at this
      exact this
  intro s hi
  exact key r [c] rfl (by simp) s hi
def minQ (z : Int × Int × Int) (l : List Cube) : Int × Int × Int := l.foldl (fun m c => (mn m.1 c.f0, mn m.2.1 c.f1, mn m.2.2 c.f2)) z
def leastQ (l : List Cube) : Int × Int × Int := match l with | [] => (0, 0, 0) | c :: r => minQ (c.f0, c.f1, c.f2) r
def moveQ (l : List Cube) (m : Int × Int × Int) : List Cube := l.map fun c => ⟨wrap64 (c.f0 - m.1), wrap64 (c.f1 - m.2.1), wrap64 (c.f2 - m.2.2)⟩
theorem moveQ_len (l : List Cube) (m : Int × Int × Int) : (moveQ l m).length = l.length := by simp [moveQ]
def normalQ (l : List Cube) : List Cube := moveQ l (leastQ l)
theorem normalQ_len (l : List Cube) : (normalQ l).length = l.length := moveQ_len _ _
theorem wsub (a b : Int) : wrap64 (a + wrap64 (-b)) = wrap64 (a - b) := by unfold wrap64; omega
theorem specMoveQ_ev (l : List Cube) (m : Int × Int × Int) (hl : l.length ≤ 1048576) : Ev (fun k => spec_l09Move.f k l (wrap64 (-m.1)) (wrap64 (-m.2.1)) (wrap64 (-m.2.2))) (moveQ l m) := by
  have hs : small l := by unfold small; omega
  unfold spec_l09Move.f
  have := loop_list l (fun k i (s : List Cube) => spec_l09Move.l0 k l s i (wrap64 (-m.1)) (wrap64 (-m.2.1)) (wrap64 (-m.2.2))) (fun pre suf s => s ++ moveQ suf m) (fun pre s => s.length = pre.length) ?_ ?_ [] rfl
  · simpa using this
  · intro s _
    simp only [spec_l09Move.l0, len_lt, if_false]
    exact Ev.of_eq (Ev.now _) (by simp [moveQ])
  · intro pre c suf s hx hi ih
    have hp := pre_len hx
    simp only [spec_l09Move.l0, pre_lt hx, pre_0, if_true, at_preQ hx, pre_w hx hs, spec_l09Add.f, Option.bind_some, wsub]
    refine Ev.pos (by omega) (Ev.of_eq (ih _ (by simp [hi])) ?_)
    simp [moveQ]
theorem specNormalQ_ev (l : List Cube) (hl : l.length ≤ 1048576) (h0 : 0 < l.length) : Ev (fun k => spec_l09Normal.f k l) (normalQ l) := by
  have hs : small l := by unfold small; omega
  unfold spec_l09Normal.f
  obtain ⟨c, r, rfl⟩ : ∃ c r, l = c :: r := by cases l with | nil => simp at h0 | cons c r => exact ⟨c, r, rfl⟩
  refine Ev.pos (by simp <;> omega) ?_
  have h1 : rd_T43 (c :: r) 0 = c := rfl
  rw [h1]
  refine loop_tailQ c r (fun k i (s : Int × Int × Int) => spec_l09Normal.l0 k (c :: r) s.1 s.2.1 s.2.2 i) (fun _ suf s => moveQ (c :: r) (minQ s suf)) (fun _ _ => True) ?_ ?_ (c.f0, c.f1, c.f2) trivial
  · rintro s _
    simp only [spec_l09Normal.l0, len_lt, if_false]
    exact Ev.bind (specMoveQ_ev (c :: r) s hl) (Ev.now _)
  · rintro pre d suf s hx _ _ ih
    simp only [spec_l09Normal.l0, pre_lt hx, pre_0, if_true, at_preQ hx, pre_w hx hs]
    exact ih (mn s.1 d.f0, mn s.2.1 d.f1, mn s.2.2 d.f2) trivial
theorem implMoveQ_ev (l : List Cube) (m : Int × Int × Int) (hl : l.length ≤ 1048576) : Ev (fun k => impl_normalCubes.l1 k [] l (l.length : Int) 0 m.1 m.2.1 m.2.2) (moveQ l m) := by
  have hs : small l := by unfold small; omega
  have := loop_list l (fun k i (s : List Cube) => impl_normalCubes.l1 k s l (l.length : Int) i m.1 m.2.1 m.2.2) (fun pre suf s => s ++ moveQ suf m) (fun pre s => s.length = pre.length) ?_ ?_ [] rfl
  · simpa using this
  · intro s _
    simp only [impl_normalCubes.l1, len_lt, if_false]
    exact Ev.of_eq (Ev.now _) (by simp [moveQ])
  · intro pre c suf s hx hi ih
    have hp := pre_len hx
    simp only [impl_normalCubes.l1, pre_lt hx, pre_0, if_true, at_preQ hx, pre_w hx hs]
    refine Ev.pos (by omega) (Ev.of_eq (ih _ (by simp [hi])) ?_)
    simp [moveQ]
theorem implNormalQ_ev (l : List Cube) (hl : l.length ≤ 1048576) (h0 : 0 < l.length) : Ev (fun k => impl_normalCubes.f k l) (normalQ l) := by
  have hs : small l := by unfold small; omega
  unfold impl_normalCubes.f
  obtain ⟨c, r, rfl⟩ : ∃ c r, l = c :: r := by cases l with | nil => simp at h0 | cons c r => exact ⟨c, r, rfl⟩
  refine Ev.pos (by simp <;> omega) ?_
  have h1 : rd_T43 (c :: r) 0 = c := rfl
  rw [h1]
  have := loop_list (c :: r) (fun k i (s : Int × Int × Int) => impl_normalCubes.l0 k (c :: r) (c :: r) ((c :: r).length : Int) i s.1 s.2.1 s.2.2) (fun _ suf s => moveQ (c :: r) (minQ s suf)) (fun _ _ => True) ?_ ?_ (c.f0, c.f1, c.f2) trivial
  · refine Ev.of_eq this ?_
    simp [normalQ, leastQ, minQ, mn]
  · rintro s _
    simp only [impl_normalCubes.l0, len_lt, if_false]
    exact Ev.pos (by omega) (Ev.pos (by omega) (implMoveQ_ev (c :: r) s hl))
  · rintro pre d suf s hx _ ih
    simp only [impl_normalCubes.l0, pre_lt hx, pre_0, if_true, at_preQ hx, pre_w hx hs]
    exact ih (mn s.1 d.f0, mn s.2.1 d.f1, mn s.2.2 d.f2) trivial
theorem sortedQ_le (x y : Cube) : (!Go.Proofs.ltOf cmpV y x) = decide (¬ ltQ y x) := by
  unfold Go.Proofs.ltOf
  by_cases h : ltQ y x
  · simp [h, (cmpV_lt y x).2 h]
  · have : ¬ cmpV y x < 0 := fun h' => h ((cmpV_lt y x).1 h')
    simp [h, this]
theorem sortQ_perm (l : List Cube) : (sortC l).Perm l := List.mergeSort_perm _ _
theorem sortQ_len (l : List Cube) : (sortC l).length = l.length := (sortQ_perm l).length_eq
theorem sortQ_sorted (l : List Cube) : (sortC l).Pairwise fun a b => ¬ ltQ b a := by
  have := List.pairwise_mergeSort (le := fun x y : Cube => !Go.Proofs.ltOf cmpV y x) (fun a b c h1 h2 => by
    rw [sortedQ_le, decide_eq_true_eq] at *
    unfold ltQ at *
    omega) (fun a b => by
    rw [sortedQ_le, sortedQ_le, Bool.or_eq_true, decide_eq_true_eq, decide_eq_true_eq]
    unfold ltQ
    omega) l
  exact this.imp fun h => by rw [sortedQ_le, decide_eq_true_eq] at h; exact h
theorem eq_of_sortedQ : ∀ (l l' : List Cube), l.Perm l' → (l.Pairwise fun a b => ¬ ltQ b a) → (l'.Pairwise fun a b => ¬ ltQ b a) → l = l'
  | [], l', hp, _, _ => (List.Perm.nil_eq hp)
  | a :: r, [], hp, _, _ => absurd hp.symm (by simp)
  | a :: r, b :: s, hp, h1, h2 => by
    obtain ⟨h3, h4⟩ := List.pairwise_cons.1 h1
    obtain ⟨h5, h6⟩ := List.pairwise_cons.1 h2
    have hab : a = b := by
      have ha : a ∈ b :: s := hp.mem_iff.1 List.mem_cons_self
      have hb : b ∈ a :: r := hp.mem_iff.2 List.mem_cons_self
      have n1 : ¬ ltQ b a := by
        rcases List.mem_cons.1 hb with e | e
        · rw [e]; exact ltQ_irrefl a
        · exact h3 b e
      have n2 : ¬ ltQ a b := by
        rcases List.mem_cons.1 ha with e | e
        · rw [e]; exact ltQ_irrefl b
        · exact h5 a e
      exact ltQ_total n2 n1
    subst hab
    rw [eq_of_sortedQ r s (List.Perm.cons_inv hp) h4 h6]
theorem sortQ_eq {l l' : List Cube} (hp : l'.Perm l) (hs : l'.Pairwise fun a b => ¬ ltQ b a) : sortC l = l' :=
  eq_of_sortedQ _ _ ((sortQ_perm l).trans hp.symm) (sortQ_sorted l) hs
theorem insQ_sorted (c : Cube) : ∀ l : List Cube, (l.Pairwise fun a b => ¬ ltQ b a) → (insQ c l).Pairwise fun a b => ¬ ltQ b a
  | [], _ => by simp [insQ]
  | a :: r, h => by
    obtain ⟨h1, h2⟩ := List.pairwise_cons.1 h
    unfold insQ
    split
    · rename_i hc
      refine List.pairwise_cons.2 ⟨fun b hb => ?_, insQ_sorted c r h2⟩
      rcases List.mem_cons.1 ((insQ_perm c r).mem_iff.1 hb) with rfl | hb
      · unfold ltQ at *; omega
      · exact h1 b hb
    · rename_i hc
      refine List.pairwise_cons.2 ⟨fun b hb => ?_, h⟩
      rcases List.mem_cons.1 hb with rfl | hb
      · exact hc
      · have := h1 b hb
        unfold ltQ at *; omega
theorem insAllQ_spec : ∀ (l acc : List Cube), (acc.Pairwise fun a b => ¬ ltQ b a) → (insAllQ acc l).Perm (acc ++ l) ∧ (insAllQ acc l).Pairwise fun a b => ¬ ltQ b a
  | [], acc, h => ⟨by simp [insAllQ], h⟩
  | c :: r, acc, h => by
    obtain ⟨h1, h2⟩ := insAllQ_spec r (insQ c acc) (insQ_sorted c acc h)
    refine ⟨h1.trans ?_, h2⟩
    refine ((insQ_perm c acc).append_right r).trans ?_
    exact List.perm_middle.symm
theorem insAllQ_eq (l : List Cube) : insAllQ [] l = sortC l := by
  obtain ⟨h1, h2⟩ := insAllQ_spec l [] List.Pairwise.nil
  exact (sortQ_eq (by simpa using h1) h2).symm
theorem specSortQ_ev (l : List Cube) (hl : l.length ≤ 1048576) : Ev (fun k => spec_l09Sort.f k l) (sortC l) := by
  have hs : small l := by unfold small; omega
  unfold spec_l09Sort.f
  rw [← insAllQ_eq]
  refine loop_list l (fun k i (s : List Cube) => spec_l09Sort.l0 k l s i) (fun pre suf s => insAllQ s suf) (fun pre s => s.length = pre.length) ?_ ?_ [] rfl
  · intro s _
    simp only [spec_l09Sort.l0, len_lt, if_false]
    exact Ev.now _
  · intro pre c suf s hx hi ih
    have hp := pre_len hx
    simp only [spec_l09Sort.l0, pre_lt hx, if_true]
    refine specIns_l l (pre.length : Int) c (by omega) (by omega) (at_preQ hx) s (by omega) s [] rfl ?_
    rw [List.nil_append, pre_w hx hs]
    exact ih _ (by rw [(insQ_perm c s).length_eq]; simp [hi])
theorem implSortQ_eq (l : List Cube) (h0 : 0 < l.length) (h1 : l.length ≤ 1000000000000) : impl_Cube_37__impl_compareCubes.f l = some (sortC l) := by
  unfold impl_Cube_37__impl_compareCubes.f
  rw [if_pos ⟨h0, by omega⟩]
def rotZ : Nat → Int × Int × Int → Int × Int × Int
  | 0, p => p
  | n + 1, p => rotZ n (wrap64 (-p.2.1), p.1, p.2.2)
def rotX : Nat → Int × Int × Int → Int × Int × Int
  | 0, p => p
  | n + 1, p => rotX n (p.1, wrap64 (-p.2.2), p.2.1)
def tiltQ (f : Int) (p : Int × Int × Int) : Int × Int × Int := if f < 4 then rotX f.toNat p else if f = 5 then (wrap64 (-p.2.2), p.2.1, p.1) else (p.2.2, p.2.1, wrap64 (-p.1))
def turnQ (c : Cube) (t : Int) : Int × Int × Int := tiltQ (t / 4 % 6) (rotZ (t % 4).toNat (if t ≥ 24 then (wrap64 (-c.f0), c.f1, c.f2) else (c.f0, c.f1, c.f2)))
def turnE (t : Int) (c : Cube) : Cube := ⟨(turnQ c t).1, (turnQ c t).2.1, (turnQ c t).2.2⟩
theorem w64_rng (n : Int) : -9223372036854775808 ≤ wrap64 n ∧ wrap64 n ≤ 9223372036854775807 := by unfold wrap64; omega
theorem wneg2 {x : Int} (h : -9223372036854775808 ≤ x) (h' : x ≤ 9223372036854775807) : wrap64 (-wrap64 (-x)) = x := by unfold wrap64; omega
def inr (p : Int × Int × Int) : Prop := (-9223372036854775808 ≤ p.1 ∧ p.1 ≤ 9223372036854775807) ∧ (-9223372036854775808 ≤ p.2.1 ∧ p.2.1 ≤ 9223372036854775807)
theorem tdf {t : Int} (h : 0 ≤ t) (h' : t ≤ 1000) : Int.tmod (wrap64 (Int.tdiv t 4)) 6 = t / 4 % 6 := by
  have e : Int.tdiv t 4 = t / 4 := Int.tdiv_eq_ediv_of_nonneg h
  rw [e, w64 (by omega) (by omega), Int.tmod_eq_emod_of_nonneg (by omega)]
theorem tmod4' {t : Int} (h : 0 ≤ t) : Int.tmod t 4 = ((t % 4).toNat : Int) := by
  rw [Int.tmod_eq_emod_of_nonneg h]
  omega
theorem specTilt_l (n : Nat) (hn : n ≤ 1048576) : ∀ p : Int × Int × Int, Ev (fun k => spec_l09Turn.l1 k (n : Int) p.1 p.2.1 p.2.2) (rotX n p) := by
  induction n with
  | zero =>
    intro p
    refine Ev.succ ?_
    simp only [spec_l09Turn.l1]
    exact Ev.neg (by simp) (Ev.now _)
  | succ n ih =>
    intro p
    refine Ev.succ ?_
    simp only [spec_l09Turn.l1]
    have e1 : wrap64 (((n + 1 : Nat) : Int) - 1) = (n : Int) := by rw [w64 (by omega) (by omega)]; omega
    refine Ev.pos (by omega) ?_
    simp only [e1]
    exact ih (by omega) (p.1, wrap64 (-p.2.2), p.2.1)
theorem specTurnQ_l (t : Int) (h0 : 0 ≤ t) (h1 : t ≤ 1000) (n : Nat) (hn : n ≤ 1048576) : ∀ p : Int × Int × Int, Ev (fun k => spec_l09Turn.l0 k t (n : Int) p.1 p.2.1 p.2.2) (tiltQ (t / 4 % 6) (rotZ n p)) := by
  induction n with
  | zero =>
    intro p
    refine Ev.succ ?_
    simp only [spec_l09Turn.l0, tdf h0 h1]
    refine Ev.neg (by simp) ?_
    unfold tiltQ rotZ
    by_cases h4 : t / 4 % 6 = 4
    · rw [if_neg (by omega), if_neg (by omega)]
      exact Ev.pos h4 (Ev.now _)
    · by_cases h5 : t / 4 % 6 = 5
      · rw [if_neg (by omega), if_pos h5]
        exact Ev.neg h4 (Ev.pos h5 (Ev.now _))
      · rw [if_pos (by omega)]
        refine Ev.neg h4 (Ev.neg h5 ?_)
        have := specTilt_l (t / 4 % 6).toNat (by omega) p
        rw [Int.toNat_of_nonneg (by omega)] at this
        exact this
  | succ n ih =>
    intro p
    refine Ev.succ ?_
    simp only [spec_l09Turn.l0]
    have e1 : wrap64 (((n + 1 : Nat) : Int) - 1) = (n : Int) := by rw [w64 (by omega) (by omega)]; omega
    refine Ev.pos (by omega) ?_
    simp only [e1]
    exact ih (by omega) (wrap64 (-p.2.1), p.1, p.2.2)
theorem specTurnQ_ev (c : Cube) (t : Int) (h0 : 0 ≤ t) (h1 : t ≤ 1000) : Ev (fun k => spec_l09Turn.f k c.f0 c.f1 c.f2 t) (turnQ c t) := by
  unfold spec_l09Turn.f turnQ
  have := specTurnQ_l t h0 h1 (t % 4).toNat (by omega)
  by_cases h4 : t ≥ 24
  · rw [if_pos h4]
    refine Ev.pos h4 (Ev.step (fun k => spec_l09Turn.j0.eq_2 _ _ _ _ _) ?_)
    simp only [tmod4' h0]
    exact this (wrap64 (-c.f0), c.f1, c.f2)
  · rw [if_neg h4]
    refine Ev.neg h4 (Ev.step (fun k => spec_l09Turn.j0.eq_2 _ _ _ _ _) ?_)
    simp only [tmod4' h0]
    exact this (c.f0, c.f1, c.f2)
theorem implTilt_l (m : Nat) (hm : m ≤ 1048576) (n : Nat) : ∀ (i : Nat) (p : Int × Int × Int), i + n = m → Ev (fun k => impl_turnCube.l1 k (m : Int) (i : Int) p.1 p.2.1 p.2.2) (rotX n p) := by
  induction n with
  | zero =>
    intro i p hi
    refine Ev.succ ?_
    simp only [impl_turnCube.l1]
    exact Ev.neg (by omega) (Ev.now _)
  | succ n ih =>
    intro i p hi
    refine Ev.succ ?_
    simp only [impl_turnCube.l1]
    have e1 : wrap64 ((i : Int) + 1) = ((i + 1 : Nat) : Int) := by rw [w64 (by omega) (by omega)]; omega
    refine Ev.pos (by omega) ?_
    simp only [e1]
    exact ih (i + 1) (p.1, wrap64 (-p.2.2), p.2.1) (by omega)
theorem implFlip1 (p : Int × Int × Int) : Ev (fun k => impl_turnCube.j3 k 1 p.1 p.2.1 p.2.2) (p.2.2, p.2.1, wrap64 (-p.1)) := by
  refine Ev.step (fun k => impl_turnCube.j3.eq_2 _ _ _ _ _) (Ev.succ ?_)
  simp only [impl_turnCube.l2]
  refine Ev.pos (by decide) (Ev.succ ?_)
  simp only [impl_turnCube.l2]
  exact Ev.neg (by unfold wrap64; omega) (Ev.now _)
theorem implFlip3 (p : Int × Int × Int) (h : inr p) : Ev (fun k => impl_turnCube.j3 k 3 p.1 p.2.1 p.2.2) (wrap64 (-p.2.2), p.2.1, p.1) := by
  refine Ev.step (fun k => impl_turnCube.j3.eq_2 _ _ _ _ _) (Ev.succ ?_)
  simp only [impl_turnCube.l2]
  refine Ev.pos (by decide) (Ev.succ ?_)
  simp only [impl_turnCube.l2]
  refine Ev.pos (by unfold wrap64; omega) (Ev.succ ?_)
  simp only [impl_turnCube.l2]
  refine Ev.pos (by unfold wrap64; omega) (Ev.succ ?_)
  simp only [impl_turnCube.l2]
  refine Ev.neg (by unfold wrap64; omega) (Ev.of_eq (Ev.now _) ?_)
  rw [wneg2 h.1.1 h.1.2]
theorem implTurnQ_l (t : Int) (h0 : 0 ≤ t) (h1 : t ≤ 1000) (m : Nat) (hm : m ≤ 1048576) (n : Nat) : ∀ (i : Nat) (p : Int × Int × Int), i + n = m → inr p → Ev (fun k => impl_turnCube.l0 k t (m : Int) (i : Int) p.1 p.2.1 p.2.2) (tiltQ (t / 4 % 6) (rotZ n p)) := by
  induction n with
  | zero =>
    intro i p hi hp
    refine Ev.succ ?_
    simp only [impl_turnCube.l0, tdf h0 h1]
    refine Ev.neg (by omega) ?_
    unfold tiltQ rotZ
    by_cases h4 : t / 4 % 6 < 4
    · rw [if_pos h4]
      refine Ev.pos h4 ?_
      have := implTilt_l (t / 4 % 6).toNat (by omega) (t / 4 % 6).toNat 0 p (by omega)
      rw [Int.toNat_of_nonneg (by omega)] at this
      exact this
    · rw [if_neg h4]
      refine Ev.neg h4 ?_
      by_cases h5 : t / 4 % 6 = 5
      · rw [if_pos h5]
        exact Ev.pos h5 (implFlip3 p hp)
      · rw [if_neg h5]
        exact Ev.neg h5 (implFlip1 p)
  | succ n ih =>
    intro i p hi hp
    refine Ev.succ ?_
    simp only [impl_turnCube.l0]
    have e1 : wrap64 ((i : Int) + 1) = ((i + 1 : Nat) : Int) := by rw [w64 (by omega) (by omega)]; omega
    refine Ev.pos (by omega) ?_
    simp only [e1]
    exact ih (i + 1) (wrap64 (-p.2.1), p.1, p.2.2) (by omega) ⟨w64_rng _, hp.1⟩
theorem implTurnQ_ev (c : Cube) (t : Int) (h0 : 0 ≤ t) (h1 : t ≤ 1000) (hc : okQ c) : Ev (fun k => impl_turnCube.f k c.f0 c.f1 c.f2 t) (turnQ c t) := by
  unfold impl_turnCube.f turnQ
  have := implTurnQ_l t h0 h1 (t % 4).toNat (by omega) (t % 4).toNat 0
  obtain ⟨c0, c1, c2⟩ := hc
  unfold ok1 at c0 c1 c2
  by_cases h4 : t ≥ 24
  · rw [if_pos h4]
    refine Ev.pos h4 (Ev.step (fun k => impl_turnCube.j0.eq_2 _ _ _ _ _) ?_)
    simp only [tmod4' h0]
    exact this (wrap64 (-c.f0), c.f1, c.f2) (by omega) ⟨w64_rng _, (by show -9223372036854775808 ≤ c.f1; omega), (by show c.f1 ≤ 9223372036854775807; omega)⟩
  · rw [if_neg h4]
    refine Ev.neg h4 (Ev.step (fun k => impl_turnCube.j0.eq_2 _ _ _ _ _) ?_)
    simp only [tmod4' h0]
    exact this (c.f0, c.f1, c.f2) (by omega) ⟨⟨(by show -9223372036854775808 ≤ c.f0; omega), (by show c.f0 ≤ 9223372036854775807; omega)⟩, (by show -9223372036854775808 ≤ c.f1; omega), (by show c.f1 ≤ 9223372036854775807; omega)⟩
def formQ (l : List Cube) (t : Int) : List Cube := normalQ (sortC (l.map (turnE t)))
theorem formQ_len (l : List Cube) (t : Int) : (formQ l t).length = l.length := by unfold formQ; rw [normalQ_len, sortQ_len]; simp
theorem specFormQ_ev (l : List Cube) (t : Int) (h0 : 0 ≤ t) (h1 : t ≤ 1000) (hl : l.length ≤ 1048576) (hp : 0 < l.length) : Ev (fun k => spec_l09Form.f k l t) (formQ l t) := by
  have hs : small l := by unfold small; omega
  unfold spec_l09Form.f formQ
  have := loop_list l (fun k i (s : List Cube) => spec_l09Form.l0 k l t s i) (fun pre suf s => normalQ (sortC (s ++ suf.map (turnE t)))) (fun pre s => s.length = pre.length) ?_ ?_ [] rfl
  · simpa using this
  · intro s hi
    have hi' : s.length = l.length := hi
    simp only [spec_l09Form.l0, len_lt, if_false]
    exact Ev.bind (specSortQ_ev s (by omega)) (Ev.bind (specNormalQ_ev _ (by rw [sortQ_len]; omega) (by rw [sortQ_len]; omega)) (Ev.of_eq (Ev.now _) (by simp)))
  · intro pre c suf s hx hi ih
    have hp := pre_len hx
    simp only [spec_l09Form.l0, pre_lt hx, pre_0, if_true, at_preQ hx, pre_w hx hs]
    refine Ev.bind (specTurnQ_ev c t h0 h1) (Ev.pos (by omega) (Ev.of_eq (ih (s ++ [turnE t c]) (by simp [hi])) (by simp)))
theorem implFormQ_ev (l : List Cube) (t : Int) (h0 : 0 ≤ t) (h1 : t ≤ 1000) (hl : l.length ≤ 1048576) (hp : 0 < l.length) (ho : ∀ c ∈ l, okQ c) : Ev (fun k => impl_cubeForm.f k l t) (formQ l t) := by
  have hs : small l := by unfold small; omega
  unfold impl_cubeForm.f formQ
  refine Ev.pos (by omega) (Ev.pos (by omega) ?_)
  have := loop_list l (fun k i (s : List Cube) => impl_cubeForm.l0 k t s l (l.length : Int) i) (fun pre suf s => normalQ (sortC (s ++ suf.map (turnE t)))) (fun pre s => s.length = pre.length) ?_ ?_ [] rfl
  · simpa using this
  · intro s hi
    have hi' : s.length = l.length := hi
    simp only [impl_cubeForm.l0, len_lt, if_false, implSortQ_eq s (by omega) (by omega), Option.bind_some]
    exact Ev.bind (implNormalQ_ev _ (by rw [sortQ_len]; omega) (by rw [sortQ_len]; omega)) (Ev.of_eq (Ev.now _) (by simp))
  · intro pre c suf s hx hi ih
    have hp := pre_len hx
    simp only [impl_cubeForm.l0, pre_lt hx, pre_0, if_true, at_preQ hx, pre_w hx hs]
    refine Ev.bind (implTurnQ_ev c t h0 h1 (ho c (by rw [hx]; simp))) (Ev.pos (by omega) (Ev.of_eq (ih (s ++ [turnE t c]) (by simp [hi])) (by simp)))
instance decEqCube : DecidableEq Cube := fun a b => decidable_of_iff (a.f0 = b.f0 ∧ a.f1 = b.f1 ∧ a.f2 = b.f2) (by cases a; cases b; simp)
def cmpLQ : List Cube → List Cube → Int
  | [], _ => 0
  | _ :: _, [] => 0
  | a :: r, b :: s => if ltQ a b then -1 else if ltQ b a then 1 else cmpLQ r s
def cmpSQ (a b : List Cube) : Int := if a.length = b.length then cmpLQ a b else if a.length < b.length then -1 else 1
theorem cmpLQ_zero : ∀ (a b : List Cube), a.length = b.length → (cmpLQ a b = 0 ↔ a = b)
  | [], b, h => by
    have : b = [] := List.length_eq_zero_iff.1 h.symm
    simp [cmpLQ, this]
  | a :: r, [], h => by simp at h
  | a :: r, b :: s, h => by
    unfold cmpLQ
    by_cases h1 : ltQ a b
    · rw [if_pos h1]
      have : a ≠ b := fun e => ltQ_irrefl b (e ▸ h1)
      simp [this]
    · rw [if_neg h1]
      by_cases h2 : ltQ b a
      · rw [if_pos h2]
        have : a ≠ b := fun e => ltQ_irrefl b (e ▸ h2)
        simp [this]
      · rw [if_neg h2, cmpLQ_zero r s (by simpa using h)]
        simp [ltQ_total h1 h2]
theorem cmpSQ_zero (a b : List Cube) : cmpSQ a b = 0 ↔ a = b := by
  unfold cmpSQ
  by_cases h : a.length = b.length
  · rw [if_pos h]; exact cmpLQ_zero a b h
  · rw [if_neg h]
    have : a ≠ b := fun e => h (by rw [e])
    split <;> simp [this]
theorem rdQ (b : List Cube) (i : Nat) (h : i < b.length) : rd_T43 b (i : Int) = b[i] := by
  unfold rd_T43
  rw [List.getD_eq_getElem?_getD, Int.toNat_natCast, List.getElem?_eq_getElem h]
  rfl
theorem specCompareQ_ev (a b : List Cube) (ha : small a) : Ev (fun k => spec_l09Compare.f k a b) (cmpSQ a b) := by
  unfold spec_l09Compare.f cmpSQ
  by_cases hl : a.length = b.length
  · rw [if_pos hl]
    refine Ev.pos (by omega) ?_
    refine loop_list a (fun k i (_ : Unit) => spec_l09Compare.l0 k a b i) (fun pre suf _ => cmpLQ suf (b.drop pre.length)) (fun _ _ => True) ?_ ?_ () trivial
    · intro _ _
      simp only [spec_l09Compare.l0, len_lt, if_false]
      exact Ev.of_eq (Ev.now _) (by simp [cmpLQ])
    · intro pre c suf _ hx _ ih
      have hp := pre_len hx
      have hpb : pre.length < b.length := by omega
      have hlt : ((pre.length : Int) < (b.length : Int)) = True := by simp; omega
      have eb := rdQ b pre.length hpb
      have e1 := less9_eq c b[pre.length]
      have e2 := less9_eq b[pre.length] c
      simp only [spec_l09Compare.l0, pre_lt hx, pre_0, if_true, hlt, at_preQ hx, pre_w hx ha, eb]
      rw [List.drop_eq_getElem_cons hpb, cmpLQ]
      have hih := ih () trivial
      rw [List.length_append, List.length_singleton] at hih
      rw [e1, e2]
      generalize b.drop (pre.length + 1) = R at hih ⊢
      generalize b[pre.length] = d at hih ⊢
      simp only [Option.bind_some, decide_eq_true_eq]
      by_cases h1 : ltQ c d
      · rw [if_pos h1]
        exact Ev.pos h1 (Ev.now _)
      · rw [if_neg h1]
        refine Ev.neg h1 ?_
        by_cases h2 : ltQ d c
        · rw [if_pos h2]
          exact Ev.pos h2 (Ev.now _)
        · rw [if_neg h2]
          exact Ev.neg h2 hih
  · rw [if_neg hl]
    refine Ev.neg (by omega) ?_
    by_cases h : a.length < b.length
    · rw [if_pos h]; exact Ev.pos (by omega) (Ev.now _)
    · rw [if_neg h]; exact Ev.neg (by omega) (Ev.now _)
end Go.Proofs.Ytlompfboheiliaa.L
end
section
namespace Go.Proofs.Ytlompfboheiliaa.L
open Go.RowKit Go.Proofs.YtlompfboheiliaaW.PrintWords Go.Proofs.YtlompfboheiliaaW.PrintLast Go.Proofs.YtlompfboheiliaaW.PrintMore Go.Proofs.Ytlompfboheiliaa.F
set_option linter.unusedVariables false
set_option linter.unusedSimpArgs false
def cmpJ (a b : Int) : Int := if a < b then -1 else if a > b then 1 else 0
theorem cmpJ_zero {a b : Int} : cmpJ a b = 0 ↔ a = b := by
  unfold cmpJ
  split
  · constructor <;> intro h <;> omega
  · split
    · constructor <;> intro h <;> omega
    · constructor <;> intro h <;> omega
theorem compareInt_eq (a b : Int) : cmp_Compare_int.f a b = some (cmpJ a b) := by
  unfold cmp_Compare_int.f cmp_isNaN_int.f cmpJ
  simp only [bne_self_eq_false, Option.bind_some, Bool.false_eq_true, if_false]
  split
  · rfl
  · split <;> rfl
theorem implCompareQ_ev (a b : List Cube) (ha : small a) : Ev (fun k => impl_compareSolids.f k a b) (cmpSQ a b) := by
  unfold impl_compareSolids.f cmpSQ
  rw [compareInt_eq]
  simp only [Option.bind_some]
  by_cases hl : a.length = b.length
  · rw [if_pos hl]
    refine Ev.pos (cmpJ_zero.2 (by omega)) (Ev.bind ?_ (Ev.now _))
    unfold impl_Cube_59__impl_compareCubes.f
    refine loop_list a (fun k i (_ : Unit) => impl_Cube_59__impl_compareCubes.l0 k a b a (a.length : Int) i) (fun pre suf _ => cmpLQ suf (b.drop pre.length)) (fun _ _ => True) ?_ ?_ () trivial
    · intro _ _
      simp only [impl_Cube_59__impl_compareCubes.l0, len_lt, if_false]
      exact Ev.neg (by omega) (Ev.of_eq (Ev.now _) (by simp [cmpLQ]))
    · intro pre c suf _ hx _ ih
      have hp := pre_len hx
      have hpb : pre.length < b.length := by omega
      have eb := rdQ b pre.length hpb
      have e1 := cmpV_eq c b[pre.length]
      simp only [impl_Cube_59__impl_compareCubes.l0, pre_lt hx, pre_0, if_true, at_preQ hx, pre_w hx ha, eb]
      refine Ev.neg (by omega) (Ev.pos (by omega) ?_)
      rw [e1]
      rw [List.drop_eq_getElem_cons hpb, cmpLQ]
      have hih := ih () trivial
      rw [List.length_append, List.length_singleton] at hih
      generalize b.drop (pre.length + 1) = R at hih ⊢
      generalize b[pre.length] = d at hih ⊢
      simp only [Option.bind_some]
      have hv := cmpV_val c d
      by_cases h1 : ltQ c d
      · rw [if_pos h1] at hv ⊢
        exact Ev.neg (by omega) (Ev.of_eq (Ev.now _) hv)
      · rw [if_neg h1] at hv ⊢
        by_cases h2 : ltQ d c
        · rw [if_pos h2] at hv ⊢
          exact Ev.neg (by omega) (Ev.of_eq (Ev.now _) hv)
        · rw [if_neg h2] at hv ⊢
          exact Ev.pos hv hih
  · rw [if_neg hl]
    refine Ev.neg (fun h => hl (by have := cmpJ_zero.1 h; omega)) (Ev.of_eq (Ev.now _) ?_)
    unfold cmpJ
    by_cases h : a.length < b.length
    · rw [if_pos h, if_pos (by omega)]
    · rw [if_neg h, if_neg (by omega), if_pos (by omega)]
def lessQ (l : List Cube) : Nat → Int → List Cube → List Cube
  | 0, _, b => b
  | n + 1, t, b => lessQ l n (t + 1) (if cmpSQ (formQ l t) b < 0 then formQ l t else b)
def leastForm (l : List Cube) (n : Nat) : List Cube := lessQ l (n - 1) 1 (formQ l 0)
theorem lessQ_len (l : List Cube) (m : Nat) (hm : l.length ≤ m) : ∀ (n : Nat) (t : Int) (b : List Cube), b.length ≤ m → (lessQ l n t b).length ≤ m
  | 0, _, _, h => h
  | n + 1, t, b, h => by
    unfold lessQ
    refine lessQ_len l m hm n _ _ ?_
    split
    · rw [formQ_len]; exact hm
    · exact h
theorem leastForm_len (l : List Cube) (n : Nat) : (leastForm l n).length ≤ l.length := lessQ_len l l.length (Nat.le_refl _) _ _ _ (by rw [formQ_len]; exact Nat.le_refl _)
theorem specLessQ_l (l : List Cube) (m : Int) (hm : m ≤ 1000) (hl : l.length ≤ 1048576) (hp : 0 < l.length) : ∀ (n : Nat) (t : Int) (b : List Cube), 0 ≤ t → t + (n : Int) = m → Ev (fun k => spec_l09Least.l0 k l m b t) (lessQ l n t b)
  | 0, t, b, h0, h1 => by
    refine Ev.succ ?_
    simp only [spec_l09Least.l0]
    exact Ev.neg (by omega) (Ev.now _)
  | n + 1, t, b, h0, h1 => by
    refine Ev.succ ?_
    simp only [spec_l09Least.l0]
    have ew : wrap64 (t + 1) = t + 1 := w64 (by omega) (by omega)
    have hf : small (formQ l t) := by unfold small; rw [formQ_len]; omega
    refine Ev.pos (by omega) (Ev.bind (specFormQ_ev l t h0 (by omega) hl hp) (Ev.bind (specCompareQ_ev _ b hf) ?_))
    simp only [ew]
    unfold lessQ
    by_cases h : cmpSQ (formQ l t) b < 0
    · rw [if_pos h]; exact Ev.pos h (specLessQ_l l m hm hl hp n (t + 1) _ (by omega) (by omega))
    · rw [if_neg h]; exact Ev.neg h (specLessQ_l l m hm hl hp n (t + 1) _ (by omega) (by omega))
theorem specLeastQ_ev (l : List Cube) (n : Nat) (h1 : 1 ≤ n) (hn : n ≤ 1000) (hl : l.length ≤ 1048576) (hp : 0 < l.length) : Ev (fun k => spec_l09Least.f k l (n : Int)) (leastForm l n) := by
  unfold spec_l09Least.f leastForm
  exact Ev.bind (specFormQ_ev l 0 (by omega) (by omega) hl hp) (specLessQ_l l n (by omega) hl hp (n - 1) 1 _ (by omega) (by omega))
end Go.Proofs.Ytlompfboheiliaa.L
end
