/- The row of FnExactFormsOfPiece, with what it needs: text 9 of 11. -/
import Derived.Test.YtfdfdifjkaaeoaaKFO7
import Derived.ChangeArms
import Derived.ChangeSame
import Derived.Deep.Fields
import Derived.Deep.Slices
import Derived.Deep.Strs
import Derived.WideShapes
set_option maxHeartbeats 8000000
set_option maxRecDepth 100000
section
namespace Go.Proofs.Ytfdfdifjkaaeoaa.F
open Go.RowKit Go.Proofs.YtfdfdifjkaaeoaaW.PrintWords Go.Proofs.YtfdfdifjkaaeoaaW.PrintLast Go.Proofs.YtfdfdifjkaaeoaaW.PrintMore
attribute [local go_sem] max2_int min2_int max_two min_two max_three min_three max_four min_four
set_option linter.unusedVariables false
set_option linter.unusedSimpArgs false
theorem laws_FnExactFormsOfPiece.calls (k : Nat) (A0_0 : Option Addr) (c0_0 : Nat) (l0_0 : List (S72)) (a0_1 : Int) (a0_2 : Bool) (r : Bool) (w : World) (hr0_0 : Kd.C k72 w A0_0 l0_0.length l0_0) (hc0_0 : l0_0.length ≤ c0_0) (h : laws_FnExactFormsOfPiece.f k l0_0 a0_1 a0_2 = some r) :
  Calls Try.prog 8 #[.agg #[.slice A0_0 l0_0.length c0_0, .int .i64 a0_1, .bool a0_2]] w fun e w' => e = .returned (.bool r) ∧ Below w.heap.size w w' := by
 have hu47 := Try.underlying47
 have hu51 := Try.underlying51
 have HR0_0 := aM hr0_0
 have HC0_0 := aM hc0_0
 clear hr0_0 hc0_0
 have HB := aM (Below.refl w.heap.size w)
 have H : ((laws_szPiece.f l0_0 a0_1 a0_2 1048576).bind fun t1210 => (if t1210 < 0 then (some true) else ((laws_toPiece.f k l0_0 a0_1 a0_2).bind fun bt1211 => ((spec_FormsOfPiece.f k bt1211.1 bt1211.2.1 bt1211.2.2).bind fun bt1216 => ((laws_toPiece.f k l0_0 a0_1 a0_2).bind fun bt1220 => ((impl_FormsOfPiece.f k bt1220.1 bt1220.2.1 bt1220.2.2).bind fun bt1226 => ((laws_eqCellSS.f k bt1226.1 bt1216.1).bind fun t1230 => (if t1230 = true then (laws_FnExactFormsOfPiece.j0 k bt1216.1 bt1216.2 bt1226.1 bt1226.2 (bt1226.2 != bt1216.2) l0_0 a0_1 a0_2 bt1220.1 bt1220.2.1 bt1220.2.2) else (laws_FnExactFormsOfPiece.j0 k bt1216.1 bt1216.2 bt1226.1 bt1226.2 true l0_0 a0_1 a0_2 bt1220.1 bt1220.2.1 bt1220.2.2))))))))) = some r := h
 clear h
 replace H := Option.bind_eq_some_iff.mp H
 obtain ⟨t1210, A20, H⟩ := H
 replace H : (if t1210 < 0 then (some true) else ((laws_toPiece.f k l0_0 a0_1 a0_2).bind fun bt1211 => ((spec_FormsOfPiece.f k bt1211.1 bt1211.2.1 bt1211.2.2).bind fun bt1216 => ((laws_toPiece.f k l0_0 a0_1 a0_2).bind fun bt1220 => ((impl_FormsOfPiece.f k bt1220.1 bt1220.2.1 bt1220.2.2).bind fun bt1226 => ((laws_eqCellSS.f k bt1226.1 bt1216.1).bind fun t1230 => (if t1230 = true then (laws_FnExactFormsOfPiece.j0 k bt1216.1 bt1216.2 bt1226.1 bt1226.2 (bt1226.2 != bt1216.2) l0_0 a0_1 a0_2 bt1220.1 bt1220.2.1 bt1220.2.2) else (laws_FnExactFormsOfPiece.j0 k bt1216.1 bt1216.2 bt1226.1 bt1226.2 true l0_0 a0_1 a0_2 bt1220.1 bt1220.2.1 bt1220.2.2)))))))) = some r := H
 have A2 := aM A20
 clear A20
 by_cases c3 : t1210 < 0
 ·rw [if_pos c3] at H
  have c3b0 : decide (t1210 < 0) = true := decide_eq_true c3
  clear c3
  obtain rfl := Option.some.inj H
  go_enter Try.func8, Try.ntmps8
  go_wp2_with (first | ((with_reducible refine gate_dst (N := 1) rfl ?_); refine zx 1 #[.slice A0_0 l0_0.length c0_0, .int .i64 a0_1, .bool a0_2] 47 ?_; intro gb1209 hg w4 hbox hb; have n0_ := aM (below_step zb hb); have n1_ := aM (hbox); have n2_ := aM ((ze : w.heap.size ≤ gb1209)); have n3_ := aM ((ze : w.heap.size ≤ gb1209)); clear HB; have HB := n0_; have BK1209 := n1_; have GW1209 := n2_; have GE1209 := n3_; clear n0_ n1_ n2_ n3_ hb hbox hg; have hcz5_0 : w4.cell? ⟨gb1209, 0, none⟩ = some (.slice A0_0 l0_0.length c0_0) := (blk_cell BK1209.out 0).trans rfl; have hcz5_1 : w4.cell? ⟨gb1209, 1, none⟩ = some (.int .i64 a0_1) := (blk_cell BK1209.out 1).trans rfl; have hcz5_2 : w4.cell? ⟨gb1209, 2, none⟩ = some (.bool a0_2) := (blk_cell BK1209.out 2).trans rfl; have hfz5_0 := blk_frozen BK1209.out 0; have hfz5_1 := blk_frozen BK1209.out 1; have hfz5_2 := blk_frozen BK1209.out 2) | ((with_reducible refine gate_callee (f := 32) rfl ?_); refine goesL_ (some 16) rfl rfl Try.func32 (by kernel_rfl) rfl #[.agg #[.slice A0_0 l0_0.length c0_0, .int .i64 a0_1, .bool a0_2], .int .i64 1048576] rfl zm ?_; (with_reducible refine (laws_szPiece.calls _ _ l0_0 a0_1 a0_2 1048576 t1210 _ ?side1 ?side2 A2.out).mono ?_); (case side1 => repeat (first | exact (Kd.C_below HR0_0.out HB.out) | (with_reducible refine Kd.C_alloc ?_ _) | (with_reducible refine Kd.C_drewN ?_ _) | (with_reducible refine Kd.C_drew ?_))); (case side2 => exact HC0_0.out); rintro e w6 ⟨rfl, hb⟩; refine ⟨_, rfl, ?_⟩; have n0_ := aM (blk_below (g := gb1209) (o := .cells #[.slice A0_0 l0_0.length c0_0, .int .i64 a0_1, .bool a0_2] 47 (0, 0)) (mB_ BK1209.out) hb); have n1_ := aM (below_step (zs GE1209.out) hb); clear BK1209 HB; have BK1209 := n0_; have HB := n1_; clear n0_ n1_; (try clear hb); (try clear hb2); (try clear hk); (try clear hi)))
  go_ret
  exact ⟨zw, zs GE1209.out⟩
 rw [if_neg c3] at H
 have c3b0 : decide (t1210 < 0) = false := decide_eq_false c3
 clear c3
 replace H := Option.bind_eq_some_iff.mp H
 obtain ⟨⟨t1211, t1214, t1215⟩, A70, H⟩ := H
 replace H : ((spec_FormsOfPiece.f k t1211 t1214 t1215).bind fun bt1216 => ((laws_toPiece.f k l0_0 a0_1 a0_2).bind fun bt1220 => ((impl_FormsOfPiece.f k bt1220.1 bt1220.2.1 bt1220.2.2).bind fun bt1226 => ((laws_eqCellSS.f k bt1226.1 bt1216.1).bind fun t1230 => (if t1230 = true then (laws_FnExactFormsOfPiece.j0 k bt1216.1 bt1216.2 bt1226.1 bt1226.2 (bt1226.2 != bt1216.2) l0_0 a0_1 a0_2 bt1220.1 bt1220.2.1 bt1220.2.2) else (laws_FnExactFormsOfPiece.j0 k bt1216.1 bt1216.2 bt1226.1 bt1226.2 true l0_0 a0_1 a0_2 bt1220.1 bt1220.2.1 bt1220.2.2)))))) = some r := H
 have A7 := aM A70
 clear A70
 replace H := Option.bind_eq_some_iff.mp H
 obtain ⟨⟨t1216, t1219⟩, A80, H⟩ := H
 replace H : ((laws_toPiece.f k l0_0 a0_1 a0_2).bind fun bt1220 => ((impl_FormsOfPiece.f k bt1220.1 bt1220.2.1 bt1220.2.2).bind fun bt1226 => ((laws_eqCellSS.f k bt1226.1 t1216).bind fun t1230 => (if t1230 = true then (laws_FnExactFormsOfPiece.j0 k t1216 t1219 bt1226.1 bt1226.2 (bt1226.2 != t1219) l0_0 a0_1 a0_2 bt1220.1 bt1220.2.1 bt1220.2.2) else (laws_FnExactFormsOfPiece.j0 k t1216 t1219 bt1226.1 bt1226.2 true l0_0 a0_1 a0_2 bt1220.1 bt1220.2.1 bt1220.2.2))))) = some r := H
 have A8 := aM A80
 clear A80
 replace H := Option.bind_eq_some_iff.mp H
 obtain ⟨⟨t1220, t1223, t1224⟩, A90, H⟩ := H
 replace H : ((impl_FormsOfPiece.f k t1220 t1223 t1224).bind fun bt1226 => ((laws_eqCellSS.f k bt1226.1 t1216).bind fun t1230 => (if t1230 = true then (laws_FnExactFormsOfPiece.j0 k t1216 t1219 bt1226.1 bt1226.2 (bt1226.2 != t1219) l0_0 a0_1 a0_2 t1220 t1223 t1224) else (laws_FnExactFormsOfPiece.j0 k t1216 t1219 bt1226.1 bt1226.2 true l0_0 a0_1 a0_2 t1220 t1223 t1224)))) = some r := H
 have A9 := aM A90
 clear A90
 replace H := Option.bind_eq_some_iff.mp H
 obtain ⟨⟨t1226, t1229⟩, A100, H⟩ := H
 replace H : ((laws_eqCellSS.f k t1226 t1216).bind fun t1230 => (if t1230 = true then (laws_FnExactFormsOfPiece.j0 k t1216 t1219 t1226 t1229 (t1229 != t1219) l0_0 a0_1 a0_2 t1220 t1223 t1224) else (laws_FnExactFormsOfPiece.j0 k t1216 t1219 t1226 t1229 true l0_0 a0_1 a0_2 t1220 t1223 t1224))) = some r := H
 have A10 := aM A100
 clear A100
 have HC11 := aM H
 clear H
 go_enter Try.func8, Try.ntmps8
 go_upto_region 8 with (first | ((with_reducible refine gate_dst (N := 1) rfl ?_); refine zx 1 #[.slice A0_0 l0_0.length c0_0, .int .i64 a0_1, .bool a0_2] 47 ?_; intro gb1209 hg w12 hbox hb; have n0_ := aM (below_step zb hb); have n1_ := aM (hbox); have n2_ := aM ((ze : w.heap.size ≤ gb1209)); have n3_ := aM ((ze : w.heap.size ≤ gb1209)); clear HB; have HB := n0_; have BK1209 := n1_; have GW1209 := n2_; have GE1209 := n3_; clear n0_ n1_ n2_ n3_ hb hbox hg; have hcz13_0 : w12.cell? ⟨gb1209, 0, none⟩ = some (.slice A0_0 l0_0.length c0_0) := (blk_cell BK1209.out 0).trans rfl; have hcz13_1 : w12.cell? ⟨gb1209, 1, none⟩ = some (.int .i64 a0_1) := (blk_cell BK1209.out 1).trans rfl; have hcz13_2 : w12.cell? ⟨gb1209, 2, none⟩ = some (.bool a0_2) := (blk_cell BK1209.out 2).trans rfl; have hfz13_0 := blk_frozen BK1209.out 0; have hfz13_1 := blk_frozen BK1209.out 1; have hfz13_2 := blk_frozen BK1209.out 2) | ((with_reducible refine gate_callee (f := 32) rfl ?_); refine goesL_ (some 16) rfl rfl Try.func32 (by kernel_rfl) rfl #[.agg #[.slice A0_0 l0_0.length c0_0, .int .i64 a0_1, .bool a0_2], .int .i64 1048576] rfl zm ?_; (with_reducible refine (laws_szPiece.calls _ _ l0_0 a0_1 a0_2 1048576 t1210 _ ?side1 ?side2 A2.out).mono ?_); (case side1 => repeat (first | exact (Kd.C_below HR0_0.out HB.out) | (with_reducible refine Kd.C_alloc ?_ _) | (with_reducible refine Kd.C_drewN ?_ _) | (with_reducible refine Kd.C_drew ?_))); (case side2 => exact HC0_0.out); rintro e w14 ⟨rfl, hb⟩; refine ⟨_, rfl, ?_⟩; have n0_ := aM (blk_below (g := gb1209) (o := .cells #[.slice A0_0 l0_0.length c0_0, .int .i64 a0_1, .bool a0_2] 47 (0, 0)) (mB_ BK1209.out) hb); have n1_ := aM (below_step (zs GE1209.out) hb); clear BK1209 HB; have BK1209 := n0_; have HB := n1_; clear n0_ n1_; (try clear hb); (try clear hb2); (try clear hk); (try clear hi); have hcz15_0 : w14.cell? ⟨gb1209, 0, none⟩ = some (.slice A0_0 l0_0.length c0_0) := (blk_cell BK1209.out 0).trans rfl; have hcz15_1 : w14.cell? ⟨gb1209, 1, none⟩ = some (.int .i64 a0_1) := (blk_cell BK1209.out 1).trans rfl; have hcz15_2 : w14.cell? ⟨gb1209, 2, none⟩ = some (.bool a0_2) := (blk_cell BK1209.out 2).trans rfl; have hfz15_0 := blk_frozen BK1209.out 0; have hfz15_1 := blk_frozen BK1209.out 1; have hfz15_2 := blk_frozen BK1209.out 2) | ((with_reducible refine gate_callee (f := 34) rfl ?_); refine goesL_ (some 21) rfl rfl Try.func34 (by kernel_rfl) rfl #[.agg #[.slice A0_0 l0_0.length c0_0, .int .i64 a0_1, .bool a0_2]] rfl zm ?_; (with_reducible refine (laws_toPiece.calls k _ _ l0_0 a0_1 a0_2 t1211 t1214 t1215 _ ?side1 ?side2 A7.out).mono ?_); (case side1 => repeat (first | exact (Kd.C_below HR0_0.out HB.out) | (with_reducible refine Kd.C_alloc ?_ _) | (with_reducible refine Kd.C_drewN ?_ _) | (with_reducible refine Kd.C_drew ?_))); (case side2 => exact HC0_0.out); rintro e w16 ⟨v1212, rfl, ho0, hb⟩; refine ⟨_, rfl, ?_⟩; have n0_ := aM (Kd.R_lower ho0 (below_size (zs GE1209.out))); have n1_ := aM (blk_below (g := gb1209) (o := .cells #[.slice A0_0 l0_0.length c0_0, .int .i64 a0_1, .bool a0_2] 47 (0, 0)) (mB_ BK1209.out) hb); have n2_ := aM (below_step (zs GE1209.out) hb); clear BK1209 HB; have HO1213 := n0_; have BK1209 := n1_; have HB := n2_; clear n0_ n1_ n2_; (try clear hb); (try clear hb2); (try clear hk); (try clear hi); (try clear ho0); obtain ⟨Ao17, co17, eo17⟩ := Kd.R_slice HO1213.out; subst eo17) | ((with_reducible refine gate_callee (f := 47) rfl ?_); refine goesL_ (some 22) rfl rfl Try.func47 (by kernel_rfl) rfl #[.agg #[.slice Ao17 t1211.length co17, .int .i64 t1214, .bool t1215]] rfl zm ?_; (with_reducible refine (spec_FormsOfPiece.calls k _ _ t1211 t1214 t1215 t1216 t1219 _ ?side1 ?side2 A8.out).mono ?_); (case side1 => exact zc HO1213.out); (case side2 => exact (Kd.R_reads' HO1213.out).2.1); rintro e w18 ⟨v1217, rfl, ho0, hb⟩; refine ⟨_, rfl, ?_⟩; have n0_ := aM (Kd.R_below (mR_ HO1213.out) hb); have n1_ := aM (Kd.V_lower (Kd.V_mono (ok' := fun k_ => some k_ ≠ (.slice Ao17 t1211.length co17 : Value).ownBlock ∧ k_ ≠ gb1209) ho0 (fun k_ hk_ => ⟨(Kd.fresh' (Kd.R_lt (mR_ HO1213.out)) k_ hk_), (Kd.freshB (g := gb1209) (o := .cells #[.slice A0_0 l0_0.length c0_0, .int .i64 a0_1, .bool a0_2] 47 (0, 0)) (mB_ BK1209.out) k_ hk_)⟩)) (below_size (zs GE1209.out))); have n2_ := aM (blk_below (g := gb1209) (o := .cells #[.slice A0_0 l0_0.length c0_0, .int .i64 a0_1, .bool a0_2] 47 (0, 0)) (mB_ BK1209.out) hb); have n3_ := aM (below_step (zs GE1209.out) hb); clear HO1213 BK1209 HB; have HO1213 := n0_; have HO1218 := n1_; have BK1209 := n2_; have HB := n3_; clear n0_ n1_ n2_ n3_; (try clear hb); (try clear hb2); (try clear hk); (try clear hi); (try clear ho0); have hcz19_0 : w18.cell? ⟨gb1209, 0, none⟩ = some (.slice A0_0 l0_0.length c0_0) := (blk_cell BK1209.out 0).trans rfl; have hcz19_1 : w18.cell? ⟨gb1209, 1, none⟩ = some (.int .i64 a0_1) := (blk_cell BK1209.out 1).trans rfl; have hcz19_2 : w18.cell? ⟨gb1209, 2, none⟩ = some (.bool a0_2) := (blk_cell BK1209.out 2).trans rfl; have hfz19_0 := blk_frozen BK1209.out 0; have hfz19_1 := blk_frozen BK1209.out 1; have hfz19_2 := blk_frozen BK1209.out 2) | ((with_reducible refine gate_callee (f := 34) rfl ?_); refine goesL_ (some 26) rfl rfl Try.func34 (by kernel_rfl) rfl #[.agg #[.slice A0_0 l0_0.length c0_0, .int .i64 a0_1, .bool a0_2]] rfl zm ?_; (with_reducible refine (laws_toPiece.calls k _ _ l0_0 a0_1 a0_2 t1220 t1223 t1224 _ ?side1 ?side2 A9.out).mono ?_); (case side1 => repeat (first | exact (Kd.C_below HR0_0.out HB.out) | (with_reducible refine Kd.C_alloc ?_ _) | (with_reducible refine Kd.C_drewN ?_ _) | (with_reducible refine Kd.C_drew ?_))); (case side2 => exact HC0_0.out); rintro e w20 ⟨v1221, rfl, ho0, hb⟩; refine ⟨_, rfl, ?_⟩; have n0_ := aM (Kd.R_elder' (mR_ HO1213.out) (Kd.R_base ho0) hb); have n1_ := aM (Kd.V_elder' (mV_ HO1218.out) (Kd.R_base ho0) hb); have n2_ := aM (Kd.R_lower (Kd.R_new' ho0 (Kd.R_lt (mR_ HO1213.out))) (below_size (zs GE1209.out))); have n3_ := aM (blk_below (g := gb1209) (o := .cells #[.slice A0_0 l0_0.length c0_0, .int .i64 a0_1, .bool a0_2] 47 (0, 0)) (mB_ BK1209.out) hb); have n4_ := aM (below_step (zs GE1209.out) hb); clear HO1213 HO1218 BK1209 HB; have HO1213 := n0_; have HO1218 := n1_; have HO1222 := n2_; have BK1209 := n3_; have HB := n4_; clear n0_ n1_ n2_ n3_ n4_; (try clear hb); (try clear hb2); (try clear hk); (try clear hi); (try clear ho0)) | ((with_reducible refine gate_dst (N := 6) rfl ?_); refine zx 6 #[.slice none 0 0, .int .i64 0, .bool false] 51 ?_; intro gb1225 hg w21 hbox hb; have n0_ := aM (Kd.R_below (mR_ HO1213.out) hb); have n1_ := aM (Kd.V_below (Kd.V_elderB (mV_ HO1218.out) gb1225 (Nat.le_of_eq hg.symm)) hb); have n2_ := aM (Kd.R_below (mR_ HO1222.out) hb); have n3_ := aM (blk_below (g := gb1209) (o := .cells #[.slice A0_0 l0_0.length c0_0, .int .i64 a0_1, .bool a0_2] 47 (0, 0)) (mB_ BK1209.out) hb); have n4_ := aM (below_step (zs GE1209.out) hb); have n5_ := aM (hbox); have n6_ := aM ((zf GE1209.out : w.heap.size ≤ gb1225)); have n7_ := aM ((zf GE1209.out : w.heap.size ≤ gb1225)); have n8_ := aM ((zl BK1209.out : gb1209 ≠ gb1225)); have n9_ := aM ((zn BK1209.out : gb1225 ≠ gb1209)); clear HO1213 HO1218 HO1222 BK1209 HB; have HO1213 := n0_; have HO1218 := n1_; have HO1222 := n2_; have BK1209 := n3_; have HB := n4_; have BK1225 := n5_; have GW1225 := n6_; have GE1225 := n7_; have NB1209_1225 := n8_; have NB1225_1209 := n9_; clear n0_ n1_ n2_ n3_ n4_ n5_ n6_ n7_ n8_ n9_ hb hbox hg; obtain ⟨Ao22, co22, eo22⟩ := Kd.R_slice HO1222.out; subst eo22; have hnb23 := NB1225_1209.out; have hnc23 := NB1209_1225.out; have hcz24_0 : w21.cell? ⟨gb1225, 0, none⟩ = some (.slice none 0 0) := (blk_cell BK1225.out 0).trans rfl; have hcz24_1 : w21.cell? ⟨gb1225, 1, none⟩ = some (.int .i64 0) := (blk_cell BK1225.out 1).trans rfl; have hcz24_2 : w21.cell? ⟨gb1225, 2, none⟩ = some (.bool false) := (blk_cell BK1225.out 2).trans rfl; have hfz24_0 := blk_frozen BK1225.out 0; have hfz24_1 := blk_frozen BK1225.out 1; have hfz24_2 := blk_frozen BK1225.out 2) | ((with_reducible refine gate_callee (f := 48) rfl ?_); refine goesL_ (some 29) rfl rfl Try.func48 (by kernel_rfl) rfl #[.agg #[.slice Ao22 t1220.length co22, .int .i64 t1223, .bool t1224]] rfl zm ?_; (with_reducible refine (impl_FormsOfPiece.calls k _ _ t1220 t1223 t1224 t1226 t1229 _ ?side1 ?side2 A10.out).mono ?_); (case side1 => refine (Kd.R_reads' (e := 59) (base := w.heap.size) (ok := fun k_ => (True ∧ some k_ ≠ (.slice Ao17 t1211.length co17 : Value).ownBlock)) (n := t1220.length) (c := co22) ?_).2.2; exact (by (with_reducible repeat (first | apply Kd.R_alloc | apply Kd.R_drewN | apply Kd.R_drew)); exact (Kd.R_mono (Kd.R_far (p := ⟨gb1225, 2, none⟩) (Kd.R_far (p := ⟨gb1225, 1, none⟩) (Kd.R_far (p := ⟨gb1225, 0, none⟩) (Kd.R_types HO1222.out BK1225.out (by decide)) (fun _ hk => hk.2) (.slice Ao22 t1220.length co22)) (fun _ hk => hk.2) (.int .i64 t1223)) (fun _ hk => hk.2) (.bool t1224)) (fun _ h_ => h_.1)))); (case side2 => exact (Kd.R_reads' HO1222.out).2.1); rintro e w25 ⟨v1227, rfl, ho0, hb⟩; refine ⟨_, rfl, ?_⟩; obtain ⟨NZ_, nV_, nS_, nG1_, nG2_⟩ := V_part_ (by (with_reducible repeat (first | apply Kd.V_alloc | apply Kd.V_drewN | apply Kd.V_drew)); exact (Kd.V_mono (Kd.V_far (p := ⟨gb1225, 2, none⟩) (Kd.V_far (p := ⟨gb1225, 1, none⟩) (Kd.V_far (p := ⟨gb1225, 0, none⟩) (Kd.V_mono HO1218.out (fun k_ hk => (⟨hk, hk.2⟩ : _ ∧ k_ ≠ gb1225))) (fun _ hk => hk.2) (.slice Ao22 t1220.length co22)) (fun _ hk => hk.2) (.int .i64 t1223)) (fun _ hk => hk.2) (.bool t1224)) (fun _ h_ => h_.1))) (Kd.S_new' (Kd.S_new' ho0 (Kd.R_lt (by (with_reducible repeat (first | apply Kd.R_alloc | apply Kd.R_drewN | apply Kd.R_drew)); exact (Kd.R_mono (Kd.R_far (p := ⟨gb1225, 2, none⟩) (Kd.R_far (p := ⟨gb1225, 1, none⟩) (Kd.R_far (p := ⟨gb1225, 0, none⟩) (Kd.R_types HO1213.out BK1225.out (by decide)) (fun _ hk => hk.2) (.slice Ao22 t1220.length co22)) (fun _ hk => hk.2) (.int .i64 t1223)) (fun _ hk => hk.2) (.bool t1224)) (fun _ h_ => h_.1))))) (Kd.R_lt (by (with_reducible repeat (first | apply Kd.R_alloc | apply Kd.R_drewN | apply Kd.R_drew)); exact (Kd.R_mono (Kd.R_far (p := ⟨gb1225, 2, none⟩) (Kd.R_far (p := ⟨gb1225, 1, none⟩) (Kd.R_far (p := ⟨gb1225, 0, none⟩) (Kd.R_types HO1222.out BK1225.out (by decide)) (fun _ hk => hk.2) (.slice Ao22 t1220.length co22)) (fun _ hk => hk.2) (.int .i64 t1223)) (fun _ hk => hk.2) (.bool t1224)) (fun _ h_ => h_.1))))) hb (below_size (zt GE1209.out GE1225.out)) (blk_lt (g := gb1209) (o := .cells #[.slice A0_0 l0_0.length c0_0, .int .i64 a0_1, .bool a0_2] 47 (0, 0)) (by (with_reducible repeat (first | refine blk_drewN ?_ _ | refine blk_drew ?_ | refine blk_alloc ?_ _)); refine blk_far ?_ NB1209_1225.out _; (with_reducible repeat (first | refine blk_drewN ?_ _ | refine blk_drew ?_ | refine blk_alloc ?_ _)); refine blk_far ?_ NB1209_1225.out _; (with_reducible repeat (first | refine blk_drewN ?_ _ | refine blk_drew ?_ | refine blk_alloc ?_ _)); refine blk_far ?_ NB1209_1225.out _; (with_reducible repeat (first | refine blk_drewN ?_ _ | refine blk_drew ?_ | refine blk_alloc ?_ _)); exact BK1209.out)) (blk_lt (g := gb1225) (o := .cells #[.slice Ao22 t1220.length co22, .int .i64 t1223, .bool t1224] 51 (0, 0)) (by (with_reducible repeat (first | refine blk_drewN ?_ _ | refine blk_drew ?_ | refine blk_alloc ?_ _)); refine blk_put (cs := #[.slice Ao22 t1220.length co22, .int .i64 t1223, .bool false]) ?_ 2 _ rfl; (with_reducible repeat (first | refine blk_drewN ?_ _ | refine blk_drew ?_ | refine blk_alloc ?_ _)); refine blk_put (cs := #[.slice Ao22 t1220.length co22, .int .i64 0, .bool false]) ?_ 1 _ rfl; (with_reducible repeat (first | refine blk_drewN ?_ _ | refine blk_drew ?_ | refine blk_alloc ?_ _)); refine blk_put (cs := #[.slice none 0 0, .int .i64 0, .bool false]) ?_ 0 _ rfl; (with_reducible repeat (first | refine blk_drewN ?_ _ | refine blk_drew ?_ | refine blk_alloc ?_ _)); exact BK1225.out)); have NG_gb1209 := aM nG1_; have NG_gb1225 := aM nG2_; have n0_ := aM (Kd.R_below (by (with_reducible repeat (first | apply Kd.R_alloc | apply Kd.R_drewN | apply Kd.R_drew)); exact (Kd.R_mono (Kd.R_far (p := ⟨gb1225, 2, none⟩) (Kd.R_far (p := ⟨gb1225, 1, none⟩) (Kd.R_far (p := ⟨gb1225, 0, none⟩) (Kd.R_types HO1213.out BK1225.out (by decide)) (fun _ hk => hk.2) (.slice Ao22 t1220.length co22)) (fun _ hk => hk.2) (.int .i64 t1223)) (fun _ hk => hk.2) (.bool t1224)) (fun _ h_ => h_.1))) hb); have n1_ := aM nV_; have n2_ := aM (Kd.R_below (by (with_reducible repeat (first | apply Kd.R_alloc | apply Kd.R_drewN | apply Kd.R_drew)); exact (Kd.R_mono (Kd.R_far (p := ⟨gb1225, 2, none⟩) (Kd.R_far (p := ⟨gb1225, 1, none⟩) (Kd.R_far (p := ⟨gb1225, 0, none⟩) (Kd.R_types HO1222.out BK1225.out (by decide)) (fun _ hk => hk.2) (.slice Ao22 t1220.length co22)) (fun _ hk => hk.2) (.int .i64 t1223)) (fun _ hk => hk.2) (.bool t1224)) (fun _ h_ => h_.1))) hb); have n3_ := aM nS_; have n4_ := aM (blk_below (g := gb1209) (o := .cells #[.slice A0_0 l0_0.length c0_0, .int .i64 a0_1, .bool a0_2] 47 (0, 0)) (by (with_reducible repeat (first | refine blk_drewN ?_ _ | refine blk_drew ?_ | refine blk_alloc ?_ _)); refine blk_far ?_ NB1209_1225.out _; (with_reducible repeat (first | refine blk_drewN ?_ _ | refine blk_drew ?_ | refine blk_alloc ?_ _)); refine blk_far ?_ NB1209_1225.out _; (with_reducible repeat (first | refine blk_drewN ?_ _ | refine blk_drew ?_ | refine blk_alloc ?_ _)); refine blk_far ?_ NB1209_1225.out _; (with_reducible repeat (first | refine blk_drewN ?_ _ | refine blk_drew ?_ | refine blk_alloc ?_ _)); exact BK1209.out) hb); have n5_ := aM (blk_below (g := gb1225) (o := .cells #[.slice Ao22 t1220.length co22, .int .i64 t1223, .bool t1224] 51 (0, 0)) (by (with_reducible repeat (first | refine blk_drewN ?_ _ | refine blk_drew ?_ | refine blk_alloc ?_ _)); refine blk_put (cs := #[.slice Ao22 t1220.length co22, .int .i64 t1223, .bool false]) ?_ 2 _ rfl; (with_reducible repeat (first | refine blk_drewN ?_ _ | refine blk_drew ?_ | refine blk_alloc ?_ _)); refine blk_put (cs := #[.slice Ao22 t1220.length co22, .int .i64 0, .bool false]) ?_ 1 _ rfl; (with_reducible repeat (first | refine blk_drewN ?_ _ | refine blk_drew ?_ | refine blk_alloc ?_ _)); refine blk_put (cs := #[.slice none 0 0, .int .i64 0, .bool false]) ?_ 0 _ rfl; (with_reducible repeat (first | refine blk_drewN ?_ _ | refine blk_drew ?_ | refine blk_alloc ?_ _)); exact BK1225.out) hb); have n6_ := aM (below_step (zt GE1209.out GE1225.out) hb); clear HO1213 HO1218 HO1222 BK1209 BK1225 HB; have HO1213 := n0_; have HO1218 := n1_; have HO1222 := n2_; have HO1228 := n3_; have BK1209 := n4_; have BK1225 := n5_; have HB := n6_; clear n0_ n1_ n2_ n3_ n4_ n5_ n6_ nV_ nS_ nG1_ nG2_; (try clear hb); (try clear hb2); (try clear hk); (try clear hi); (try clear ho0)))
 (try simp only [Act.put, xA, xB, xC])
 go_cut [40] (fun v40 wc => ∃ (kq : Nat) (x40_10 : Bool), v40 = .bool x40_10 ∧ Aside0 (laws_FnExactFormsOfPiece.j0 kq t1216 t1219 t1226 t1229 x40_10 l0_0 a0_1 a0_2 t1220 t1223 t1224 = some r) ∧ Aside0 (kq ≤ k) ∧ Aside0 (Kd.V (Kd.slice 59 k59) 24 wc w.heap.size (fun k_ => k_ < NZ_ ∧ some k_ ≠ ((.slice Ao22 t1220.length co22) : Value).ownBlock ∧ k_ ≠ gb1209 ∧ k_ ≠ gb1225) v1217 t1216) ∧ Aside0 (Kd.S (Kd.slice 59 k59) 24 wc w.heap.size (fun k_ => some k_ ≠ ((.slice Ao22 t1220.length co22) : Value).ownBlock ∧ NZ_ ≤ k_) v1227 t1226) ∧ Aside0 (Kd.R k59 59 wc w.heap.size (fun _ => True) (.slice Ao22 t1220.length co22) t1220) ∧ Aside0 (wc.heap[gb1209]? = some (.cells #[(.slice A0_0 l0_0.length c0_0), .int .i64 a0_1, .bool a0_2] 47 (0, 0))) ∧ Aside0 (wc.heap[gb1225]? = some (.cells #[(.slice Ao22 t1220.length co22), .int .i64 t1223, .bool t1224] 51 (0, 0))) ∧ Aside0 (Below w.heap.size w wc))
 case first =>
  have H := HC11.out
  clear HC11
  replace H := Option.bind_eq_some_iff.mp H
  obtain ⟨t1230, A260, H⟩ := H
  replace H : (if t1230 = true then (laws_FnExactFormsOfPiece.j0 k t1216 t1219 t1226 t1229 (t1229 != t1219) l0_0 a0_1 a0_2 t1220 t1223 t1224) else (laws_FnExactFormsOfPiece.j0 k t1216 t1219 t1226 t1229 true l0_0 a0_1 a0_2 t1220 t1223 t1224)) = some r := H
  have A26 := aM A260
  clear A260
  by_cases c27 : t1230 = true
  ·subst c27
   have H1 : (laws_FnExactFormsOfPiece.j0 k t1216 t1219 t1226 t1229 (t1229 != t1219) l0_0 a0_1 a0_2 t1220 t1223 t1224) = some r := by rw [if_pos rfl] at H; exact H
   clear H
   have H := H1
   clear H1
   have H' := aM H
   clear H
   obtain ⟨Ao28, co28, eo28⟩ := Kd.S_slice HO1228.out
   subst eo28
   obtain ⟨Ao29, co29, eo29⟩ := Kd.V_slice HO1218.out
   subst eo29
   go_wp2_with (first | ((with_reducible refine gate_callee (f := 49) rfl ?_); refine goesL_ (some 34) rfl rfl Try.func49 (by kernel_rfl) rfl #[.slice Ao28 t1226.length co28, .slice Ao29 t1216.length co29] rfl zm ?_; (with_reducible refine (laws_eqCellSS.calls k _ _ t1226 _ _ t1216 true _ ?side1 ?side2 ?side3 ?side4 A26.out).mono ?_); (case side1 => repeat (first | exact (Kd.S_reads' HO1228.out).2.2 | (with_reducible refine Kd.C_alloc ?_ _) | (with_reducible refine Kd.C_drewN ?_ _) | (with_reducible refine Kd.C_drew ?_))); (case side2 => exact (Kd.S_reads' HO1228.out).2.1); (case side3 => repeat (first | exact (Kd.V_reads' HO1218.out).2.2 | (with_reducible refine Kd.C_alloc ?_ _) | (with_reducible refine Kd.C_drewN ?_ _) | (with_reducible refine Kd.C_drew ?_))); (case side4 => exact (Kd.V_reads' HO1218.out).2.1); rintro e w30 ⟨rfl, hb⟩; refine ⟨_, rfl, ?_⟩; have n0_ := aM (Kd.R_below (mR_ HO1213.out) hb); have n1_ := aM (Kd.V_below (mV_ HO1218.out) hb); have n2_ := aM (Kd.R_below (mR_ HO1222.out) hb); have n3_ := aM (Kd.S_below (mS_ HO1228.out) hb); have n4_ := aM (blk_below (g := gb1209) (o := .cells #[.slice A0_0 l0_0.length c0_0, .int .i64 a0_1, .bool a0_2] 47 (0, 0)) (mB_ BK1209.out) hb); have n5_ := aM (blk_below (g := gb1225) (o := .cells #[.slice Ao22 t1220.length co22, .int .i64 t1223, .bool t1224] 51 (0, 0)) (mB_ BK1225.out) hb); have n6_ := aM (below_step (zt GE1209.out GE1225.out) hb); clear HO1213 HO1218 HO1222 HO1228 BK1209 BK1225 HB; have HO1213 := n0_; have HO1218 := n1_; have HO1222 := n2_; have HO1228 := n3_; have BK1209 := n4_; have BK1225 := n5_; have HB := n6_; clear n0_ n1_ n2_ n3_ n4_ n5_ n6_; (try clear hb); (try clear hb2); (try clear hk); (try clear hi)))
   go_meet
   case rel => exact ⟨_, ((t1229 != t1219)), zr, H', ⟨by first | omega | exact Nat.le_refl _⟩, ⟨zd5 HO1218.out⟩, ⟨zd7 HO1228.out⟩, ⟨zd0 HO1222.out⟩, ⟨mB_ BK1209.out⟩, ⟨mB_ BK1225.out⟩, ⟨zt GE1209.out GE1225.out⟩⟩
  replace c27 := Bool.eq_false_iff.mpr c27
  subst c27
  have H1 : (laws_FnExactFormsOfPiece.j0 k t1216 t1219 t1226 t1229 true l0_0 a0_1 a0_2 t1220 t1223 t1224) = some r := by rw [if_neg (show ¬ (false = true) by decide)] at H; exact H
  clear H
  have H := H1
  clear H1
  have H' := aM H
  clear H
  obtain ⟨Ao31, co31, eo31⟩ := Kd.S_slice HO1228.out
  subst eo31
  obtain ⟨Ao32, co32, eo32⟩ := Kd.V_slice HO1218.out
  subst eo32
  go_wp2_with (first | ((with_reducible refine gate_callee (f := 49) rfl ?_); refine goesL_ (some 34) rfl rfl Try.func49 (by kernel_rfl) rfl #[.slice Ao31 t1226.length co31, .slice Ao32 t1216.length co32] rfl zm ?_; (with_reducible refine (laws_eqCellSS.calls k _ _ t1226 _ _ t1216 false _ ?side1 ?side2 ?side3 ?side4 A26.out).mono ?_); (case side1 => repeat (first | exact (Kd.S_reads' HO1228.out).2.2 | (with_reducible refine Kd.C_alloc ?_ _) | (with_reducible refine Kd.C_drewN ?_ _) | (with_reducible refine Kd.C_drew ?_))); (case side2 => exact (Kd.S_reads' HO1228.out).2.1); (case side3 => repeat (first | exact (Kd.V_reads' HO1218.out).2.2 | (with_reducible refine Kd.C_alloc ?_ _) | (with_reducible refine Kd.C_drewN ?_ _) | (with_reducible refine Kd.C_drew ?_))); (case side4 => exact (Kd.V_reads' HO1218.out).2.1); rintro e w33 ⟨rfl, hb⟩; refine ⟨_, rfl, ?_⟩; have n0_ := aM (Kd.R_below (mR_ HO1213.out) hb); have n1_ := aM (Kd.V_below (mV_ HO1218.out) hb); have n2_ := aM (Kd.R_below (mR_ HO1222.out) hb); have n3_ := aM (Kd.S_below (mS_ HO1228.out) hb); have n4_ := aM (blk_below (g := gb1209) (o := .cells #[.slice A0_0 l0_0.length c0_0, .int .i64 a0_1, .bool a0_2] 47 (0, 0)) (mB_ BK1209.out) hb); have n5_ := aM (blk_below (g := gb1225) (o := .cells #[.slice Ao22 t1220.length co22, .int .i64 t1223, .bool t1224] 51 (0, 0)) (mB_ BK1225.out) hb); have n6_ := aM (below_step (zt GE1209.out GE1225.out) hb); clear HO1213 HO1218 HO1222 HO1228 BK1209 BK1225 HB; have HO1213 := n0_; have HO1218 := n1_; have HO1222 := n2_; have HO1228 := n3_; have BK1209 := n4_; have BK1225 := n5_; have HB := n6_; clear n0_ n1_ n2_ n3_ n4_ n5_ n6_; (try clear hb); (try clear hb2); (try clear hk); (try clear hi)))
  go_meet
  case rel => exact ⟨_, (true), zr, H', ⟨by first | omega | exact Nat.le_refl _⟩, ⟨zd5 HO1218.out⟩, ⟨zd7 HO1228.out⟩, ⟨zd0 HO1222.out⟩, ⟨mB_ BK1209.out⟩, ⟨mB_ BK1225.out⟩, ⟨zt GE1209.out GE1225.out⟩⟩
 case rest =>
  clear HC11
  try clear c2
  try clear p2
  try clear c3
  try clear c3b0
  try clear c4
  try clear c8
  try clear c23
  try clear c27
  try clear c32
  try clear hcz13_0
  try clear hcz13_1
  try clear hcz13_2
  try clear hcz15_0
  try clear hcz15_1
  try clear hcz15_2
  try clear hcz19_0
  try clear hcz19_1
  try clear hcz19_2
  try clear hcz24_0
  try clear hcz24_1
  try clear hcz24_2
  try clear hcz5_0
  try clear hcz5_1
  try clear hcz5_2
  try clear hfz13_0
  try clear hfz13_1
  try clear hfz13_2
  try clear hfz15_0
  try clear hfz15_1
  try clear hfz15_2
  try clear hfz19_0
  try clear hfz19_1
  try clear hfz19_2
  try clear hfz24_0
  try clear hfz24_1
  try clear hfz24_2
  try clear hfz5_0
  try clear hfz5_1
  try clear hfz5_2
  obtain ⟨kq, x40_10, rfl, HA, HJ10, HO_4, HO_7, HO_1226000, BK1209, BK1225, HB⟩ := hcut
  cases kq with
  | zero => exact absurd HA.out (by simp [laws_FnExactFormsOfPiece.j0])
  | succ kj10 =>
   have H := HA.out
   clear HA
   simp only [laws_FnExactFormsOfPiece.j0] at H
   by_cases c34 : x40_10 = true
   ·subst c34
    have H1 : (some false) = some r := by rw [if_pos rfl] at H; exact H
    clear H
    have H := H1
    clear H1
    obtain rfl := Option.some.inj H
    go_wp2
    go_ret
    exact ⟨zw, zt GE1209.out GE1225.out⟩
   replace c34 := Bool.eq_false_iff.mpr c34
   subst c34
   have H1 : ((laws_toPiece.f kj10 l0_0 a0_1 a0_2).bind fun bt1231 => ((laws_eqPiece.f kj10 t1220 t1223 t1224 bt1231.1 bt1231.2.1 bt1231.2.2).bind fun t1236 => (if t1236 = true then ((laws_markPiece.f kj10 t1220 t1223 t1224 1).bind fun bt1237 => (if bt1237.1 < 0 then (laws_FnExactFormsOfPiece.j1 kj10 t1216 t1219 t1226 true l0_0 a0_1 a0_2) else ((laws_eqCellSS.f kj10 t1226 t1216).bind fun t1239 => (if t1239 = true then (laws_FnExactFormsOfPiece.j1 kj10 t1216 t1219 t1226 (t1229 != t1219) l0_0 a0_1 a0_2) else (laws_FnExactFormsOfPiece.j1 kj10 t1216 t1219 t1226 true l0_0 a0_1 a0_2))))) else (some false)))) = some r := by rw [if_neg (show ¬ (false = true) by decide)] at H; exact H
   clear H
   have H := H1
   clear H1
   replace H := Option.bind_eq_some_iff.mp H
   obtain ⟨⟨t1231, t1234, t1235⟩, A350, H⟩ := H
   replace H : ((laws_eqPiece.f kj10 t1220 t1223 t1224 t1231 t1234 t1235).bind fun t1236 => (if t1236 = true then ((laws_markPiece.f kj10 t1220 t1223 t1224 1).bind fun bt1237 => (if bt1237.1 < 0 then (laws_FnExactFormsOfPiece.j1 kj10 t1216 t1219 t1226 true l0_0 a0_1 a0_2) else ((laws_eqCellSS.f kj10 t1226 t1216).bind fun t1239 => (if t1239 = true then (laws_FnExactFormsOfPiece.j1 kj10 t1216 t1219 t1226 (t1229 != t1219) l0_0 a0_1 a0_2) else (laws_FnExactFormsOfPiece.j1 kj10 t1216 t1219 t1226 true l0_0 a0_1 a0_2))))) else (some false))) = some r := H
   have A35 := aM A350
   clear A350
   replace H := Option.bind_eq_some_iff.mp H
   obtain ⟨t1236, A360, H⟩ := H
   replace H : (if t1236 = true then ((laws_markPiece.f kj10 t1220 t1223 t1224 1).bind fun bt1237 => (if bt1237.1 < 0 then (laws_FnExactFormsOfPiece.j1 kj10 t1216 t1219 t1226 true l0_0 a0_1 a0_2) else ((laws_eqCellSS.f kj10 t1226 t1216).bind fun t1239 => (if t1239 = true then (laws_FnExactFormsOfPiece.j1 kj10 t1216 t1219 t1226 (t1229 != t1219) l0_0 a0_1 a0_2) else (laws_FnExactFormsOfPiece.j1 kj10 t1216 t1219 t1226 true l0_0 a0_1 a0_2))))) else (some false)) = some r := H
   have A36 := aM A360
   clear A360
   by_cases c37 : t1236 = true
   rotate_left
   ·replace c37 := Bool.eq_false_iff.mpr c37
    subst c37
    have H1 : (some false) = some r := by rw [if_neg (show ¬ (false = true) by decide)] at H; exact H
    clear H
    have H := H1
    clear H1
    obtain rfl := Option.some.inj H
    try go_wp2
    have n0_ := aM (Kd.V_drew HO_4.out)
    have n1_ := aM (Kd.S_drew HO_7.out)
    have n2_ := aM (Kd.R_drew HO_1226000.out)
    have n3_ := aM (blk_drew BK1209.out)
    have n4_ := aM (blk_drew BK1225.out)
    have n5_ := aM (below_drew1 HB.out)
    clear HO_4
    clear HO_7
    clear HO_1226000
    clear BK1209
    clear BK1225
    clear HB
    have HO_4 := n0_
    have HO_7 := n1_
    have HO_1226000 := n2_
    have BK1209 := n3_
    have BK1225 := n4_
    have HB := n5_
    clear n0_ n1_ n2_ n3_ n4_ n5_
    refine start_ (n := 5) (S := fun w' => w'.cell? ⟨gb1225, 0, none⟩ = some (.slice Ao22 t1220.length co22) ∧ w'.cell? ⟨gb1225, 1, none⟩ = some (.int .i64 t1223) ∧ w'.cell? ⟨gb1225, 2, none⟩ = some (.bool t1224) ∧ w'.cell? ⟨gb1209, 0, none⟩ = some (.slice A0_0 l0_0.length c0_0) ∧ w'.cell? ⟨gb1209, 1, none⟩ = some (.int .i64 a0_1) ∧ w'.cell? ⟨gb1209, 2, none⟩ = some (.bool a0_2)) (ds := []) #[false, false, false, false, false] (by kernel_rfl) rfl rfl ⟨(blk_cell BK1225.out 0).trans rfl, (blk_cell BK1225.out 1).trans rfl, (blk_cell BK1225.out 2).trans rfl, (blk_cell BK1209.out 0).trans rfl, (blk_cell BK1209.out 1).trans rfl, (blk_cell BK1209.out 2).trans rfl⟩ (fun hHeld => ?_)
    generalize wc.drew = w87 at HO_4 HO_7 HO_1226000 BK1209 BK1225 HB hHeld ⊢
    refine take_ (i := 0) (N := some 41) (v := ?_) (a' := ?_) #[true, false, false, false, false] rfl rfl (by kernel_rfl) (fun _ _ _ h => h) (Or.inl ⟨by rfl, ?_⟩) hHeld ?_ ?_
    rotate_left
    ·rintro w' ⟨s0, s1, s2, s3, s4, s5⟩
     go_simp
     with_reducible rfl
    rotate_left
    ·simp only [Act.put, xA, xB, xC, i64_w, i32_w]
     rfl
    refine take_ (i := 1) (N := some 42) (v := ?_) (a' := ?_) #[true, true, false, false, false] rfl rfl (by kernel_rfl) (fun _ _ _ h => h) (Or.inl ⟨by rfl, ?_⟩) hHeld ?_ ?_
    rotate_left
    ·rintro w' ⟨s0, s1, s2, s3, s4, s5⟩
     go_simp
     with_reducible rfl
    rotate_left
    ·simp only [Act.put, xA, xB, xC, i64_w, i32_w]
     rfl
    refine one_ (i := 2) (N := some 43) #[true, true, true, false, false] rfl rfl (by kernel_rfl) (by decide) (fun K hK => ?_)
    refine goes_ Try.func34 (by kernel_rfl) rfl #[.agg #[.slice A0_0 l0_0.length c0_0, .int .i64 a0_1, .bool a0_2]] (by rfl) rfl rfl zm ?_
    with_reducible refine (laws_toPiece.calls kj10 _ _ l0_0 a0_1 a0_2 t1231 t1234 t1235 _ ?side1 ?side2 A35.out).mono ?_
    (case side1 => repeat (first | exact (Kd.C_below HR0_0.out HB.out) | (with_reducible refine Kd.C_alloc ?_ _) | (with_reducible refine Kd.C_drewN ?_ _) | (with_reducible refine Kd.C_drew ?_)))
    (case side2 => exact HC0_0.out)
    rintro e w88 ⟨v1232, rfl, ho0, hb⟩
    refine ⟨_, rfl, ?_⟩
    have n0_ := aM (Kd.V_elder' (mV_ HO_4.out) (Kd.R_base ho0) hb)
    have n1_ := aM (Kd.S_elder' (mS_ HO_7.out) (Kd.R_base ho0) hb)
    have n2_ := aM (Kd.R_elder' (mR_ HO_1226000.out) (Kd.R_base ho0) hb)
    have n3_ := aM (Kd.R_lower (Kd.R_new' ho0 (Kd.R_lt (mR_ HO_1226000.out))) (below_size (zt GE1209.out GE1225.out)))
    have n4_ := aM (blk_below (g := gb1209) (o := .cells #[.slice A0_0 l0_0.length c0_0, .int .i64 a0_1, .bool a0_2] 47 (0, 0)) (mB_ BK1209.out) hb)
    have n5_ := aM (blk_below (g := gb1225) (o := .cells #[.slice Ao22 t1220.length co22, .int .i64 t1223, .bool t1224] 51 (0, 0)) (mB_ BK1225.out) hb)
    have n6_ := aM (below_step (zt GE1209.out GE1225.out) hb)
    clear HO_4
    clear HO_7
    clear HO_1226000
    clear BK1209
    clear BK1225
    clear HB
    have HO_4 := n0_
    have HO_7 := n1_
    have HO_1226000 := n2_
    have HO1233 := n3_
    have BK1209 := n4_
    have BK1225 := n5_
    have HB := n6_
    clear n0_ n1_ n2_ n3_ n4_ n5_ n6_
    (try clear hb)
    (try clear hb2)
    (try clear hk)
    (try clear hi)
    (try clear ho0)
    obtain ⟨Ao89, co89, eo89⟩ := Kd.R_slice HO1233.out
    (first | subst eo89 | (injection eo89 with f1_ f2_ f3_; have f4_ := f1_.symm; have f5_ := f3_.symm; clear f1_ f2_ f3_; subst f4_; subst f5_))
    refine hK.out _ _ ⟨(blk_cell BK1225.out 0).trans rfl, (blk_cell BK1225.out 1).trans rfl, (blk_cell BK1225.out 2).trans rfl, (blk_cell BK1209.out 0).trans rfl, (blk_cell BK1209.out 1).trans rfl, (blk_cell BK1209.out 2).trans rfl⟩ (fun hHeld => ?_)
    clear hK K
    refine norm_ (a' := ?_) ?_ ?_
    rotate_left
    ·show Act.put _ (some 43) _ = _
     simp only [Act.put, xA, xB, xC, i64_w, i32_w]
     rfl
    refine one_ (i := 3) (N := some 44) #[true, true, true, true, false] rfl rfl (by kernel_rfl) (by decide) (fun K hK => ?_)
    refine goes_ Try.func36 (by kernel_rfl) rfl #[.agg #[.slice Ao22 t1220.length co22, .int .i64 t1223, .bool t1224], .agg #[.slice Ao89 t1231.length co89, .int .i64 t1234, .bool t1235]] (by rfl) rfl rfl zm ?_
    with_reducible refine (laws_eqPiece.calls kj10 _ _ t1220 t1223 t1224 _ _ t1231 t1234 t1235 false _ ?side1 ?side2 ?side3 ?side4 A36.out).mono ?_
    (case side1 => exact zc HO_1226000.out)
    (case side2 => exact (Kd.R_reads' HO_1226000.out).2.1)
    (case side3 => exact zc HO1233.out)
    (case side4 => exact (Kd.R_reads' HO1233.out).2.1)
    rintro e w90 ⟨rfl, hb⟩
    refine ⟨_, rfl, ?_⟩
    have n0_ := aM (Kd.V_below (mV_ HO_4.out) hb)
    have n1_ := aM (Kd.S_below (mS_ HO_7.out) hb)
    have n2_ := aM (Kd.R_below (mR_ HO_1226000.out) hb)
    have n3_ := aM (Kd.R_below (mR_ HO1233.out) hb)
    have n4_ := aM (blk_below (g := gb1209) (o := .cells #[.slice A0_0 l0_0.length c0_0, .int .i64 a0_1, .bool a0_2] 47 (0, 0)) (mB_ BK1209.out) hb)
    have n5_ := aM (blk_below (g := gb1225) (o := .cells #[.slice Ao22 t1220.length co22, .int .i64 t1223, .bool t1224] 51 (0, 0)) (mB_ BK1225.out) hb)
    have n6_ := aM (below_step (zt GE1209.out GE1225.out) hb)
    clear HO_4
    clear HO_7
    clear HO_1226000
    clear HO1233
    clear BK1209
    clear BK1225
    clear HB
    have HO_4 := n0_
    have HO_7 := n1_
    have HO_1226000 := n2_
    have HO1233 := n3_
    have BK1209 := n4_
    have BK1225 := n5_
    have HB := n6_
    clear n0_ n1_ n2_ n3_ n4_ n5_ n6_
    (try clear hb)
    (try clear hb2)
    (try clear hk)
    (try clear hi)
    refine hK.out _ _ ⟨(blk_cell BK1225.out 0).trans rfl, (blk_cell BK1225.out 1).trans rfl, (blk_cell BK1225.out 2).trans rfl, (blk_cell BK1209.out 0).trans rfl, (blk_cell BK1209.out 1).trans rfl, (blk_cell BK1209.out 2).trans rfl⟩ (fun hHeld => ?_)
    clear hK K
    refine norm_ (a' := ?_) ?_ ?_
    rotate_left
    ·show Act.put _ (some 44) _ = _
     simp only [Act.put, xA, xB, xC, i64_w, i32_w]
     rfl
    refine pure_ (i := 4) (N := some 45) (v := ?_) (a' := ?_) #[true, true, true, true, true] rfl rfl (by kernel_rfl) (fun _ _ _ h => h) (Or.inl ⟨by rfl, ?_⟩) ?_ ?_
    rotate_left
    ·intro w'
     go_simp
     with_reducible rfl
    rotate_left
    ·simp only [Act.put, xA, xB, xC, i64_w, i32_w]
     rfl
    refine done_ (by kernel_rfl) ?_
    try go_wp2
    go_ret
    exact ⟨zw, zt GE1209.out GE1225.out⟩
   subst c37
   have H1 : ((laws_markPiece.f kj10 t1220 t1223 t1224 1).bind fun bt1237 => (if bt1237.1 < 0 then (laws_FnExactFormsOfPiece.j1 kj10 t1216 t1219 t1226 true l0_0 a0_1 a0_2) else ((laws_eqCellSS.f kj10 t1226 t1216).bind fun t1239 => (if t1239 = true then (laws_FnExactFormsOfPiece.j1 kj10 t1216 t1219 t1226 (t1229 != t1219) l0_0 a0_1 a0_2) else (laws_FnExactFormsOfPiece.j1 kj10 t1216 t1219 t1226 true l0_0 a0_1 a0_2))))) = some r := by rw [if_pos rfl] at H; exact H
   clear H
   have H := H1
   clear H1
   replace H := Option.bind_eq_some_iff.mp H
   obtain ⟨⟨t1237, t1238⟩, A380, H⟩ := H
   replace H : (if t1237 < 0 then (laws_FnExactFormsOfPiece.j1 kj10 t1216 t1219 t1226 true l0_0 a0_1 a0_2) else ((laws_eqCellSS.f kj10 t1226 t1216).bind fun t1239 => (if t1239 = true then (laws_FnExactFormsOfPiece.j1 kj10 t1216 t1219 t1226 (t1229 != t1219) l0_0 a0_1 a0_2) else (laws_FnExactFormsOfPiece.j1 kj10 t1216 t1219 t1226 true l0_0 a0_1 a0_2)))) = some r := H
   have A38 := aM A380
   clear A380
   have HC39 := aM H
   clear H
   try go_wp2
   have n0_ := aM (Kd.V_drew HO_4.out)
   have n1_ := aM (Kd.S_drew HO_7.out)
   have n2_ := aM (Kd.R_drew HO_1226000.out)
   have n3_ := aM (blk_drew BK1209.out)
   have n4_ := aM (blk_drew BK1225.out)
   have n5_ := aM (below_drew1 HB.out)
   clear HO_4
   clear HO_7
   clear HO_1226000
   clear BK1209
   clear BK1225
   clear HB
   have HO_4 := n0_
   have HO_7 := n1_
   have HO_1226000 := n2_
   have BK1209 := n3_
   have BK1225 := n4_
   have HB := n5_
   clear n0_ n1_ n2_ n3_ n4_ n5_
   refine start_ (n := 5) (S := fun w' => w'.cell? ⟨gb1225, 0, none⟩ = some (.slice Ao22 t1220.length co22) ∧ w'.cell? ⟨gb1225, 1, none⟩ = some (.int .i64 t1223) ∧ w'.cell? ⟨gb1225, 2, none⟩ = some (.bool t1224) ∧ w'.cell? ⟨gb1209, 0, none⟩ = some (.slice A0_0 l0_0.length c0_0) ∧ w'.cell? ⟨gb1209, 1, none⟩ = some (.int .i64 a0_1) ∧ w'.cell? ⟨gb1209, 2, none⟩ = some (.bool a0_2)) (ds := []) #[false, false, false, false, false] (by kernel_rfl) rfl rfl ⟨(blk_cell BK1225.out 0).trans rfl, (blk_cell BK1225.out 1).trans rfl, (blk_cell BK1225.out 2).trans rfl, (blk_cell BK1209.out 0).trans rfl, (blk_cell BK1209.out 1).trans rfl, (blk_cell BK1209.out 2).trans rfl⟩ (fun hHeld => ?_)
   generalize wc.drew = w40 at HO_4 HO_7 HO_1226000 BK1209 BK1225 HB hHeld ⊢
   refine take_ (i := 0) (N := some 41) (v := ?_) (a' := ?_) #[true, false, false, false, false] rfl rfl (by kernel_rfl) (fun _ _ _ h => h) (Or.inl ⟨by rfl, ?_⟩) hHeld ?_ ?_
   rotate_left
   ·rintro w' ⟨s0, s1, s2, s3, s4, s5⟩
    go_simp
    with_reducible rfl
   rotate_left
   ·simp only [Act.put, xA, xB, xC, i64_w, i32_w]
    rfl
   refine take_ (i := 1) (N := some 42) (v := ?_) (a' := ?_) #[true, true, false, false, false] rfl rfl (by kernel_rfl) (fun _ _ _ h => h) (Or.inl ⟨by rfl, ?_⟩) hHeld ?_ ?_
   rotate_left
   ·rintro w' ⟨s0, s1, s2, s3, s4, s5⟩
    go_simp
    with_reducible rfl
   rotate_left
   ·simp only [Act.put, xA, xB, xC, i64_w, i32_w]
    rfl
   refine one_ (i := 2) (N := some 43) #[true, true, true, false, false] rfl rfl (by kernel_rfl) (by decide) (fun K hK => ?_)
   refine goes_ Try.func34 (by kernel_rfl) rfl #[.agg #[.slice A0_0 l0_0.length c0_0, .int .i64 a0_1, .bool a0_2]] (by rfl) rfl rfl zm ?_
   with_reducible refine (laws_toPiece.calls kj10 _ _ l0_0 a0_1 a0_2 t1231 t1234 t1235 _ ?side1 ?side2 A35.out).mono ?_
   (case side1 => repeat (first | exact (Kd.C_below HR0_0.out HB.out) | (with_reducible refine Kd.C_alloc ?_ _) | (with_reducible refine Kd.C_drewN ?_ _) | (with_reducible refine Kd.C_drew ?_)))
   (case side2 => exact HC0_0.out)
   rintro e w41 ⟨v1232, rfl, ho0, hb⟩
   refine ⟨_, rfl, ?_⟩
   have n0_ := aM (Kd.V_elder' (mV_ HO_4.out) (Kd.R_base ho0) hb)
   have n1_ := aM (Kd.S_elder' (mS_ HO_7.out) (Kd.R_base ho0) hb)
   have n2_ := aM (Kd.R_elder' (mR_ HO_1226000.out) (Kd.R_base ho0) hb)
   have n3_ := aM (Kd.R_lower (Kd.R_new' ho0 (Kd.R_lt (mR_ HO_1226000.out))) (below_size (zt GE1209.out GE1225.out)))
   have n4_ := aM (blk_below (g := gb1209) (o := .cells #[.slice A0_0 l0_0.length c0_0, .int .i64 a0_1, .bool a0_2] 47 (0, 0)) (mB_ BK1209.out) hb)
   have n5_ := aM (blk_below (g := gb1225) (o := .cells #[.slice Ao22 t1220.length co22, .int .i64 t1223, .bool t1224] 51 (0, 0)) (mB_ BK1225.out) hb)
   have n6_ := aM (below_step (zt GE1209.out GE1225.out) hb)
   clear HO_4
   clear HO_7
   clear HO_1226000
   clear BK1209
   clear BK1225
   clear HB
   have HO_4 := n0_
   have HO_7 := n1_
   have HO_1226000 := n2_
   have HO1233 := n3_
   have BK1209 := n4_
   have BK1225 := n5_
   have HB := n6_
   clear n0_ n1_ n2_ n3_ n4_ n5_ n6_
   (try clear hb)
   (try clear hb2)
   (try clear hk)
   (try clear hi)
   (try clear ho0)
   obtain ⟨Ao42, co42, eo42⟩ := Kd.R_slice HO1233.out
   (first | subst eo42 | (injection eo42 with f1_ f2_ f3_; have f4_ := f1_.symm; have f5_ := f3_.symm; clear f1_ f2_ f3_; subst f4_; subst f5_))
   refine hK.out _ _ ⟨(blk_cell BK1225.out 0).trans rfl, (blk_cell BK1225.out 1).trans rfl, (blk_cell BK1225.out 2).trans rfl, (blk_cell BK1209.out 0).trans rfl, (blk_cell BK1209.out 1).trans rfl, (blk_cell BK1209.out 2).trans rfl⟩ (fun hHeld => ?_)
   clear hK K
   refine norm_ (a' := ?_) ?_ ?_
   rotate_left
   ·show Act.put _ (some 43) _ = _
    simp only [Act.put, xA, xB, xC, i64_w, i32_w]
    rfl
   refine one_ (i := 3) (N := some 44) #[true, true, true, true, false] rfl rfl (by kernel_rfl) (by decide) (fun K hK => ?_)
   refine goes_ Try.func36 (by kernel_rfl) rfl #[.agg #[.slice Ao22 t1220.length co22, .int .i64 t1223, .bool t1224], .agg #[.slice Ao42 t1231.length co42, .int .i64 t1234, .bool t1235]] (by rfl) rfl rfl zm ?_
   with_reducible refine (laws_eqPiece.calls kj10 _ _ t1220 t1223 t1224 _ _ t1231 t1234 t1235 true _ ?side1 ?side2 ?side3 ?side4 A36.out).mono ?_
   (case side1 => exact zc HO_1226000.out)
   (case side2 => exact (Kd.R_reads' HO_1226000.out).2.1)
   (case side3 => exact zc HO1233.out)
   (case side4 => exact (Kd.R_reads' HO1233.out).2.1)
   rintro e w43 ⟨rfl, hb⟩
   refine ⟨_, rfl, ?_⟩
   have n0_ := aM (Kd.V_below (mV_ HO_4.out) hb)
   have n1_ := aM (Kd.S_below (mS_ HO_7.out) hb)
   have n2_ := aM (Kd.R_below (mR_ HO_1226000.out) hb)
   have n3_ := aM (Kd.R_below (mR_ HO1233.out) hb)
   have n4_ := aM (blk_below (g := gb1209) (o := .cells #[.slice A0_0 l0_0.length c0_0, .int .i64 a0_1, .bool a0_2] 47 (0, 0)) (mB_ BK1209.out) hb)
   have n5_ := aM (blk_below (g := gb1225) (o := .cells #[.slice Ao22 t1220.length co22, .int .i64 t1223, .bool t1224] 51 (0, 0)) (mB_ BK1225.out) hb)
   have n6_ := aM (below_step (zt GE1209.out GE1225.out) hb)
   clear HO_4
   clear HO_7
   clear HO_1226000
   clear HO1233
   clear BK1209
   clear BK1225
   clear HB
   have HO_4 := n0_
   have HO_7 := n1_
   have HO_1226000 := n2_
   have HO1233 := n3_
   have BK1209 := n4_
   have BK1225 := n5_
   have HB := n6_
   clear n0_ n1_ n2_ n3_ n4_ n5_ n6_
   (try clear hb)
   (try clear hb2)
   (try clear hk)
   (try clear hi)
   refine hK.out _ _ ⟨(blk_cell BK1225.out 0).trans rfl, (blk_cell BK1225.out 1).trans rfl, (blk_cell BK1225.out 2).trans rfl, (blk_cell BK1209.out 0).trans rfl, (blk_cell BK1209.out 1).trans rfl, (blk_cell BK1209.out 2).trans rfl⟩ (fun hHeld => ?_)
   clear hK K
   refine norm_ (a' := ?_) ?_ ?_
   rotate_left
   ·show Act.put _ (some 44) _ = _
    simp only [Act.put, xA, xB, xC, i64_w, i32_w]
    rfl
   refine pure_ (i := 4) (N := some 45) (v := ?_) (a' := ?_) #[true, true, true, true, true] rfl rfl (by kernel_rfl) (fun _ _ _ h => h) (Or.inl ⟨by rfl, ?_⟩) ?_ ?_
   rotate_left
   ·intro w'
    go_simp
    with_reducible rfl
   rotate_left
   ·simp only [Act.put, xA, xB, xC, i64_w, i32_w]
    rfl
   refine done_ (by kernel_rfl) ?_
   have hnb44 := NB1225_1209.out
   have hnc44 := NB1209_1225.out
   have hcz45_0 : w43.cell? ⟨gb1225, 0, none⟩ = some (.slice Ao22 t1220.length co22) := (blk_cell BK1225.out 0).trans rfl
   have hcz45_1 : w43.cell? ⟨gb1225, 1, none⟩ = some (.int .i64 t1223) := (blk_cell BK1225.out 1).trans rfl
   have hcz45_2 : w43.cell? ⟨gb1225, 2, none⟩ = some (.bool t1224) := (blk_cell BK1225.out 2).trans rfl
   have hfz45_0 := blk_frozen BK1225.out 0
   have hfz45_1 := blk_frozen BK1225.out 1
   have hfz45_2 := blk_frozen BK1225.out 2
   go_upto_region 14 with (first | ((with_reducible refine gate_callee (f := 50) rfl ?_); refine goesL_ (some 48) rfl rfl Try.func50 (by kernel_rfl) rfl #[.agg #[.slice Ao22 t1220.length co22, .int .i64 t1223, .bool t1224], .int .i64 1] rfl zm ?_; (with_reducible refine (laws_markPiece.calls kj10 (fun k_ => some k_ = (.slice Ao22 t1220.length co22 : Value).ownBlock) (.slice Ao22 t1220.length co22) t1220 t1223 t1224 1 t1237 t1238 w _ ?side1 ?side2 A38.out).mono ?_); (case side1 => repeat (first | (with_reducible first | exact HB.out | apply below_alloc | apply pw_below_drewN | apply below_drew1 | refine below_set ?_ GE1209.out | refine below_set ?_ GE1225.out) | exact HB.out)); (case side2 => exact Kd.R_tight rfl HO_1226000.out); rintro e w46 ⟨rfl, hy0, hb, hkp⟩; refine ⟨_, rfl, ?_⟩; have n0_ := aM (Kd.V_mono (ok' := fun k_ => k_ < NZ_ ∧ some k_ ≠ (.slice Ao22 t1220.length co22 : Value).ownBlock ∧ some k_ ≠ (.slice Ao42 t1231.length co42 : Value).ownBlock ∧ k_ ≠ gb1209 ∧ k_ ≠ gb1225) (Kd.V_keptB (HO_4.out) hkp (fun k_ hk_ hs_ => (hk_.1.2.1) hs_)) (fun k_ hk_ => ⟨hk_.1.1.1, hk_.1.1.2.1, hk_.1.2, hk_.1.1.2.2.1, hk_.1.1.2.2.2⟩)); have n1_ := aM (Kd.S_mono (ok' := fun k_ => (some k_ ≠ (.slice Ao22 t1220.length co22 : Value).ownBlock ∧ NZ_ ≤ k_) ∧ some k_ ≠ (.slice Ao42 t1231.length co42 : Value).ownBlock) (Kd.S_keptB (HO_7.out) hkp (fun k_ hk_ hs_ => (hk_.1.1) hs_)) (fun k_ hk_ => ⟨hk_.1.1, hk_.1.2⟩)); have n2_ := aM (Kd.R_reok rfl hy0 (fun k_ e_ => HO_1226000.out.1 k_ e_)); have n3_ := aM (blk_kept (mB_ BK1209.out) hkp (fun hs_ => (fun e_ => (Kd.R_ne HO_1226000.out BK1209.out (by decide)) e_) hs_)); have n4_ := aM (blk_kept (mB_ BK1225.out) hkp (fun hs_ => (fun e_ => (Kd.R_ne HO_1226000.out BK1225.out (by decide)) e_) hs_)); have n5_ := aM (Kd.R_mono (ok' := fun k_ => some k_ ≠ (.slice Ao22 t1220.length co22 : Value).ownBlock) (Kd.R_keptB (HO1233.out) hkp (fun k_ hk_ hs_ => (hk_.2) hs_)) (fun k_ hk_ => hk_.1.2)); have n6_ := aM (hb); clear HO_4 HO_7 HO_1226000 BK1209 BK1225 HO1233 HB; have HO_4 := n0_; have HO_7 := n1_; have HO_1226000 := n2_; have BK1209 := n3_; have BK1225 := n4_; have HO1233 := n5_; have HB := n6_; clear n0_ n1_ n2_ n3_ n4_ n5_ n6_; (try clear hb); (try clear hkp); (try clear hy0)))
   (try simp only [Act.put, xA, xB, xC])
   go_cut [61] (fun v61 wc => ∃ (kq : Nat) (x61_38 : Bool), v61 = .bool x61_38 ∧ Aside0 (laws_FnExactFormsOfPiece.j1 kq t1216 t1219 t1226 x61_38 l0_0 a0_1 a0_2 = some r) ∧ Aside0 (kq ≤ kj10) ∧ Aside0 (Kd.V (Kd.slice 59 k59) 24 wc w.heap.size (fun k_ => k_ < NZ_ ∧ some k_ ≠ ((.slice Ao22 t1220.length co22) : Value).ownBlock ∧ k_ ≠ gb1209 ∧ k_ ≠ gb1225) v1217 t1216) ∧ Aside0 (Kd.S (Kd.slice 59 k59) 24 wc w.heap.size (fun k_ => some k_ ≠ ((.slice Ao22 t1220.length co22) : Value).ownBlock ∧ NZ_ ≤ k_) v1227 t1226) ∧ Aside0 (Kd.R k59 59 wc w.heap.size (fun _ => True) (.slice Ao22 t1220.length co22) t1238) ∧ Aside0 (wc.heap[gb1209]? = some (.cells #[(.slice A0_0 l0_0.length c0_0), .int .i64 a0_1, .bool a0_2] 47 (0, 0))) ∧ Aside0 (wc.heap[gb1225]? = some (.cells #[(.slice Ao22 t1220.length co22), .int .i64 t1223, .bool t1224] 51 (0, 0))) ∧ Aside0 (Below w.heap.size w wc))
   case first =>
    have H := HC39.out
    clear HC39
    by_cases c47 : t1237 < 0
    ·rw [if_pos c47] at H
     have c47b0 : decide (t1237 < 0) = true := decide_eq_true c47
     clear c47
     (first | rw [c47b0] | (simp only [i64_w, i32_w]; rw [c47b0]) | skip)
     have H' := aM H
     clear H
     go_wp2
     go_meet
     case rel => exact ⟨_, (true), zr, H', ⟨by have := HJ10.out; first | omega | exact Nat.le_refl _⟩, ⟨zd6 HO_4.out⟩, ⟨zd4 HO_7.out⟩, ⟨zd0 HO_1226000.out⟩, ⟨mB_ BK1209.out⟩, ⟨mB_ BK1225.out⟩, ⟨zt GE1209.out GE1225.out⟩⟩
    rw [if_neg c47] at H
    have c47b0 : decide (t1237 < 0) = false := decide_eq_false c47
    clear c47
    (first | rw [c47b0] | (simp only [i64_w, i32_w]; rw [c47b0]) | skip)
    replace H := Option.bind_eq_some_iff.mp H
    obtain ⟨t1239, A480, H⟩ := H
    replace H : (if t1239 = true then (laws_FnExactFormsOfPiece.j1 kj10 t1216 t1219 t1226 (t1229 != t1219) l0_0 a0_1 a0_2) else (laws_FnExactFormsOfPiece.j1 kj10 t1216 t1219 t1226 true l0_0 a0_1 a0_2)) = some r := H
    have A48 := aM A480
    clear A480
    by_cases c49 : t1239 = true
    ·subst c49
     have H1 : (laws_FnExactFormsOfPiece.j1 kj10 t1216 t1219 t1226 (t1229 != t1219) l0_0 a0_1 a0_2) = some r := by rw [if_pos rfl] at H; exact H
     clear H
     have H := H1
     clear H1
     have H' := aM H
     clear H
     obtain ⟨Ao50, co50, eo50⟩ := Kd.S_slice HO_7.out
     subst eo50
     obtain ⟨Ao51, co51, eo51⟩ := Kd.V_slice HO_4.out
     subst eo51
     go_wp2_with (first | (go_at_call 49; (with_reducible refine (laws_eqCellSS.calls kj10 _ _ t1226 _ _ t1216 true _ ?side1 ?side2 ?side3 ?side4 A48.out).mono ?_); (case side1 => repeat (first | exact (Kd.S_reads' HO_7.out).2.2 | (with_reducible refine Kd.C_alloc ?_ _) | (with_reducible refine Kd.C_drewN ?_ _) | (with_reducible refine Kd.C_drew ?_))); (case side2 => exact (Kd.S_reads' HO_7.out).2.1); (case side3 => repeat (first | exact (Kd.V_reads' HO_4.out).2.2 | (with_reducible refine Kd.C_alloc ?_ _) | (with_reducible refine Kd.C_drewN ?_ _) | (with_reducible refine Kd.C_drew ?_))); (case side4 => exact (Kd.V_reads' HO_4.out).2.1); rintro e w52 ⟨rfl, hb⟩; have n0_ := aM (Kd.V_below (mV_ HO_4.out) hb); have n1_ := aM (Kd.S_below (mS_ HO_7.out) hb); have n2_ := aM (Kd.R_below (mR_ HO_1226000.out) hb); have n3_ := aM (Kd.R_below (mR_ HO1233.out) hb); have n4_ := aM (blk_below (g := gb1209) (o := .cells #[.slice A0_0 l0_0.length c0_0, .int .i64 a0_1, .bool a0_2] 47 (0, 0)) (mB_ BK1209.out) hb); have n5_ := aM (blk_below (g := gb1225) (o := .cells #[.slice Ao22 t1220.length co22, .int .i64 t1223, .bool t1224] 51 (0, 0)) (mB_ BK1225.out) hb); have n6_ := aM (below_step (zt GE1209.out GE1225.out) hb); clear HO_4 HO_7 HO_1226000 HO1233 BK1209 BK1225 HB; have HO_4 := n0_; have HO_7 := n1_; have HO_1226000 := n2_; have HO1233 := n3_; have BK1209 := n4_; have BK1225 := n5_; have HB := n6_; clear n0_ n1_ n2_ n3_ n4_ n5_ n6_; (try clear hb); (try clear hb2); (try clear hk); (try clear hi)))
     go_meet
     case rel => exact ⟨_, ((t1229 != t1219)), zr, H', ⟨by have := HJ10.out; first | omega | exact Nat.le_refl _⟩, ⟨zd6 HO_4.out⟩, ⟨zd4 HO_7.out⟩, ⟨zd0 HO_1226000.out⟩, ⟨mB_ BK1209.out⟩, ⟨mB_ BK1225.out⟩, ⟨zt GE1209.out GE1225.out⟩⟩
    replace c49 := Bool.eq_false_iff.mpr c49
    subst c49
    have H1 : (laws_FnExactFormsOfPiece.j1 kj10 t1216 t1219 t1226 true l0_0 a0_1 a0_2) = some r := by rw [if_neg (show ¬ (false = true) by decide)] at H; exact H
    clear H
    have H := H1
    clear H1
    have H' := aM H
    clear H
    obtain ⟨Ao53, co53, eo53⟩ := Kd.S_slice HO_7.out
    subst eo53
    obtain ⟨Ao54, co54, eo54⟩ := Kd.V_slice HO_4.out
    subst eo54
    go_wp2_with (first | (go_at_call 49; (with_reducible refine (laws_eqCellSS.calls kj10 _ _ t1226 _ _ t1216 false _ ?side1 ?side2 ?side3 ?side4 A48.out).mono ?_); (case side1 => repeat (first | exact (Kd.S_reads' HO_7.out).2.2 | (with_reducible refine Kd.C_alloc ?_ _) | (with_reducible refine Kd.C_drewN ?_ _) | (with_reducible refine Kd.C_drew ?_))); (case side2 => exact (Kd.S_reads' HO_7.out).2.1); (case side3 => repeat (first | exact (Kd.V_reads' HO_4.out).2.2 | (with_reducible refine Kd.C_alloc ?_ _) | (with_reducible refine Kd.C_drewN ?_ _) | (with_reducible refine Kd.C_drew ?_))); (case side4 => exact (Kd.V_reads' HO_4.out).2.1); rintro e w55 ⟨rfl, hb⟩; have n0_ := aM (Kd.V_below (mV_ HO_4.out) hb); have n1_ := aM (Kd.S_below (mS_ HO_7.out) hb); have n2_ := aM (Kd.R_below (mR_ HO_1226000.out) hb); have n3_ := aM (Kd.R_below (mR_ HO1233.out) hb); have n4_ := aM (blk_below (g := gb1209) (o := .cells #[.slice A0_0 l0_0.length c0_0, .int .i64 a0_1, .bool a0_2] 47 (0, 0)) (mB_ BK1209.out) hb); have n5_ := aM (blk_below (g := gb1225) (o := .cells #[.slice Ao22 t1220.length co22, .int .i64 t1223, .bool t1224] 51 (0, 0)) (mB_ BK1225.out) hb); have n6_ := aM (below_step (zt GE1209.out GE1225.out) hb); clear HO_4 HO_7 HO_1226000 HO1233 BK1209 BK1225 HB; have HO_4 := n0_; have HO_7 := n1_; have HO_1226000 := n2_; have HO1233 := n3_; have BK1209 := n4_; have BK1225 := n5_; have HB := n6_; clear n0_ n1_ n2_ n3_ n4_ n5_ n6_; (try clear hb); (try clear hb2); (try clear hk); (try clear hi)))
    go_meet
    case rel => exact ⟨_, (true), zr, H', ⟨by have := HJ10.out; first | omega | exact Nat.le_refl _⟩, ⟨zd6 HO_4.out⟩, ⟨zd4 HO_7.out⟩, ⟨zd0 HO_1226000.out⟩, ⟨mB_ BK1209.out⟩, ⟨mB_ BK1225.out⟩, ⟨zt GE1209.out GE1225.out⟩⟩
   case rest =>
    clear HC39
    try clear c2
    try clear p2
    try clear c3
    try clear c3b0
    try clear c4
    try clear c5
    try clear c8
    try clear c23
    try clear c27
    try clear c32
    try clear c34
    try clear c36
    try clear c37
    try clear c44
    try clear c47
    try clear c47b0
    try clear c48
    try clear c49
    try clear c50
    try clear hcz13_0
    try clear hcz13_1
    try clear hcz13_2
    try clear hcz15_0
    try clear hcz15_1
    try clear hcz15_2
    try clear hcz19_0
    try clear hcz19_1
    try clear hcz19_2
    try clear hcz24_0
    try clear hcz24_1
    try clear hcz24_2
    try clear hcz45_0
    try clear hcz45_1
    try clear hcz45_2
    try clear hcz5_0
    try clear hcz5_1
    try clear hcz5_2
    try clear hfz13_0
    try clear hfz13_1
    try clear hfz13_2
    try clear hfz15_0
    try clear hfz15_1
    try clear hfz15_2
    try clear hfz19_0
    try clear hfz19_1
    try clear hfz19_2
    try clear hfz24_0
    try clear hfz24_1
    try clear hfz24_2
    try clear hfz45_0
    try clear hfz45_1
    try clear hfz45_2
    try clear hfz5_0
    try clear hfz5_1
    try clear hfz5_2
    try clear p2
    obtain ⟨kq, x61_38, rfl, HA, HJ38, HO_4, HO_7, HO_1226000, BK1209, BK1225, HB⟩ := hcut
    have hl1226000_38 := (Kd.R_reads' HO_1226000.out).1
    rw [hl1226000_38] at HO_1226000
    (try simp only [hl1226000_38])
    (try simp only [hl1226000_38] at BK1209)
    (try simp only [hl1226000_38] at BK1225)
    (try simp only [hl1226000_38] at HO_4)
    (try simp only [hl1226000_38] at HO_7)
    cases kq with
    | zero => exact absurd HA.out (by simp [laws_FnExactFormsOfPiece.j1])
    | succ kj38 =>
     have H := HA.out
     clear HA
     simp only [laws_FnExactFormsOfPiece.j1] at H
     by_cases c56 : x61_38 = true
     ·subst c56
      have H1 : (some false) = some r := by rw [if_pos rfl] at H; exact H
      clear H
      have H := H1
      clear H1
      obtain rfl := Option.some.inj H
      go_wp2
      go_ret
      exact ⟨zw, zt GE1209.out GE1225.out⟩
     replace c56 := Bool.eq_false_iff.mpr c56
     subst c56
     have H1 : ((laws_markCellSS.f kj38 t1226 1).bind fun bt1240 => ((laws_heldCellSS.f kj38 bt1240.2 1).bind fun t1242 => (if t1242 < 0 then (some false) else (if t1242 = bt1240.1 then ((laws_toPiece.f kj38 l0_0 a0_1 a0_2).bind fun bt1243 => ((impl_FormsOfPiece.f kj38 bt1243.1 bt1243.2.1 bt1243.2.2).bind fun bt1248 => ((laws_eqCellSS.f kj38 bt1248.1 t1216).bind fun t1252 => (if t1252 = true then (laws_FnExactFormsOfPiece.j2 kj38 bt1240.2 bt1240.1 (bt1248.2 != t1219)) else (laws_FnExactFormsOfPiece.j2 kj38 bt1240.2 bt1240.1 true))))) else (some false))))) = some r := by rw [if_neg (show ¬ (false = true) by decide)] at H; exact H
     clear H
     have H := H1
     clear H1
     replace H := Option.bind_eq_some_iff.mp H
     obtain ⟨⟨t1240, t1241⟩, A570, H⟩ := H
     replace H : ((laws_heldCellSS.f kj38 t1241 1).bind fun t1242 => (if t1242 < 0 then (some false) else (if t1242 = t1240 then ((laws_toPiece.f kj38 l0_0 a0_1 a0_2).bind fun bt1243 => ((impl_FormsOfPiece.f kj38 bt1243.1 bt1243.2.1 bt1243.2.2).bind fun bt1248 => ((laws_eqCellSS.f kj38 bt1248.1 t1216).bind fun t1252 => (if t1252 = true then (laws_FnExactFormsOfPiece.j2 kj38 t1241 t1240 (bt1248.2 != t1219)) else (laws_FnExactFormsOfPiece.j2 kj38 t1241 t1240 true))))) else (some false)))) = some r := H
     have A57 := aM A570
     clear A570
     replace H := Option.bind_eq_some_iff.mp H
     obtain ⟨t1242, A580, H⟩ := H
     replace H : (if t1242 < 0 then (some false) else (if t1242 = t1240 then ((laws_toPiece.f kj38 l0_0 a0_1 a0_2).bind fun bt1243 => ((impl_FormsOfPiece.f kj38 bt1243.1 bt1243.2.1 bt1243.2.2).bind fun bt1248 => ((laws_eqCellSS.f kj38 bt1248.1 t1216).bind fun t1252 => (if t1252 = true then (laws_FnExactFormsOfPiece.j2 kj38 t1241 t1240 (bt1248.2 != t1219)) else (laws_FnExactFormsOfPiece.j2 kj38 t1241 t1240 true))))) else (some false))) = some r := H
     have A58 := aM A580
     clear A580
     by_cases c59 : t1242 < 0
     ·rw [if_pos c59] at H
      have c59b0 : decide (t1242 < 0) = true := decide_eq_true c59
      clear c59
      obtain rfl := Option.some.inj H
      obtain ⟨Ao60, co60, eo60⟩ := Kd.S_slice HO_7.out
      subst eo60
      go_wp2_with (first | ((with_reducible refine gate_callee (f := 51) rfl ?_); refine goesL_ (some 64) rfl rfl Try.func51 (by kernel_rfl) rfl #[.slice Ao60 t1226.length co60, .int .i64 1] rfl zm ?_; (with_reducible refine (laws_markCellSS.calls kj38 (fun k_ => some k_ ≠ (.slice Ao22 t1238.length co22 : Value).ownBlock ∧ NZ_ ≤ k_) (.slice Ao60 t1226.length co60) t1226 1 t1240 t1241 w _ ?side1 ?side2 A57.out).mono ?_); (case side1 => repeat (first | (with_reducible first | exact HB.out | apply below_alloc | apply pw_below_drewN | apply below_drew1 | refine below_set ?_ GE1209.out | refine below_set ?_ GE1225.out) | exact HB.out)); (case side2 => exact HO_7.out); rintro e w61 ⟨rfl, hy0, hb, hkp⟩; refine ⟨_, rfl, ?_⟩; have n0_ := aM (Kd.V_mono (ok' := fun k_ => k_ < NZ_ ∧ some k_ ≠ (.slice Ao22 t1238.length co22 : Value).ownBlock ∧ k_ ≠ gb1209 ∧ k_ ≠ gb1225) (Kd.V_keptB (HO_4.out) hkp (fun k_ hk_ hs_ => Nat.not_le.2 hk_.1 hs_.2)) (fun k_ hk_ => ⟨hk_.1.1, hk_.1.2.1, hk_.1.2.2.1, hk_.1.2.2.2⟩)); have n1_ := aM (hy0); have n2_ := aM (Kd.R_mono (ok' := fun k_ => True) (Kd.R_kept (R_self_ HO_1226000.out) hkp (fun k_ hk_ hs_ => hs_.1 hk_.symm)) (fun k_ hk_ => trivial)); have n3_ := aM (blk_kept (mB_ BK1209.out) hkp (fun hs_ => Nat.not_le.2 NG_gb1209.out hs_.2)); have n4_ := aM (blk_kept (mB_ BK1225.out) hkp (fun hs_ => Nat.not_le.2 NG_gb1225.out hs_.2)); have n5_ := aM (hb); clear HO_4 HO_7 HO_1226000 BK1209 BK1225 HB; have HO_4 := n0_; have HO_7 := n1_; have HO_1226000 := n2_; have BK1209 := n3_; have BK1225 := n4_; have HB := n5_; clear n0_ n1_ n2_ n3_ n4_ n5_; (try clear hb); (try clear hkp); (try clear hy0)) | ((with_reducible refine gate_callee (f := 52) rfl ?_); refine goesL_ (some 67) rfl rfl Try.func52 (by kernel_rfl) rfl #[.slice Ao60 t1241.length co60, .int .i64 1] rfl (by (try simp only [mA, mB, mC]); first | done | (rw [show t1241.length = t1226.length from (Kd.S_reads' HO_7.out).1.symm] <;> rfl) | rfl | (simp only [lD, lT]; rfl)) ?_; (with_reducible refine (laws_heldCellSS.calls kj38 _ _ t1241 1 t1242 _ ?side1 ?side2 A58.out).mono ?_); (case side1 => repeat (first | exact (Kd.S_reads' HO_7.out).2.2 | (with_reducible refine Kd.C_alloc ?_ _) | (with_reducible refine Kd.C_drewN ?_ _) | (with_reducible refine Kd.C_drew ?_))); (case side2 => rw [show t1241.length = t1226.length from (Kd.S_reads' HO_7.out).1.symm]; exact (Kd.S_reads' HO_7.out).2.1); rintro e w' ⟨rfl, ⟨nd, rfl⟩⟩; refine ⟨_, rfl, ?_⟩))
      go_ret
      exact ⟨zw, zt GE1209.out GE1225.out⟩
     rw [if_neg c59] at H
     have c59b0 : decide (t1242 < 0) = false := decide_eq_false c59
     clear c59
     by_cases c62 : t1242 = t1240
     rotate_left
     ·rw [if_neg c62] at H
      have c62b0 : (t1242 == t1240) = false := beq_eq_false_iff_ne.mpr c62
      have c62b1 : (t1242 != t1240) = true := bne_iff_ne.mpr c62
      obtain rfl := Option.some.inj H
      obtain ⟨Ao85, co85, eo85⟩ := Kd.S_slice HO_7.out
      subst eo85
      go_wp2_with (first | ((with_reducible refine gate_callee (f := 51) rfl ?_); refine goesL_ (some 64) rfl rfl Try.func51 (by kernel_rfl) rfl #[.slice Ao85 t1226.length co85, .int .i64 1] rfl zm ?_; (with_reducible refine (laws_markCellSS.calls kj38 (fun k_ => some k_ ≠ (.slice Ao22 t1238.length co22 : Value).ownBlock ∧ NZ_ ≤ k_) (.slice Ao85 t1226.length co85) t1226 1 t1240 t1241 w _ ?side1 ?side2 A57.out).mono ?_); (case side1 => repeat (first | (with_reducible first | exact HB.out | apply below_alloc | apply pw_below_drewN | apply below_drew1 | refine below_set ?_ GE1209.out | refine below_set ?_ GE1225.out) | exact HB.out)); (case side2 => exact HO_7.out); rintro e w86 ⟨rfl, hy0, hb, hkp⟩; refine ⟨_, rfl, ?_⟩; have n0_ := aM (Kd.V_mono (ok' := fun k_ => k_ < NZ_ ∧ some k_ ≠ (.slice Ao22 t1238.length co22 : Value).ownBlock ∧ k_ ≠ gb1209 ∧ k_ ≠ gb1225) (Kd.V_keptB (HO_4.out) hkp (fun k_ hk_ hs_ => Nat.not_le.2 hk_.1 hs_.2)) (fun k_ hk_ => ⟨hk_.1.1, hk_.1.2.1, hk_.1.2.2.1, hk_.1.2.2.2⟩)); have n1_ := aM (hy0); have n2_ := aM (Kd.R_mono (ok' := fun k_ => True) (Kd.R_kept (R_self_ HO_1226000.out) hkp (fun k_ hk_ hs_ => hs_.1 hk_.symm)) (fun k_ hk_ => trivial)); have n3_ := aM (blk_kept (mB_ BK1209.out) hkp (fun hs_ => Nat.not_le.2 NG_gb1209.out hs_.2)); have n4_ := aM (blk_kept (mB_ BK1225.out) hkp (fun hs_ => Nat.not_le.2 NG_gb1225.out hs_.2)); have n5_ := aM (hb); clear HO_4 HO_7 HO_1226000 BK1209 BK1225 HB; have HO_4 := n0_; have HO_7 := n1_; have HO_1226000 := n2_; have BK1209 := n3_; have BK1225 := n4_; have HB := n5_; clear n0_ n1_ n2_ n3_ n4_ n5_; (try clear hb); (try clear hkp); (try clear hy0)) | ((with_reducible refine gate_callee (f := 52) rfl ?_); refine goesL_ (some 67) rfl rfl Try.func52 (by kernel_rfl) rfl #[.slice Ao85 t1241.length co85, .int .i64 1] rfl (by (try simp only [mA, mB, mC]); first | done | (rw [show t1241.length = t1226.length from (Kd.S_reads' HO_7.out).1.symm] <;> rfl) | rfl | (simp only [lD, lT]; rfl)) ?_; (with_reducible refine (laws_heldCellSS.calls kj38 _ _ t1241 1 t1242 _ ?side1 ?side2 A58.out).mono ?_); (case side1 => repeat (first | exact (Kd.S_reads' HO_7.out).2.2 | (with_reducible refine Kd.C_alloc ?_ _) | (with_reducible refine Kd.C_drewN ?_ _) | (with_reducible refine Kd.C_drew ?_))); (case side2 => rw [show t1241.length = t1226.length from (Kd.S_reads' HO_7.out).1.symm]; exact (Kd.S_reads' HO_7.out).2.1); rintro e w' ⟨rfl, ⟨nd, rfl⟩⟩; refine ⟨_, rfl, ?_⟩))
      go_ret
      exact ⟨zw, zt GE1209.out GE1225.out⟩
     rw [if_pos c62] at H
     have c62b0 : (t1242 == t1240) = true := beq_iff_eq.mpr c62
     have c62b1 : (t1242 != t1240) = false := bne_eq_false_iff_eq.mpr c62
     clear c62
     replace H := Option.bind_eq_some_iff.mp H
     obtain ⟨⟨t1243, t1246, t1247⟩, A630, H⟩ := H
     replace H : ((impl_FormsOfPiece.f kj38 t1243 t1246 t1247).bind fun bt1248 => ((laws_eqCellSS.f kj38 bt1248.1 t1216).bind fun t1252 => (if t1252 = true then (laws_FnExactFormsOfPiece.j2 kj38 t1241 t1240 (bt1248.2 != t1219)) else (laws_FnExactFormsOfPiece.j2 kj38 t1241 t1240 true)))) = some r := H
     have A63 := aM A630
     clear A630
     replace H := Option.bind_eq_some_iff.mp H
     obtain ⟨⟨t1248, t1251⟩, A640, H⟩ := H
     replace H : ((laws_eqCellSS.f kj38 t1248 t1216).bind fun t1252 => (if t1252 = true then (laws_FnExactFormsOfPiece.j2 kj38 t1241 t1240 (t1251 != t1219)) else (laws_FnExactFormsOfPiece.j2 kj38 t1241 t1240 true))) = some r := H
     have A64 := aM A640
     clear A640
     have HC65 := aM H
     clear H
     obtain ⟨Ao66, co66, eo66⟩ := Kd.S_slice HO_7.out
     subst eo66
     go_upto_region 25 with (first | ((with_reducible refine gate_callee (f := 51) rfl ?_); refine goesL_ (some 64) rfl rfl Try.func51 (by kernel_rfl) rfl #[.slice Ao66 t1226.length co66, .int .i64 1] rfl zm ?_; (with_reducible refine (laws_markCellSS.calls kj38 (fun k_ => some k_ ≠ (.slice Ao22 t1238.length co22 : Value).ownBlock ∧ NZ_ ≤ k_) (.slice Ao66 t1226.length co66) t1226 1 t1240 t1241 w _ ?side1 ?side2 A57.out).mono ?_); (case side1 => repeat (first | (with_reducible first | exact HB.out | apply below_alloc | apply pw_below_drewN | apply below_drew1 | refine below_set ?_ GE1209.out | refine below_set ?_ GE1225.out) | exact HB.out)); (case side2 => exact HO_7.out); rintro e w67 ⟨rfl, hy0, hb, hkp⟩; refine ⟨_, rfl, ?_⟩; have n0_ := aM (Kd.V_mono (ok' := fun k_ => k_ < NZ_ ∧ some k_ ≠ (.slice Ao22 t1238.length co22 : Value).ownBlock ∧ k_ ≠ gb1209 ∧ k_ ≠ gb1225) (Kd.V_keptB (HO_4.out) hkp (fun k_ hk_ hs_ => Nat.not_le.2 hk_.1 hs_.2)) (fun k_ hk_ => ⟨hk_.1.1, hk_.1.2.1, hk_.1.2.2.1, hk_.1.2.2.2⟩)); have n1_ := aM (hy0); have n2_ := aM (Kd.R_mono (ok' := fun k_ => True) (Kd.R_kept (R_self_ HO_1226000.out) hkp (fun k_ hk_ hs_ => hs_.1 hk_.symm)) (fun k_ hk_ => trivial)); have n3_ := aM (blk_kept (mB_ BK1209.out) hkp (fun hs_ => Nat.not_le.2 NG_gb1209.out hs_.2)); have n4_ := aM (blk_kept (mB_ BK1225.out) hkp (fun hs_ => Nat.not_le.2 NG_gb1225.out hs_.2)); have n5_ := aM (hb); clear HO_4 HO_7 HO_1226000 BK1209 BK1225 HB; have HO_4 := n0_; have HO_7 := n1_; have HO_1226000 := n2_; have BK1209 := n3_; have BK1225 := n4_; have HB := n5_; clear n0_ n1_ n2_ n3_ n4_ n5_; (try clear hb); (try clear hkp); (try clear hy0)) | ((with_reducible refine gate_callee (f := 52) rfl ?_); refine goesL_ (some 67) rfl rfl Try.func52 (by kernel_rfl) rfl #[.slice Ao66 t1241.length co66, .int .i64 1] rfl (by (try simp only [mA, mB, mC]); first | done | (rw [show t1241.length = t1226.length from (Kd.S_reads' HO_7.out).1.symm] <;> rfl) | rfl | (simp only [lD, lT]; rfl)) ?_; (with_reducible refine (laws_heldCellSS.calls kj38 _ _ t1241 1 t1242 _ ?side1 ?side2 A58.out).mono ?_); (case side1 => repeat (first | exact (Kd.S_reads' HO_7.out).2.2 | (with_reducible refine Kd.C_alloc ?_ _) | (with_reducible refine Kd.C_drewN ?_ _) | (with_reducible refine Kd.C_drew ?_))); (case side2 => rw [show t1241.length = t1226.length from (Kd.S_reads' HO_7.out).1.symm]; exact (Kd.S_reads' HO_7.out).2.1); rintro e w' ⟨rfl, ⟨nd, rfl⟩⟩; refine ⟨_, rfl, ?_⟩; have hnb68 := NB1209_1225.out; have hnc68 := NB1225_1209.out; have hcz69_0 : w67.cell? ⟨gb1209, 0, none⟩ = some (.slice A0_0 l0_0.length c0_0) := (blk_cell BK1209.out 0).trans rfl; have hcz69_1 : w67.cell? ⟨gb1209, 1, none⟩ = some (.int .i64 a0_1) := (blk_cell BK1209.out 1).trans rfl; have hcz69_2 : w67.cell? ⟨gb1209, 2, none⟩ = some (.bool a0_2) := (blk_cell BK1209.out 2).trans rfl; have hfz69_0 := blk_frozen BK1209.out 0; have hfz69_1 := blk_frozen BK1209.out 1; have hfz69_2 := blk_frozen BK1209.out 2) | ((with_reducible refine gate_callee (f := 34) rfl ?_); refine goesL_ (some 75) rfl rfl Try.func34 (by kernel_rfl) rfl #[.agg #[.slice A0_0 l0_0.length c0_0, .int .i64 a0_1, .bool a0_2]] rfl zm ?_; (with_reducible refine (laws_toPiece.calls kj38 _ _ l0_0 a0_1 a0_2 t1243 t1246 t1247 _ ?side1 ?side2 A63.out).mono ?_); (case side1 => repeat (first | exact (Kd.C_below HR0_0.out (zt GE1209.out GE1225.out)) | (with_reducible refine Kd.C_alloc ?_ _) | (with_reducible refine Kd.C_drewN ?_ _) | (with_reducible refine Kd.C_drew ?_))); (case side2 => exact HC0_0.out); rintro e w70 ⟨v1244, rfl, ho0, hb⟩; refine ⟨_, rfl, ?_⟩; have n0_ := aM (Kd.V_elder' (mV_ HO_4.out) (Kd.R_base ho0) hb); have n1_ := aM (Kd.S_elder' (mS_ HO_7.out) (Kd.R_base ho0) hb); have n2_ := aM (Kd.R_elder' (mR_ HO_1226000.out) (Kd.R_base ho0) hb); have n3_ := aM (Kd.R_lower (Kd.R_new' ho0 (Kd.R_lt (mR_ HO_1226000.out))) (below_size (zt GE1209.out GE1225.out))); have n4_ := aM (blk_below (g := gb1209) (o := .cells #[.slice A0_0 l0_0.length c0_0, .int .i64 a0_1, .bool a0_2] 47 (0, 0)) (mB_ BK1209.out) hb); have n5_ := aM (blk_below (g := gb1225) (o := .cells #[.slice Ao22 t1238.length co22, .int .i64 t1223, .bool t1224] 51 (0, 0)) (mB_ BK1225.out) hb); have n6_ := aM (below_step (zt GE1209.out GE1225.out) hb); clear HO_4 HO_7 HO_1226000 BK1209 BK1225 HB; have HO_4 := n0_; have HO_7 := n1_; have HO_1226000 := n2_; have HO1245 := n3_; have BK1209 := n4_; have BK1225 := n5_; have HB := n6_; clear n0_ n1_ n2_ n3_ n4_ n5_ n6_; (try clear hb); (try clear hb2); (try clear hk); (try clear hi); (try clear ho0); obtain ⟨Ao71, co71, eo71⟩ := Kd.R_slice HO1245.out; subst eo71) | ((with_reducible refine gate_callee (f := 48) rfl ?_); refine goesL_ (some 76) rfl rfl Try.func48 (by kernel_rfl) rfl #[.agg #[.slice Ao71 t1243.length co71, .int .i64 t1246, .bool t1247]] rfl zm ?_; (with_reducible refine (impl_FormsOfPiece.calls kj38 _ _ t1243 t1246 t1247 t1248 t1251 _ ?side1 ?side2 A64.out).mono ?_); (case side1 => exact zc HO1245.out); (case side2 => exact (Kd.R_reads' HO1245.out).2.1); rintro e w72 ⟨v1249, rfl, ho0, hb⟩; refine ⟨_, rfl, ?_⟩; have n0_ := aM (Kd.V_elder' (mV_ HO_4.out) (Kd.S_base ho0) hb); have n1_ := aM (Kd.S_elder' (mS_ HO_7.out) (Kd.S_base ho0) hb); have n2_ := aM (Kd.R_below (mR_ HO_1226000.out) hb); have n3_ := aM (Kd.R_below (mR_ HO1245.out) hb); have n4_ := aM (Kd.S_lower (Kd.S_new' (Kd.S_new' (Kd.S_new' ho0 (Kd.S_lt (mS_ HO_7.out))) (Kd.R_lt (mR_ HO_1226000.out))) (Kd.R_lt (mR_ HO1245.out))) (below_size (zt GE1209.out GE1225.out))); have n5_ := aM (blk_below (g := gb1209) (o := .cells #[.slice A0_0 l0_0.length c0_0, .int .i64 a0_1, .bool a0_2] 47 (0, 0)) (mB_ BK1209.out) hb); have n6_ := aM (blk_below (g := gb1225) (o := .cells #[.slice Ao22 t1238.length co22, .int .i64 t1223, .bool t1224] 51 (0, 0)) (mB_ BK1225.out) hb); have n7_ := aM (below_step (zt GE1209.out GE1225.out) hb); clear HO_4 HO_7 HO_1226000 HO1245 BK1209 BK1225 HB; have HO_4 := n0_; have HO_7 := n1_; have HO_1226000 := n2_; have HO1245 := n3_; have HO1250 := n4_; have BK1209 := n5_; have BK1225 := n6_; have HB := n7_; clear n0_ n1_ n2_ n3_ n4_ n5_ n6_ n7_; (try clear hb); (try clear hb2); (try clear hk); (try clear hi); (try clear ho0)))
     (try simp only [Act.put, xA, xB, xC])
     go_cut [87] (fun v87 wc => ∃ (kq : Nat) (x87_64 : Bool), v87 = .bool x87_64 ∧ Aside0 (laws_FnExactFormsOfPiece.j2 kq t1241 t1240 x87_64 = some r) ∧ Aside0 (kq ≤ kj38) ∧ Aside0 (Kd.S (Kd.slice 59 k59) 24 wc w.heap.size (fun _ => True) (.slice Ao66 t1226.length co66) t1241) ∧ Aside0 (Kd.R k59 59 wc w.heap.size (fun _ => True) (.slice Ao22 t1238.length co22) t1238) ∧ Aside0 (wc.heap[gb1209]? = some (.cells #[(.slice A0_0 l0_0.length c0_0), .int .i64 a0_1, .bool a0_2] 47 (0, 0))) ∧ Aside0 (wc.heap[gb1225]? = some (.cells #[(.slice Ao22 t1238.length co22), .int .i64 t1223, .bool t1224] 51 (0, 0))) ∧ Aside0 (Below w.heap.size w wc))
     case first =>
      have H := HC65.out
      clear HC65
      replace H := Option.bind_eq_some_iff.mp H
      obtain ⟨t1252, A730, H⟩ := H
      replace H : (if t1252 = true then (laws_FnExactFormsOfPiece.j2 kj38 t1241 t1240 (t1251 != t1219)) else (laws_FnExactFormsOfPiece.j2 kj38 t1241 t1240 true)) = some r := H
      have A73 := aM A730
      clear A730
      by_cases c74 : t1252 = true
      ·subst c74
       have H1 : (laws_FnExactFormsOfPiece.j2 kj38 t1241 t1240 (t1251 != t1219)) = some r := by rw [if_pos rfl] at H; exact H
       clear H
       have H := H1
       clear H1
       have H' := aM H
       clear H
       obtain ⟨Ao75, co75, eo75⟩ := Kd.S_slice HO1250.out
       subst eo75
       obtain ⟨Ao76, co76, eo76⟩ := Kd.V_slice HO_4.out
       subst eo76
       go_wp2_with (first | ((with_reducible refine gate_callee (f := 49) rfl ?_); refine goesL_ (some 81) rfl rfl Try.func49 (by kernel_rfl) rfl #[.slice Ao75 t1248.length co75, .slice Ao76 t1216.length co76] rfl zm ?_; (with_reducible refine (laws_eqCellSS.calls kj38 _ _ t1248 _ _ t1216 true _ ?side1 ?side2 ?side3 ?side4 A73.out).mono ?_); (case side1 => repeat (first | exact (Kd.S_reads' HO1250.out).2.2 | (with_reducible refine Kd.C_alloc ?_ _) | (with_reducible refine Kd.C_drewN ?_ _) | (with_reducible refine Kd.C_drew ?_))); (case side2 => exact (Kd.S_reads' HO1250.out).2.1); (case side3 => repeat (first | exact (Kd.V_reads' HO_4.out).2.2 | (with_reducible refine Kd.C_alloc ?_ _) | (with_reducible refine Kd.C_drewN ?_ _) | (with_reducible refine Kd.C_drew ?_))); (case side4 => exact (Kd.V_reads' HO_4.out).2.1); rintro e w77 ⟨rfl, hb⟩; refine ⟨_, rfl, ?_⟩; have n0_ := aM (Kd.V_below (mV_ HO_4.out) hb); have n1_ := aM (Kd.S_below (mS_ HO_7.out) hb); have n2_ := aM (Kd.R_below (mR_ HO_1226000.out) hb); have n3_ := aM (Kd.R_below (mR_ HO1245.out) hb); have n4_ := aM (Kd.S_below (mS_ HO1250.out) hb); have n5_ := aM (blk_below (g := gb1209) (o := .cells #[.slice A0_0 l0_0.length c0_0, .int .i64 a0_1, .bool a0_2] 47 (0, 0)) (mB_ BK1209.out) hb); have n6_ := aM (blk_below (g := gb1225) (o := .cells #[.slice Ao22 t1238.length co22, .int .i64 t1223, .bool t1224] 51 (0, 0)) (mB_ BK1225.out) hb); have n7_ := aM (below_step (zt GE1209.out GE1225.out) hb); clear HO_4 HO_7 HO_1226000 HO1245 HO1250 BK1209 BK1225 HB; have HO_4 := n0_; have HO_7 := n1_; have HO_1226000 := n2_; have HO1245 := n3_; have HO1250 := n4_; have BK1209 := n5_; have BK1225 := n6_; have HB := n7_; clear n0_ n1_ n2_ n3_ n4_ n5_ n6_ n7_; (try clear hb); (try clear hb2); (try clear hk); (try clear hi)))
       go_meet
       case rel => exact ⟨_, ((t1251 != t1219)), zr, H', ⟨by have := HJ10.out; have := HJ38.out; first | omega | exact Nat.le_refl _⟩, ⟨by (try simp only [hl1226000_38]); (with_reducible repeat (first | apply Kd.S_alloc | apply Kd.S_drewN | apply Kd.S_drew)); exact Kd.S_mono HO_7.out (fun _ _ => trivial)⟩, ⟨by (try simp only [hl1226000_38]); (with_reducible repeat (first | apply Kd.R_alloc | apply Kd.R_drewN | apply Kd.R_drew)); exact Kd.R_mono HO_1226000.out (fun _ hk => trivial)⟩, ⟨by (try simp only [hl1226000_38]); (with_reducible repeat (first | refine blk_drewN ?_ _ | refine blk_drew ?_ | refine blk_alloc ?_ _)); exact BK1209.out⟩, ⟨by (try simp only [hl1226000_38]); (with_reducible repeat (first | refine blk_drewN ?_ _ | refine blk_drew ?_ | refine blk_alloc ?_ _)); exact BK1225.out⟩, ⟨zt GE1209.out GE1225.out⟩⟩
      replace c74 := Bool.eq_false_iff.mpr c74
      subst c74
      have H1 : (laws_FnExactFormsOfPiece.j2 kj38 t1241 t1240 true) = some r := by rw [if_neg (show ¬ (false = true) by decide)] at H; exact H
      clear H
      have H := H1
      clear H1
      have H' := aM H
      clear H
      obtain ⟨Ao78, co78, eo78⟩ := Kd.S_slice HO1250.out
      subst eo78
      obtain ⟨Ao79, co79, eo79⟩ := Kd.V_slice HO_4.out
      subst eo79
      go_wp2_with (first | ((with_reducible refine gate_callee (f := 49) rfl ?_); refine goesL_ (some 81) rfl rfl Try.func49 (by kernel_rfl) rfl #[.slice Ao78 t1248.length co78, .slice Ao79 t1216.length co79] rfl zm ?_; (with_reducible refine (laws_eqCellSS.calls kj38 _ _ t1248 _ _ t1216 false _ ?side1 ?side2 ?side3 ?side4 A73.out).mono ?_); (case side1 => repeat (first | exact (Kd.S_reads' HO1250.out).2.2 | (with_reducible refine Kd.C_alloc ?_ _) | (with_reducible refine Kd.C_drewN ?_ _) | (with_reducible refine Kd.C_drew ?_))); (case side2 => exact (Kd.S_reads' HO1250.out).2.1); (case side3 => repeat (first | exact (Kd.V_reads' HO_4.out).2.2 | (with_reducible refine Kd.C_alloc ?_ _) | (with_reducible refine Kd.C_drewN ?_ _) | (with_reducible refine Kd.C_drew ?_))); (case side4 => exact (Kd.V_reads' HO_4.out).2.1); rintro e w80 ⟨rfl, hb⟩; refine ⟨_, rfl, ?_⟩; have n0_ := aM (Kd.V_below (mV_ HO_4.out) hb); have n1_ := aM (Kd.S_below (mS_ HO_7.out) hb); have n2_ := aM (Kd.R_below (mR_ HO_1226000.out) hb); have n3_ := aM (Kd.R_below (mR_ HO1245.out) hb); have n4_ := aM (Kd.S_below (mS_ HO1250.out) hb); have n5_ := aM (blk_below (g := gb1209) (o := .cells #[.slice A0_0 l0_0.length c0_0, .int .i64 a0_1, .bool a0_2] 47 (0, 0)) (mB_ BK1209.out) hb); have n6_ := aM (blk_below (g := gb1225) (o := .cells #[.slice Ao22 t1238.length co22, .int .i64 t1223, .bool t1224] 51 (0, 0)) (mB_ BK1225.out) hb); have n7_ := aM (below_step (zt GE1209.out GE1225.out) hb); clear HO_4 HO_7 HO_1226000 HO1245 HO1250 BK1209 BK1225 HB; have HO_4 := n0_; have HO_7 := n1_; have HO_1226000 := n2_; have HO1245 := n3_; have HO1250 := n4_; have BK1209 := n5_; have BK1225 := n6_; have HB := n7_; clear n0_ n1_ n2_ n3_ n4_ n5_ n6_ n7_; (try clear hb); (try clear hb2); (try clear hk); (try clear hi)))
      go_meet
      case rel => exact ⟨_, (true), zr, H', ⟨by have := HJ10.out; have := HJ38.out; first | omega | exact Nat.le_refl _⟩, ⟨by (try simp only [hl1226000_38]); (with_reducible repeat (first | apply Kd.S_alloc | apply Kd.S_drewN | apply Kd.S_drew)); exact Kd.S_mono HO_7.out (fun _ _ => trivial)⟩, ⟨by (try simp only [hl1226000_38]); (with_reducible repeat (first | apply Kd.R_alloc | apply Kd.R_drewN | apply Kd.R_drew)); exact Kd.R_mono HO_1226000.out (fun _ hk => trivial)⟩, ⟨by (try simp only [hl1226000_38]); (with_reducible repeat (first | refine blk_drewN ?_ _ | refine blk_drew ?_ | refine blk_alloc ?_ _)); exact BK1209.out⟩, ⟨by (try simp only [hl1226000_38]); (with_reducible repeat (first | refine blk_drewN ?_ _ | refine blk_drew ?_ | refine blk_alloc ?_ _)); exact BK1225.out⟩, ⟨zt GE1209.out GE1225.out⟩⟩
     case rest =>
      clear HC65
      try clear c2
      try clear p2
      try clear c3
      try clear c3b0
      try clear c4
      try clear c5
      try clear c6
      try clear c7
      try clear c8
      try clear c23
      try clear c27
      try clear c32
      try clear c34
      try clear c36
      try clear c37
      try clear c44
      try clear c47
      try clear c47b0
      try clear c48
      try clear c49
      try clear c50
      try clear c51
      try clear c52
      try clear c56
      try clear c59
      try clear c59b0
      try clear c62
      try clear c62b0
      try clear c62b1
      try clear c68
      try clear c74
      try clear hcz13_0
      try clear hcz13_1
      try clear hcz13_2
      try clear hcz15_0
      try clear hcz15_1
      try clear hcz15_2
      try clear hcz19_0
      try clear hcz19_1
      try clear hcz19_2
      try clear hcz24_0
      try clear hcz24_1
      try clear hcz24_2
      try clear hcz45_0
      try clear hcz45_1
      try clear hcz45_2
      try clear hcz5_0
      try clear hcz5_1
      try clear hcz5_2
      try clear hcz69_0
      try clear hcz69_1
      try clear hcz69_2
      try clear hfz13_0
      try clear hfz13_1
      try clear hfz13_2
      try clear hfz15_0
      try clear hfz15_1
      try clear hfz15_2
      try clear hfz19_0
      try clear hfz19_1
      try clear hfz19_2
      try clear hfz24_0
      try clear hfz24_1
      try clear hfz24_2
      try clear hfz45_0
      try clear hfz45_1
      try clear hfz45_2
      try clear hfz5_0
      try clear hfz5_1
      try clear hfz5_2
      try clear hfz69_0
      try clear hfz69_1
      try clear hfz69_2
      try clear p2
      obtain ⟨kq, x87_64, rfl, HA, HJ64, HO_7, HO_1226000, BK1209, BK1225, HB⟩ := hcut
      have hl7_64 := (Kd.S_reads' HO_7.out).1
      rw [hl7_64] at HO_7
      (try simp only [hl7_64])
      (try simp only [hl7_64] at BK1209)
      (try simp only [hl7_64] at BK1225)
      (try simp only [hl7_64] at HO_1226000)
      cases kq with
      | zero => exact absurd HA.out (by simp [laws_FnExactFormsOfPiece.j2])
      | succ kj64 =>
       have H := HA.out
       clear HA
       simp only [laws_FnExactFormsOfPiece.j2] at H
       by_cases c81 : x87_64 = true
       ·subst c81
        have H1 : (some false) = some r := by rw [if_pos rfl] at H; exact H
        clear H
        have H := H1
        clear H1
        obtain rfl := Option.some.inj H
        go_wp2
        go_ret
        exact ⟨zw, zt GE1209.out GE1225.out⟩
       replace c81 := Bool.eq_false_iff.mpr c81
       subst c81
       have H1 : ((laws_heldCellSS.f kj64 t1241 1).bind fun t1253 => (if t1253 < 0 then (some false) else (if t1253 = t1240 then (some true) else (some false)))) = some r := by rw [if_neg (show ¬ (false = true) by decide)] at H; exact H
       clear H
       have H := H1
       clear H1
       replace H := Option.bind_eq_some_iff.mp H
       obtain ⟨t1253, A820, H⟩ := H
       replace H : (if t1253 < 0 then (some false) else (if t1253 = t1240 then (some true) else (some false))) = some r := H
       have A82 := aM A820
       clear A820
       by_cases c83 : t1253 < 0
       ·rw [if_pos c83] at H
        have c83b0 : decide (t1253 < 0) = true := decide_eq_true c83
        clear c83
        obtain rfl := Option.some.inj H
        go_wp2_with (first | ((with_reducible refine gate_callee (f := 52) rfl ?_); refine goesL_ (some 90) rfl rfl Try.func52 (by kernel_rfl) rfl #[.slice Ao66 t1241.length co66, .int .i64 1] rfl zm ?_; (with_reducible refine (laws_heldCellSS.calls kj64 _ _ t1241 1 t1253 _ ?side1 ?side2 A82.out).mono ?_); (case side1 => repeat (first | exact (Kd.S_reads' HO_7.out).2.2 | (with_reducible refine Kd.C_alloc ?_ _) | (with_reducible refine Kd.C_drewN ?_ _) | (with_reducible refine Kd.C_drew ?_))); (case side2 => exact (Kd.S_reads' HO_7.out).2.1); rintro e w' ⟨rfl, ⟨nd, rfl⟩⟩; refine ⟨_, rfl, ?_⟩))
        go_ret
        exact ⟨zw, zt GE1209.out GE1225.out⟩
       rw [if_neg c83] at H
       have c83b0 : decide (t1253 < 0) = false := decide_eq_false c83
       clear c83
       by_cases c84 : t1253 = t1240
       rotate_left
       ·rw [if_neg c84] at H
        have c84b0 : (t1253 == t1240) = false := beq_eq_false_iff_ne.mpr c84
        have c84b1 : (t1253 != t1240) = true := bne_iff_ne.mpr c84
        obtain rfl := Option.some.inj H
        go_wp2_with (first | ((with_reducible refine gate_callee (f := 52) rfl ?_); refine goesL_ (some 90) rfl rfl Try.func52 (by kernel_rfl) rfl #[.slice Ao66 t1241.length co66, .int .i64 1] rfl zm ?_; (with_reducible refine (laws_heldCellSS.calls kj64 _ _ t1241 1 t1253 _ ?side1 ?side2 A82.out).mono ?_); (case side1 => repeat (first | exact (Kd.S_reads' HO_7.out).2.2 | (with_reducible refine Kd.C_alloc ?_ _) | (with_reducible refine Kd.C_drewN ?_ _) | (with_reducible refine Kd.C_drew ?_))); (case side2 => exact (Kd.S_reads' HO_7.out).2.1); rintro e w' ⟨rfl, ⟨nd, rfl⟩⟩; refine ⟨_, rfl, ?_⟩))
        go_ret
        exact ⟨zw, zt GE1209.out GE1225.out⟩
       rw [if_pos c84] at H
       have c84b0 : (t1253 == t1240) = true := beq_iff_eq.mpr c84
       have c84b1 : (t1253 != t1240) = false := bne_eq_false_iff_eq.mpr c84
       clear c84
       obtain rfl := Option.some.inj H
       go_wp2_with (first | ((with_reducible refine gate_callee (f := 52) rfl ?_); refine goesL_ (some 90) rfl rfl Try.func52 (by kernel_rfl) rfl #[.slice Ao66 t1241.length co66, .int .i64 1] rfl zm ?_; (with_reducible refine (laws_heldCellSS.calls kj64 _ _ t1241 1 t1253 _ ?side1 ?side2 A82.out).mono ?_); (case side1 => repeat (first | exact (Kd.S_reads' HO_7.out).2.2 | (with_reducible refine Kd.C_alloc ?_ _) | (with_reducible refine Kd.C_drewN ?_ _) | (with_reducible refine Kd.C_drew ?_))); (case side2 => exact (Kd.S_reads' HO_7.out).2.1); rintro e w' ⟨rfl, ⟨nd, rfl⟩⟩; refine ⟨_, rfl, ?_⟩))
       go_ret
       exact ⟨zw, zt GE1209.out GE1225.out⟩
end Go.Proofs.Ytfdfdifjkaaeoaa.F
end
section
namespace Go.Proofs.Ytfdfdifjkaaeoaa.Open
open Go.ChangeShapes Go.WideShapes Go.Deep Go.RowKit Go.Proofs.YtfdfdifjkaaeoaaW.PrintWords
def Opens {α : Type} (P : Program) (d : Kd α) (t : TypeId) (V : α → Prop) : Prop :=
  ∀ (H : Type) (enc : TypeId × Value → H) (w : World) (base : Nat) (spare : Nat → Bool) (held : Bool) (fuel : Nat) (cs : List Value) (x : DataW H × List MemPlace),
    DataW.trod enc P w base spare held fuel t cs = some x → ∃ a : α, d.K w a cs ∧ V a
theorem Opens.int {P : Program} {t : TypeId} {k : IntKind} (ht : P.underlying t = some (.int k)) : Opens P (Kd.int k) t (fun a => (Lit.int k a).wf = true) := by
  intro H enc w base spare held fuel cs x h
  obtain ⟨n, hcs, _, hw⟩ := DataW.trod_int ht h
  exact ⟨n, hcs, hw⟩
theorem Opens.bool {P : Program} {t : TypeId} (ht : P.underlying t = some .bool) : Opens P Kd.bool t (fun _ => True) := by
  intro H enc w base spare held fuel cs x h
  obtain ⟨b, hcs, _⟩ := DataW.trod_bool ht h
  exact ⟨b, hcs, trivial⟩
theorem Opens.slice {α : Type} [Inhabited α] {P : Program} {t e : TypeId} {d : Kd α} {V : α → Prop} (ht : P.underlying t = some (.slice e)) (hsz : P.cellsOf e = d.sz) (ho : Opens P d e V) :
    Opens P (Kd.slice e d) t (fun l => l.length ≤ 9223372036854775807 ∧ ∀ a ∈ l, V a) := by
  intro H enc w base spare held fuel cs x h
  rcases open_slice ht h with ⟨rfl, _⟩ | ⟨a, len, cap, m, n, D, Pl, rfl, hb, hl, hm, hmm, _, hi⟩
  · exact ⟨[], ⟨none, 0, rfl, Nat.le_refl _, rfl, by simp, fun hp => absurd hp (by simp)⟩, by simp, by simp⟩
  · have hlm : len ≤ m := by rw [hmm]; split <;> omega
    have hx : ∀ i, i < len → ∃ y : α, V y ∧ ∃ c : List Value, c.length = d.sz ∧ d.K w y c ∧ ∀ j u, c[j]? = some u → w.cell? (a.add (i * d.sz + j)) = some u := by
      intro i hil
      obtain ⟨cs', hc, ht'⟩ := hi i (by omega)
      obtain ⟨y, hk, hv⟩ := ho H enc w base spare held n cs' _ ht'
      obtain ⟨_, hcl, hat⟩ := World.cells?_some hc
      refine ⟨y, hv, cs', d.K_len hk, hk, fun j u hj => ?_⟩
      have hjl : j < cs'.length := (List.getElem?_eq_some_iff.1 hj).1
      have := hat j (by rw [hsz, ← d.K_len hk]; exact hjl)
      rw [Go.Deep.add_add, hsz] at this
      rw [this, hj]
    obtain ⟨f, hf⟩ := choose_lt hx
    have hlen : ((List.range len).map f).length = len := by simp
    refine ⟨(List.range len).map f, ⟨some a, cap, by rw [hlen], by rw [hlen]; exact hl, rfl, ?_, fun _ => ⟨a, rfl, fun j p hj => ?_⟩⟩, ?_⟩
    · rw [hlen]; unfold maxLen at hm; omega
    · have hjl : j < len := by
        have := (List.getElem?_eq_some_iff.1 hj).1
        rwa [hlen] at this
      have hp : f j = p := by
        rw [List.getElem?_map, List.getElem?_range hjl] at hj
        simpa using hj
      obtain ⟨_, c, h1, h2, h3⟩ := hf j hjl
      rw [hp] at h2
      exact ⟨c, h1, h2, h3⟩
    · refine ⟨by rw [hlen]; unfold maxLen at hm; omega, fun y hy => ?_⟩
      obtain ⟨i, hi', rfl⟩ := List.mem_map.1 hy
      exact (hf i (List.mem_range.1 hi')).1
theorem cut2 {cs : List Value} {n m : Nat} (h : cs.length = n + m) : cs = (cs.drop 0).take n ++ (cs.drop n).take m := by
  rw [List.drop_zero, List.take_of_length_le (l := cs.drop n) (by rw [List.length_drop]; omega), List.take_append_drop]
theorem Opens.struct2 {α β γ : Type} {P : Program} {t : TypeId} {f0 f1 : Field} {d0 : Kd α} {d1 : Kd β} {V0 : α → Prop} {V1 : β → Prop} (g : γ → α × β) (g' : α → β → γ) (hg : ∀ x y, g (g' x y) = (x, y))
    (ht : P.underlying t = some (.struct #[f0, f1])) (o0 : f0.offset = 0) (o1 : f1.offset = d0.sz) (s0 : P.cellsOf f0.type = d0.sz) (s1 : P.cellsOf f1.type = d1.sz) (sz : P.cellsOf t = d0.sz + d1.sz)
    (h0 : Opens P d0 f0.type V0) (h1 : Opens P d1 f1.type V1) : Opens P (Kd.iso (Kd.pair d0 d1) g) t (fun a => V0 (g a).1 ∧ V1 (g a).2) := by
  intro H enc w base spare held fuel cs x h
  obtain ⟨y0, y1, n, _, hl, t0, t1⟩ := trod_struct2 ht h
  rw [o0, s0] at t0
  rw [o1, s1] at t1
  obtain ⟨x0, k0, v0⟩ := h0 _ _ _ _ _ _ _ _ _ t0
  obtain ⟨x1, k1, v1⟩ := h1 _ _ _ _ _ _ _ _ _ t1
  refine ⟨g' x0 x1, ?_, ?_⟩
  · show ∃ c0 c1, cs = c0 ++ c1 ∧ d0.K w (g (g' x0 x1)).1 c0 ∧ d1.K w (g (g' x0 x1)).2 c1
    rw [hg]
    exact ⟨_, _, cut2 (by rw [hl, sz]), k0, k1⟩
  · simp only [hg]; exact ⟨v0, v1⟩
theorem Opens.struct3 {α β γ δ : Type} {P : Program} {t : TypeId} {f0 f1 f2 : Field} {d0 : Kd α} {d1 : Kd β} {d2 : Kd γ} {V0 : α → Prop} {V1 : β → Prop} {V2 : γ → Prop} (g : δ → α × β × γ) (g' : α → β → γ → δ) (hg : ∀ x y z, g (g' x y z) = (x, y, z))
    (ht : P.underlying t = some (.struct #[f0, f1, f2])) (o0 : f0.offset = 0) (o1 : f1.offset = d0.sz) (o2 : f2.offset = d0.sz + d1.sz) (s0 : P.cellsOf f0.type = d0.sz) (s1 : P.cellsOf f1.type = d1.sz) (s2 : P.cellsOf f2.type = d2.sz) (sz : P.cellsOf t = d0.sz + (d1.sz + d2.sz))
    (h0 : Opens P d0 f0.type V0) (h1 : Opens P d1 f1.type V1) (h2 : Opens P d2 f2.type V2) : Opens P (Kd.iso (Kd.pair d0 (Kd.pair d1 d2)) g) t (fun a => V0 (g a).1 ∧ V1 (g a).2.1 ∧ V2 (g a).2.2) := by
  intro H enc w base spare held fuel cs x h
  obtain ⟨y0, y1, y2, n, _, hl, t0, t1, t2⟩ := trod_struct3 ht h
  rw [o0, s0] at t0
  rw [o1, s1] at t1
  rw [o2, s2] at t2
  obtain ⟨x0, k0, v0⟩ := h0 _ _ _ _ _ _ _ _ _ t0
  obtain ⟨x1, k1, v1⟩ := h1 _ _ _ _ _ _ _ _ _ t1
  obtain ⟨x2, k2, v2⟩ := h2 _ _ _ _ _ _ _ _ _ t2
  refine ⟨g' x0 x1 x2, ?_, ?_⟩
  · show ∃ c0 c1, cs = c0 ++ c1 ∧ d0.K w (g (g' x0 x1 x2)).1 c0 ∧ ∃ c2 c3, c1 = c2 ++ c3 ∧ d1.K w (g (g' x0 x1 x2)).2.1 c2 ∧ d2.K w (g (g' x0 x1 x2)).2.2 c3
    rw [hg]
    refine ⟨_, _, cut2 (n := d0.sz) (m := d1.sz + d2.sz) (by rw [hl, sz]), k0, (cs.drop d0.sz).take d1.sz, (cs.drop (d0.sz + d1.sz)).take d2.sz, ?_, k1, k2⟩
    rw [← List.drop_drop, List.take_of_length_le (l := cs.drop d0.sz) (by rw [List.length_drop]; omega)]
    have := cut2 (cs := cs.drop d0.sz) (n := d1.sz) (m := d2.sz) (by rw [List.length_drop]; omega)
    rwa [List.drop_zero] at this
  · simp only [hg]; exact ⟨v0, v1, v2⟩
theorem arg_open {α : Type} {P : Program} {t : TypeId} {d : Kd α} {V : α → Prop} (ho : Opens P d t V) {H : Type} {enc : TypeId × Value → H} {w : World} {base : Nat} {spare : Nat → Bool} {held : Bool} {v : Value} {x : DataW H} {p : List MemPlace}
    (h : DataW.Trod enc P w base spare held t v x p) : ∃ a : α, d.K w a v.cells.toList ∧ V a := by
  obtain ⟨fuel, hf⟩ := h
  exact ho _ _ _ _ _ _ _ _ _ hf
end Go.Proofs.Ytfdfdifjkaaeoaa.Open
end
section
namespace Go.Proofs.Ytfdfdifjkaaeoaa.F
open Go.RowKit Go.Proofs.YtfdfdifjkaaeoaaW.PrintWords Go.Proofs.Ytfdfdifjkaaeoaa.Open
instance : Inhabited S72 := ⟨⟨default, default⟩⟩
def V72 : S72 → Prop := fun a => (fun a => (Lit.int .i64 a).wf = true) a.f0 ∧ (fun a => (Lit.int .i64 a).wf = true) a.f1
theorem O72 : Opens Try.prog k72 72 V72 :=
  Opens.struct2 (fun x : S72 => (x.f0, x.f1)) (fun a b => ⟨a, b⟩) (fun _ _ => rfl) Try.underlying72 rfl rfl (by kernel_rfl) (by kernel_rfl) (by kernel_rfl) (Opens.int Try.underlying2) (Opens.int Try.underlying2)
instance : Inhabited S47 := ⟨⟨default, default, default⟩⟩
def V47 : S47 → Prop := fun a => (fun l => l.length ≤ 9223372036854775807 ∧ ∀ a ∈ l, V72 a) a.f0 ∧ (fun a => (Lit.int .i64 a).wf = true) a.f1 ∧ (fun _ => True) a.f2
theorem st47_open {w : World} {x : S47} {cs : List Value} (h : k47.K w x cs) : ∃ (A0 : Option Addr) (c0 : Nat), cs = [.slice A0 x.f0.length c0, .int .i64 x.f1, .bool x.f2] ∧ x.f0.length ≤ c0 ∧ Kd.C k72 w A0 x.f0.length x.f0 := by
  obtain ⟨_, _, rfl, h0, _, _, rfl, h1, h2⟩ := h
  obtain ⟨A0, c0, rfl, l0, r0⟩ := h0
  obtain rfl := h1
  obtain rfl := h2
  exact ⟨A0, c0, rfl, l0, r0⟩
theorem O47 : Opens Try.prog k47 47 V47 :=
  Opens.struct3 (fun x : S47 => (x.f0, x.f1, x.f2)) (fun a b c => ⟨a, b, c⟩) (fun _ _ _ => rfl) Try.underlying47 rfl rfl rfl (by kernel_rfl) (by kernel_rfl) (by kernel_rfl) (by kernel_rfl) (Opens.slice Try.underlying22 (by kernel_rfl) O72) (Opens.int Try.underlying2) (Opens.bool Try.underlying4)
end Go.Proofs.Ytfdfdifjkaaeoaa.F
end
section
namespace Go.Proofs.Ytfdfdifjkaaeoaa.L
open Go.RowKit Go.Proofs.YtfdfdifjkaaeoaaW.PrintWords
theorem Ev.pos {α : Type} {c : Prop} [Decidable c] {f g : Nat → Option α} {r : α} (h : c) (e : Ev f r) : Ev (fun k => if c then f k else g k) r := by
  obtain ⟨K, e⟩ := e
  exact ⟨K, fun k hk => (if_pos h).trans (e k hk)⟩
theorem Ev.neg {α : Type} {c : Prop} [Decidable c] {f g : Nat → Option α} {r : α} (h : ¬ c) (e : Ev g r) : Ev (fun k => if c then f k else g k) r := by
  obtain ⟨K, e⟩ := e
  exact ⟨K, fun k hk => (if_neg h).trans (e k hk)⟩
theorem Ev.if_ {α : Type} {c : Prop} [Decidable c] {f g : Nat → Option α} {r s : α} (h : c → Ev f r) (h' : ¬ c → Ev g s) : Ev (fun k => if c then f k else g k) (if c then r else s) := by
  by_cases hc : c
  · rw [if_pos hc]; exact Ev.pos hc (h hc)
  · rw [if_neg hc]; exact Ev.neg hc (h' hc)
theorem Ev.of_eq {α : Type} {g : Nat → Option α} {r s : α} (h : Ev g r) (e : r = s) : Ev g s := e ▸ h
theorem Ev.succ {α : Type} {g : Nat → Option α} {r : α} (h : Ev (fun k => g (k + 1)) r) : Ev g r := by
  obtain ⟨K, h⟩ := h
  refine ⟨K + 1, fun n hn => ?_⟩
  obtain ⟨m, rfl⟩ : ∃ m, n = m + 1 := ⟨n - 1, by omega⟩
  exact h m (by omega)
theorem w64 {n : Int} (h : -9223372036854775808 ≤ n) (h' : n ≤ 9223372036854775807) : wrap64 n = n := by
  unfold wrap64
  omega
theorem getD_at {α : Type} (pre suf : List α) (c d : α) : (pre ++ c :: suf).getD (pre.length : Int).toNat d = c := by
  simp [List.getD]
end Go.Proofs.Ytfdfdifjkaaeoaa.L
namespace Go.Proofs.Ytfdfdifjkaaeoaa.L
open Go.RowKit Go.Proofs.YtfdfdifjkaaeoaaW.PrintWords
theorem loop_list {α σ ρ : Type} (xs : List α) (l : Nat → Int → σ → Option ρ) (g : List α → List α → σ → ρ) (Inv : List α → σ → Prop)
    (hn : ∀ s, Inv xs s → Ev (fun k => l (k + 1) (xs.length : Int) s) (g xs [] s))
    (hs : ∀ (pre : List α) (c : α) (suf : List α) (s : σ), xs = pre ++ c :: suf → Inv pre s → (∀ s', Inv (pre ++ [c]) s' → Ev (fun k => l k ((pre.length : Int) + 1) s') (g (pre ++ [c]) suf s')) → Ev (fun k => l (k + 1) (pre.length : Int) s) (g pre (c :: suf) s)) :
    ∀ s, Inv [] s → Ev (fun k => l k 0 s) (g [] xs s) := by
  have key : ∀ (suf pre : List α), xs = pre ++ suf → ∀ s, Inv pre s → Ev (fun k => l k (pre.length : Int) s) (g pre suf s) := by
    intro suf
    induction suf with
    | nil =>
      intro pre hx s hi
      rw [List.append_nil] at hx
      subst hx
      exact Ev.succ (hn s hi)
    | cons c suf ih =>
      intro pre hx s hi
      refine Ev.succ (hs pre c suf s hx hi fun s' hi' => ?_)
      have := ih (pre ++ [c]) (by rw [hx]; simp) s' hi'
      rw [List.length_append] at this
      exact this
  intro s hi
  exact key xs [] rfl s hi
end Go.Proofs.Ytfdfdifjkaaeoaa.L
end
section
namespace Go.Proofs.Ytfdfdifjkaaeoaa.L
open Go.RowKit Go.Proofs.YtfdfdifjkaaeoaaW.PrintWords Go.Proofs.YtfdfdifjkaaeoaaW.PrintLast Go.Proofs.YtfdfdifjkaaeoaaW.PrintMore Go.Proofs.Ytfdfdifjkaaeoaa.F
set_option linter.unusedVariables false
set_option linter.unusedSimpArgs false
abbrev Cell := S59
abbrev LCell := S72
theorem in_eq (a b c : Int) : spec_l01In.f a b c = some (decide (b ≤ a ∧ a ≤ c)) := by
  unfold spec_l01In.f
  by_cases h : a ≥ b
  · rw [if_pos h]; simp [show b ≤ a from h]
  · rw [if_neg h]; simp [show ¬ b ≤ a from h]
theorem within_eq (a b c : Int) : impl_within.f a b c = some (decide (b ≤ a ∧ a ≤ c)) := by
  unfold impl_within.f
  by_cases h : a ≥ b
  · rw [if_pos h]; simp [show b ≤ a from h]
  · rw [if_neg h]; simp [show ¬ b ≤ a from h]
def ok1 (n : Int) : Prop := -100 ≤ n ∧ n ≤ 100
instance (n : Int) : Decidable (ok1 n) := by unfold ok1; infer_instance
def okC (c : Cell) : Prop := ok1 c.f0 ∧ ok1 c.f1
instance (c : Cell) : Decidable (okC c) := by unfold okC; infer_instance
def ltC (a b : Cell) : Prop := a.f1 < b.f1 ∨ a.f1 = b.f1 ∧ a.f0 < b.f0
instance (a b : Cell) : Decidable (ltC a b) := by unfold ltC; infer_instance
theorem isCoordinate_eq (n : Int) : impl_isCoordinate.f n = some (decide (ok1 n)) := by
  unfold impl_isCoordinate.f
  rw [within_eq]
  rfl
theorem l02Cell_eq (x y : Int) : spec_l02Cell.f x y = some (decide (ok1 x ∧ ok1 y)) := by
  unfold spec_l02Cell.f
  rw [in_eq, in_eq]
  simp only [Option.bind_some]
  by_cases h : -100 ≤ x ∧ x ≤ 100
  · have h' : ok1 x := h
    simp only [h, and_self, decide_true, if_true, true_and, h', ok1]
  · have h' : ¬ ok1 x := h
    simp [h, h']
theorem toCell_eq (x y : Int) : laws_toCell.f x y = some (x, y) := rfl
theorem eqCell_eq (a b c d : Int) : laws_eqCell.f a b c d = some (decide (a = c ∧ b = d)) := by
  unfold laws_eqCell.f
  by_cases h : a = c
  · by_cases h' : b = d <;> simp [h, h']
  · simp [h]
def small {α : Type} (l : List α) : Prop := l.length ≤ 4611686018427387904
theorem pre_lt {α : Type} {xs pre suf : List α} {c : α} (h : xs = pre ++ c :: suf) : ((pre.length : Int) < (xs.length : Int)) = True := by
  subst h; simp; omega
theorem pre_w {α : Type} {xs pre suf : List α} {c : α} (h : xs = pre ++ c :: suf) (hs : small xs) : wrap64 ((pre.length : Int) + 1) = (pre.length : Int) + 1 := by
  subst h
  unfold small at hs
  rw [List.length_append, List.length_cons] at hs
  exact w64 (by omega) (by omega)
theorem pre_0 {α : Type} (pre : List α) : (0 ≤ (pre.length : Int)) = True := by simp
theorem len_lt {α : Type} (xs : List α) : ((xs.length : Int) < (xs.length : Int)) = False := by simp
theorem at_pre {xs pre suf : List Cell} {c : Cell} (h : xs = pre ++ c :: suf) : rd_T59 xs (pre.length : Int) = c := by
  subst h; exact getD_at pre suf c _
theorem at_preL {xs pre suf : List LCell} {c : LCell} (h : xs = pre ++ c :: suf) : rd_T72 xs (pre.length : Int) = c := by
  subst h; exact getD_at pre suf c _
theorem eqCellS_ev (a : List Cell) (ha : small a) : Ev (fun k => laws_eqCellS.f k a a) true := by
  unfold laws_eqCellS.f
  refine Ev.pos rfl ?_
  refine loop_list a (fun k i (_ : Unit) => laws_eqCellS.l0 k a a i) (fun _ _ _ => true) (fun _ _ => True) ?_ ?_ () trivial
  · intro _ _
    simp only [laws_eqCellS.l0, len_lt, if_false]
    exact Ev.now _
  · intro pre c suf _ hx _ ih
    simp only [laws_eqCellS.l0, pre_lt hx, pre_0, if_true, at_pre hx, eqCell_eq, and_self, decide_true, Option.bind_some, pre_w hx ha]
    exact ih () trivial
def cellOf (c : LCell) : Cell := ⟨c.f0, c.f1⟩
theorem toCellS_ev (a : List LCell) (ha : a.length ≤ 1048576) : Ev (fun k => laws_toCellS.f k a) (a.map cellOf) := by
  have hs : small a := by unfold small; omega
  unfold laws_toCellS.f
  refine Ev.pos (by omega) (Ev.pos (by omega) ?_)
  have := loop_list a (fun k i (s : List Cell) => laws_toCellS.l0 k a s i) (fun _ suf s => s.take (a.length - suf.length) ++ suf.map cellOf) (fun pre s => s.length = a.length) ?_ ?_ (List.replicate a.length z59) (by simp)
  · refine Ev.of_eq this ?_
    simp
  · intro s hl
    simp only [laws_toCellS.l0, len_lt, if_false]
    refine Ev.of_eq (Ev.now _) ?_
    simp [List.take_of_length_le, hl]
  · intro pre c suf s hx hl ih
    have hlt : ((pre.length : Int) < (s.length : Int)) = True := by rw [hl]; exact pre_lt hx
    simp only [laws_toCellS.l0, pre_lt hx, pre_0, if_true, at_preL hx, toCell_eq, Option.bind_some, hlt, pre_w hx hs]
    refine Ev.of_eq (ih (s.set (pre.length : Int).toNat ⟨c.f0, c.f1⟩) (by simpa using hl)) ?_
    have hn : a.length = pre.length + (suf.length + 1) := by rw [hx]; simp
    have e1 : a.length - suf.length = pre.length + 1 := by omega
    have e2 : a.length - (c :: suf).length = pre.length := by simp; omega
    rw [e1, e2, Int.toNat_natCast, List.take_add_one, List.getElem?_set_self (by omega), List.take_set_of_le (Nat.le_refl _)]
    simp [cellOf]
theorem pre_get {α : Type} {xs pre suf : List α} {c : α} (h : xs = pre ++ c :: suf) : xs[pre.length]? = some c := by
  subst h; simp
theorem pre_len {α : Type} {xs pre suf : List α} {c : α} (h : xs = pre ++ c :: suf) : pre.length < xs.length := by
  subst h; simp
def fits {α : Type} (l : List α) : Prop := l.length ≤ 1048576
theorem fits.small {α : Type} {l : List α} (h : fits l) : small l := by unfold fits at h; unfold L.small; omega
theorem szCellS_eq (a : List LCell) (n : Int) (h0 : 0 ≤ n) (h1 : n ≤ 1048576) (ha : a.length ≤ 9223372036854775807) : laws_szCellS.f a n = some (if n - (a.length : Int) < 0 then -1 else n - (a.length : Int)) := by
  unfold laws_szCellS.f
  rw [w64 (by omega) (by omega)]
  split <;> rfl
theorem at_preI {xs pre suf : List Int} {c : Int} (h : xs = pre ++ c :: suf) : rd xs (pre.length : Int) = c := by
  subst h; exact getD_at pre suf c _
def cmpI (a b : Int) : Int := if a < b then -1 else if a > b then 1 else 0
theorem compare_eq (a b : Int) : cmp_Compare_int64.f a b = some (cmpI a b) := by
  unfold cmp_Compare_int64.f cmp_isNaN_int64.f cmpI
  simp only [bne_self_eq_false, Option.bind_some, Bool.false_eq_true, if_false]
  split
  · rfl
  · split <;> rfl
theorem l02Less_eq (a b c d : Int) : spec_l02Less.f a b c d = some (decide (b < d ∨ b = d ∧ a < c)) := by
  unfold spec_l02Less.f
  by_cases h : b < d
  · simp [h]
  · by_cases h' : b = d <;> simp [h, h']
    
def cmpC (a b : Cell) : Int := if cmpI a.f1 b.f1 = 0 then cmpI a.f0 b.f0 else cmpI a.f1 b.f1
theorem compareCells_eq (a b : Cell) : impl_compareCells.f a.f0 a.f1 b.f0 b.f1 = some (cmpC a b) := by
  unfold impl_compareCells.f cmpC
  simp only [compare_eq, Option.bind_some]
  split <;> rfl
theorem cmpC_lt {a b : Cell} : cmpC a b < 0 ↔ ltC a b := by
  unfold cmpC cmpI ltC
  repeat' split
  all_goals constructor <;> intro h <;> omega
theorem cmpC_ge {a b : Cell} : cmpC a b ≥ 0 ↔ ¬ ltC a b := by
  rw [← cmpC_lt]; omega
def goodFrom : Option Cell → List Cell → Bool
  | _, [] => true
  | p, c :: r => decide (okC c) && (match p with | none => true | some q => decide (ltC q c)) && goodFrom (some c) r
def shapeB (l : List Cell) : Bool := goodFrom none l && decide (1 ≤ (l.length : Int) ∧ (l.length : Int) ≤ 40)
theorem specIsShape_ev (l : List Cell) (hs : small l) : Ev (fun k => spec_IsShape.f k l) (shapeB l) := by
  unfold spec_IsShape.f
  refine loop_list l (fun k i (_ : Unit) => spec_IsShape.l0 k l i) (fun pre suf _ => goodFrom pre.getLast? suf && decide (1 ≤ (l.length : Int) ∧ (l.length : Int) ≤ 40)) (fun _ _ => True) ?_ ?_ () trivial
  · intro _ _
    simp only [spec_IsShape.l0, len_lt, if_false, in_eq, Option.bind_some]
    refine Ev.of_eq (Ev.now _) ?_
    simp [goodFrom]
  · intro pre c suf _ hx _ ih
    simp only [spec_IsShape.l0, pre_lt hx, pre_0, if_true, at_pre hx, l02Cell_eq, Option.bind_some, pre_w hx hs]
    by_cases hc : okC c
    · have hc' : ok1 c.f0 ∧ ok1 c.f1 := hc
      simp only [hc', and_self, decide_true, if_true]
      rcases List.eq_nil_or_concat pre with rfl | ⟨L, b, rfl⟩
      · refine Ev.neg (by simp) (Ev.of_eq (ih () trivial) ?_)
        simp [goodFrom, hc]
      · rw [List.concat_eq_append] at hx ih ⊢
        have hx2 : l = L ++ b :: (c :: suf) := by rw [hx]; simp
        have e1 : wrap64 (((L ++ [b]).length : Int) - 1) = (L.length : Int) := by
          unfold small at hs
          rw [hx2] at hs
          simp only [List.length_append, List.length_cons, List.length_nil] at hs ⊢
          rw [w64 (by omega) (by omega)]; omega
        refine Ev.pos (by simp <;> omega) ?_
        simp only [e1, pre_0, if_true, pre_lt hx2, at_pre hx2, l02Less_eq, Option.bind_some]
        by_cases hl : ltC b c
        · have hl' : b.f1 < c.f1 ∨ b.f1 = c.f1 ∧ b.f0 < c.f0 := hl
          refine Ev.pos (by simpa using hl') (Ev.of_eq (ih () trivial) ?_)
          simp [goodFrom, hc, hl]
        · have hl' : ¬ (b.f1 < c.f1 ∨ b.f1 = c.f1 ∧ b.f0 < c.f0) := hl
          refine Ev.neg (by simpa using hl') (Ev.of_eq (Ev.now _) ?_)
          simp [goodFrom, hc, hl]
    · have hc' : ¬ (ok1 c.f0 ∧ ok1 c.f1) := hc
      simp only [hc', decide_false, Bool.false_eq_true, if_false]
      refine Ev.of_eq (Ev.now _) ?_
      simp [goodFrom, hc]
theorem implIsShape_ev (l : List Cell) (hs : small l) : Ev (fun k => impl_IsShape.f k l) (shapeB l) := by
  unfold impl_IsShape.f
  refine loop_list l (fun k i (_ : Unit) => impl_IsShape.l0 k l l (l.length : Int) i) (fun pre suf _ => goodFrom pre.getLast? suf && decide (1 ≤ (l.length : Int) ∧ (l.length : Int) ≤ 40)) (fun _ _ => True) ?_ ?_ () trivial
  · intro _ _
    simp only [impl_IsShape.l0, len_lt, if_false]
    refine Ev.of_eq (Ev.if_ (fun _ => Ev.now _) (fun _ => Ev.now _)) ?_
    by_cases h : (l.length : Int) ≥ 1
    · rw [if_pos h]; simp [goodFrom, show 1 ≤ (l.length : Int) from h]
    · rw [if_neg h]; simp [goodFrom, show ¬ 1 ≤ (l.length : Int) from h]
  · intro pre c suf _ hx _ ih
    simp only [impl_IsShape.l0, pre_lt hx, pre_0, if_true, at_pre hx, isCoordinate_eq, Option.bind_some, pre_w hx hs]
    by_cases hc : okC c
    · have hc' : ok1 c.f0 ∧ ok1 c.f1 := hc
      simp only [hc'.1, hc'.2, decide_true, if_true]
      rcases List.eq_nil_or_concat pre with rfl | ⟨L, b, rfl⟩
      · refine Ev.neg (by simp) (Ev.of_eq (ih () trivial) ?_)
        simp [goodFrom, hc]
      · rw [List.concat_eq_append] at hx ih ⊢
        have hx2 : l = L ++ b :: (c :: suf) := by rw [hx]; simp
        have e1 : wrap64 (((L ++ [b]).length : Int) - 1) = (L.length : Int) := by
          unfold small at hs
          rw [hx2] at hs
          simp only [List.length_append, List.length_cons, List.length_nil] at hs ⊢
          rw [w64 (by omega) (by omega)]; omega
        refine Ev.pos (by simp <;> omega) ?_
        simp only [e1, pre_0, if_true, pre_lt hx2, at_pre hx2, compareCells_eq, Option.bind_some]
        by_cases hl : ltC b c
        · refine Ev.neg (fun h => cmpC_ge.1 h hl) (Ev.of_eq (ih () trivial) ?_)
          simp [goodFrom, hc, hl]
        · refine Ev.pos (cmpC_ge.2 hl) (Ev.of_eq (Ev.now _) ?_)
          simp [goodFrom, hc, hl]
    · by_cases h0 : ok1 c.f0
      · have h1 : ¬ ok1 c.f1 := fun h => hc ⟨h0, h⟩
        simp only [h0, h1, decide_true, if_true, decide_false, Bool.false_eq_true, if_false]
        refine Ev.of_eq (Ev.now _) ?_
        simp [goodFrom, hc]
      · simp only [h0, decide_false, Bool.false_eq_true, if_false]
        refine Ev.of_eq (Ev.now _) ?_
        simp [goodFrom, hc]
theorem goodFrom_ok : ∀ (l : List Cell) (p : Option Cell), goodFrom p l = true → ∀ c ∈ l, okC c
  | [], _, _, c, h => by simp at h
  | a :: r, p, hg, c, h => by
    simp only [goodFrom, Bool.and_eq_true, decide_eq_true_eq] at hg
    rcases List.mem_cons.1 h with rfl | h
    · exact hg.1.1
    · exact goodFrom_ok r _ hg.2 c h
theorem ltC_trans {a b c : Cell} (h : ltC a b) (h' : ltC b c) : ltC a c := by unfold ltC at *; omega
theorem goodFrom_lt : ∀ (l : List Cell) (p : Option Cell), goodFrom p l = true → (∀ q, p = some q → ∀ c ∈ l, ltC q c) ∧ l.Pairwise ltC
  | [], _, _ => ⟨fun _ _ c h => by simp at h, List.Pairwise.nil⟩
  | a :: r, p, hg => by
    simp only [goodFrom, Bool.and_eq_true, decide_eq_true_eq] at hg
    obtain ⟨h1, h2⟩ := goodFrom_lt r (some a) hg.2
    have h3 := h1 a rfl
    refine ⟨fun q hq c hc => ?_, List.pairwise_cons.2 ⟨h3, h2⟩⟩
    subst hq
    have h4 : ltC q a := by simpa using hg.1.2
    rcases List.mem_cons.1 hc with rfl | hc
    · exact h4
    · exact ltC_trans h4 (h3 c hc)
theorem goodFrom_of : ∀ (l : List Cell) (p : Option Cell), (∀ c ∈ l, okC c) → (∀ q, p = some q → ∀ c ∈ l, ltC q c) → l.Pairwise ltC → goodFrom p l = true
  | [], _, _, _, _ => rfl
  | a :: r, p, h0, h1, h2 => by
    obtain ⟨h3, h4⟩ := List.pairwise_cons.1 h2
    simp only [goodFrom, Bool.and_eq_true, decide_eq_true_eq]
    refine ⟨⟨h0 a List.mem_cons_self, ?_⟩, goodFrom_of r (some a) (fun c hc => h0 c (List.mem_cons_of_mem _ hc)) (fun q hq c hc => by injection hq with hq; subst hq; exact h3 c hc) h4⟩
    cases p with
    | none => rfl
    | some q => simpa using h1 q rfl a List.mem_cons_self
theorem shapeB_iff {l : List Cell} : shapeB l = true ↔ (∀ c ∈ l, okC c) ∧ l.Pairwise ltC ∧ 1 ≤ l.length ∧ l.length ≤ 40 := by
  unfold shapeB
  rw [Bool.and_eq_true, decide_eq_true_eq]
  constructor
  · rintro ⟨h, h'⟩
    exact ⟨goodFrom_ok l _ h, (goodFrom_lt l _ h).2, by omega, by omega⟩
  · rintro ⟨h1, h2, h3, h4⟩
    exact ⟨goodFrom_of l none h1 (fun _ h => by cases h) h2, by omega, by omega⟩
def minX : Int → List Cell → Int := fun z l => l.foldl (fun m c => mn m c.f0) z
def minY : Int → List Cell → Int := fun z l => l.foldl (fun m c => mn m c.f1) z
def maxX : Int → List Cell → Int := fun z l => l.foldl (fun m c => mx m c.f0) z
def maxY : Int → List Cell → Int := fun z l => l.foldl (fun m c => mx m c.f1) z
def leastOf (l : List Cell) : Int × Int := match l with | [] => (0, 0) | c :: r => (minX c.f0 r, minY c.f1 r)
def reachOf (l : List Cell) : Int × Int := match l with | [] => (0, 0) | c :: r => (maxX c.f0 r, maxY c.f1 r)
theorem implCorner_ev (l : List Cell) (hs : small l) (h0 : 0 < l.length) : Ev (fun k => impl_corner.f k l) (leastOf l) := by
  unfold impl_corner.f
  obtain ⟨c, r, rfl⟩ : ∃ c r, l = c :: r := by cases l with | nil => simp at h0 | cons c r => exact ⟨c, r, rfl⟩
  refine Ev.pos (by simp <;> omega) ?_
  have h1 : rd_T59 (c :: r) 0 = c := rfl
  rw [h1]
  have := loop_list (c :: r) (fun k i (s : Int × Int) => impl_corner.l0 k (c :: r) ((c :: r).length : Int) i s.1 s.2) (fun _ suf s => (minX s.1 suf, minY s.2 suf)) (fun _ _ => True) ?_ ?_ (c.f0, c.f1) trivial
  · refine Ev.of_eq this ?_
    simp [leastOf, minX, minY, mn]
  · rintro s _
    simp only [impl_corner.l0, len_lt, if_false]
    exact Ev.now _
  · rintro pre d suf s hx _ ih
    simp only [impl_corner.l0, pre_lt hx, pre_0, if_true, at_pre hx, pre_w hx hs]
    exact ih (mn s.1 d.f0, mn s.2 d.f1) trivial
theorem implReach_ev (l : List Cell) (hs : small l) (h0 : 0 < l.length) : Ev (fun k => impl_reach.f k l) (reachOf l) := by
  unfold impl_reach.f
  obtain ⟨c, r, rfl⟩ : ∃ c r, l = c :: r := by cases l with | nil => simp at h0 | cons c r => exact ⟨c, r, rfl⟩
  refine Ev.pos (by simp <;> omega) ?_
  have h1 : rd_T59 (c :: r) 0 = c := rfl
  rw [h1]
  have := loop_list (c :: r) (fun k i (s : Int × Int) => impl_reach.l0 k (c :: r) ((c :: r).length : Int) i s.1 s.2) (fun _ suf s => (maxX s.1 suf, maxY s.2 suf)) (fun _ _ => True) ?_ ?_ (c.f0, c.f1) trivial
  · refine Ev.of_eq this ?_
    simp [reachOf, maxX, maxY, mx]
  · rintro s _
    simp only [impl_reach.l0, len_lt, if_false]
    exact Ev.now _
  · rintro pre d suf s hx _ ih
    simp only [impl_reach.l0, pre_lt hx, pre_0, if_true, at_pre hx, pre_w hx hs]
    exact ih (mx s.1 d.f0, mx s.2 d.f1) trivial
theorem loop_tail {α σ ρ : Type} (c : α) (r : List α) (l : Nat → Int → σ → Option ρ) (g : List α → List α → σ → ρ) (Inv : List α → σ → Prop)
    (hn : ∀ s, Inv (c :: r) s → Ev (fun k => l (k + 1) ((c :: r).length : Int) s) (g (c :: r) [] s))
    (hs : ∀ (pre : List α) (d : α) (suf : List α) (s : σ), c :: r = pre ++ d :: suf → pre ≠ [] → Inv pre s → (∀ s', Inv (pre ++ [d]) s' → Ev (fun k => l k ((pre.length : Int) + 1) s') (g (pre ++ [d]) suf s')) → Ev (fun k => l (k + 1) (pre.length : Int) s) (g pre (d :: suf) s)) :
    ∀ s, Inv [c] s → Ev (fun k => l k 1 s) (g [c] r s) := by
  have key : ∀ (suf pre : List α), c :: r = pre ++ suf → pre ≠ [] → ∀ s, Inv pre s → Ev (fun k => l k (pre.length : Int) s) (g pre suf s) := by
    intro suf
    induction suf with
    | nil =>
      intro pre hx _ s hi
      rw [List.append_nil] at hx
      subst hx
      exact Ev.succ (hn s hi)
    | cons d suf ih =>
      intro pre hx hp s hi
      refine Ev.succ (hs pre d suf s hx hp hi fun s' hi' => ?_)
      have := ih (pre ++ [d]) (by rw [hx]; simp) (by simp) s' hi'
      rw [List.length_append] at this
      exact this
  intro s hi
  exact key r [c] rfl (by simp) s hi
theorem specLeast_ev (l : List Cell) (hs : small l) (h0 : 0 < l.length) : Ev (fun k => spec_l02Least.f k l) (leastOf l) := by
  unfold spec_l02Least.f
  obtain ⟨c, r, rfl⟩ : ∃ c r, l = c :: r := by cases l with | nil => simp at h0 | cons c r => exact ⟨c, r, rfl⟩
  refine Ev.pos (by simp <;> omega) ?_
  have h1 : rd_T59 (c :: r) 0 = c := rfl
  rw [h1]
  refine loop_tail c r (fun k i (s : Int × Int) => spec_l02Least.l0 k (c :: r) s.1 s.2 i) (fun _ suf s => (minX s.1 suf, minY s.2 suf)) (fun _ _ => True) ?_ ?_ (c.f0, c.f1) trivial
  · rintro s _
    simp only [spec_l02Least.l0, len_lt, if_false]
    exact Ev.now _
  · rintro pre d suf s hx _ _ ih
    simp only [spec_l02Least.l0, pre_lt hx, pre_0, if_true, at_pre hx, pre_w hx hs]
    exact ih (mn s.1 d.f0, mn s.2 d.f1) trivial
theorem minX_le : ∀ (l : List Cell) (z : Int), minX z l ≤ z ∧ (∀ c ∈ l, minX z l ≤ c.f0) ∧ (minX z l = z ∨ ∃ c ∈ l, minX z l = c.f0)
  | [], z => ⟨Int.le_refl _, fun c h => by simp at h, .inl rfl⟩
  | a :: r, z => by
    obtain ⟨h1, h2, h3⟩ := minX_le r (mn z a.f0)
    have h4 : mn z a.f0 ≤ z ∧ mn z a.f0 ≤ a.f0 ∧ (mn z a.f0 = z ∨ mn z a.f0 = a.f0) := by unfold mn; split <;> omega
    have e : minX z (a :: r) = minX (mn z a.f0) r := rfl
    rw [e]
    refine ⟨by omega, fun c hc => ?_, ?_⟩
    · rcases List.mem_cons.1 hc with rfl | hc
      · omega
      · exact h2 c hc
    · rcases h3 with h3 | ⟨c, hc, h3⟩
      · rcases h4.2.2 with h5 | h5
        · exact .inl (h3.trans h5)
        · exact .inr ⟨a, List.mem_cons_self, h3.trans h5⟩
      · exact .inr ⟨c, List.mem_cons_of_mem _ hc, h3⟩
theorem minY_le : ∀ (l : List Cell) (z : Int), minY z l ≤ z ∧ (∀ c ∈ l, minY z l ≤ c.f1) ∧ (minY z l = z ∨ ∃ c ∈ l, minY z l = c.f1)
  | [], z => ⟨Int.le_refl _, fun c h => by simp at h, .inl rfl⟩
  | a :: r, z => by
    obtain ⟨h1, h2, h3⟩ := minY_le r (mn z a.f1)
    have h4 : mn z a.f1 ≤ z ∧ mn z a.f1 ≤ a.f1 ∧ (mn z a.f1 = z ∨ mn z a.f1 = a.f1) := by unfold mn; split <;> omega
    have e : minY z (a :: r) = minY (mn z a.f1) r := rfl
    rw [e]
    refine ⟨by omega, fun c hc => ?_, ?_⟩
    · rcases List.mem_cons.1 hc with rfl | hc
      · omega
      · exact h2 c hc
    · rcases h3 with h3 | ⟨c, hc, h3⟩
      · rcases h4.2.2 with h5 | h5
        · exact .inl (h3.trans h5)
        · exact .inr ⟨a, List.mem_cons_self, h3.trans h5⟩
      · exact .inr ⟨c, List.mem_cons_of_mem _ hc, h3⟩
theorem least_le {l : List Cell} {c : Cell} (h : c ∈ l) : (leastOf l).1 ≤ c.f0 ∧ (leastOf l).2 ≤ c.f1 := by
  cases l with
  | nil => simp at h
  | cons a r =>
    have hx := minX_le r a.f0
    have hy := minY_le r a.f1
    show minX a.f0 r ≤ c.f0 ∧ minY a.f1 r ≤ c.f1
    rcases List.mem_cons.1 h with rfl | h
    · exact ⟨hx.1, hy.1⟩
    · exact ⟨hx.2.1 c h, hy.2.1 c h⟩
theorem least_mem {l : List Cell} (h : l ≠ []) : (∃ c ∈ l, (leastOf l).1 = c.f0) ∧ (∃ c ∈ l, (leastOf l).2 = c.f1) := by
  cases l with
  | nil => exact absurd rfl h
  | cons a r =>
    refine ⟨?_, ?_⟩
    · rcases (minX_le r a.f0).2.2 with e | ⟨c, hc, e⟩
      · exact ⟨a, List.mem_cons_self, e⟩
      · exact ⟨c, List.mem_cons_of_mem _ hc, e⟩
    · rcases (minY_le r a.f1).2.2 with e | ⟨c, hc, e⟩
      · exact ⟨a, List.mem_cons_self, e⟩
      · exact ⟨c, List.mem_cons_of_mem _ hc, e⟩
theorem least_ok {l : List Cell} (h : l ≠ []) (ho : ∀ c ∈ l, okC c) : ok1 (leastOf l).1 ∧ ok1 (leastOf l).2 := by
  obtain ⟨⟨c, hc, e⟩, ⟨d, hd, e'⟩⟩ := least_mem h
  rw [e, e']
  exact ⟨(ho c hc).1, (ho d hd).2⟩
def sizeOf_ (l : List Cell) : Int × Int := ((reachOf l).1 - (leastOf l).1 + 1, (reachOf l).2 - (leastOf l).2 + 1)
theorem foldW (x : Int) : ∀ (l : List Cell) (m : Int), l.foldl (fun m c => mx m (c.f0 - x + 1)) (m - x + 1) = maxX m l - x + 1
  | [], m => rfl
  | a :: r, m => by
    have : mx (m - x + 1) (a.f0 - x + 1) = mx m a.f0 - x + 1 := by unfold mx; split <;> split <;> omega
    simp only [List.foldl_cons, this, foldW x r]
    rfl
theorem foldH (x : Int) : ∀ (l : List Cell) (m : Int), l.foldl (fun m c => mx m (c.f1 - x + 1)) (m - x + 1) = maxY m l - x + 1
  | [], m => rfl
  | a :: r, m => by
    have : mx (m - x + 1) (a.f1 - x + 1) = mx m a.f1 - x + 1 := by unfold mx; split <;> split <;> omega
    simp only [List.foldl_cons, this, foldH x r]
    rfl
theorem specSize_ev (l : List Cell) (hs : small l) (h0 : l ≠ []) (ho : ∀ c ∈ l, okC c) : Ev (fun k => spec_l04Size.f k l) (sizeOf_ l) := by
  unfold spec_l04Size.f
  refine Ev.bind (specLeast_ev l hs (List.length_pos_iff.2 h0)) ?_
  have hb := least_ok h0 ho
  have := loop_list l (fun k i (s : Int × Int) => spec_l04Size.l0 k l (leastOf l).1 (leastOf l).2 s.1 s.2 i)
    (fun _ suf s => (suf.foldl (fun m c => mx m (c.f0 - (leastOf l).1 + 1)) s.1, suf.foldl (fun m c => mx m (c.f1 - (leastOf l).2 + 1)) s.2)) (fun _ _ => True) ?_ ?_ (0, 0) trivial
  · refine Ev.of_eq this ?_
    obtain ⟨a, r, rfl⟩ : ∃ a r, l = a :: r := by cases l with | nil => exact absurd rfl h0 | cons a r => exact ⟨a, r, rfl⟩
    have hl := least_le (l := a :: r) (c := a) List.mem_cons_self
    have e1 : mx 0 (a.f0 - (leastOf (a :: r)).1 + 1) = a.f0 - (leastOf (a :: r)).1 + 1 := by unfold mx; split <;> omega
    have e2 : mx 0 (a.f1 - (leastOf (a :: r)).2 + 1) = a.f1 - (leastOf (a :: r)).2 + 1 := by unfold mx; split <;> omega
    simp only [List.foldl_cons, e1, e2, foldW, foldH]
    rfl
  · rintro s _
    simp only [spec_l04Size.l0, len_lt, if_false]
    exact Ev.now _
  · rintro pre d suf s hx _ ih
    have hd := ho d (by rw [hx]; simp)
    unfold okC ok1 at hd
    unfold ok1 at hb
    have e1 : wrap64 (wrap64 (d.f0 - (leastOf l).1) + 1) = d.f0 - (leastOf l).1 + 1 := by rw [w64 (n := d.f0 - (leastOf l).1) (by omega) (by omega), w64 (by omega) (by omega)]
    have e2 : wrap64 (wrap64 (d.f1 - (leastOf l).2) + 1) = d.f1 - (leastOf l).2 + 1 := by rw [w64 (n := d.f1 - (leastOf l).2) (by omega) (by omega), w64 (by omega) (by omega)]
    simp only [spec_l04Size.l0, pre_lt hx, pre_0, if_true, at_pre hx, pre_w hx hs, e1, e2]
    exact ih (mx s.1 (d.f0 - (leastOf l).1 + 1), mx s.2 (d.f1 - (leastOf l).2 + 1)) trivial
def regionB (l : List Cell) : Bool := shapeB l && (decide ((leastOf l).1 = 0) && (decide ((leastOf l).2 = 0) && (decide ((reachOf l).1 < 20) && decide ((reachOf l).2 < 20))))
theorem shape_ne {l : List Cell} (h : shapeB l = true) : l ≠ [] := by
  have := (shapeB_iff.1 h).2.2.1
  intro e
  rw [e] at this
  simp at this
theorem specIsRegion_ev (l : List Cell) (hs : small l) : Ev (fun k => spec_IsRegion.f k l) (regionB l) := by
  unfold spec_IsRegion.f
  refine Ev.bind (specIsShape_ev l hs) ?_
  unfold regionB
  by_cases h : shapeB l = true
  · have hn := shape_ne h
    have ho := (shapeB_iff.1 h).1
    refine Ev.pos h (Ev.bind (specSize_ev l hs hn ho) (Ev.bind (specLeast_ev l hs (List.length_pos_iff.2 hn)) ?_))
    rw [h, Bool.true_and]
    by_cases h1 : (leastOf l).1 = 0
    · refine Ev.pos h1 ?_
      by_cases h2 : (leastOf l).2 = 0
      · refine Ev.pos h2 ?_
        simp only [sizeOf_, h1, h2, decide_true, Bool.true_and]
        by_cases h3 : (reachOf l).1 < 20
        · refine Ev.pos (by omega) (Ev.of_eq (Ev.now _) ?_)
          simp [h3]; omega
        · refine Ev.neg (by omega) (Ev.of_eq (Ev.now _) ?_)
          simp [h3]
      · exact Ev.neg h2 (Ev.of_eq (Ev.now _) (by simp [h2]))
    · exact Ev.neg h1 (Ev.of_eq (Ev.now _) (by simp [h1]))
  · exact Ev.neg h (Ev.of_eq (Ev.now _) (by simp [h]))
theorem implIsRegion_ev (l : List Cell) (hs : small l) : Ev (fun k => impl_IsRegion.f k l) (regionB l) := by
  unfold impl_IsRegion.f
  refine Ev.bind (implIsShape_ev l hs) ?_
  unfold regionB
  by_cases h : shapeB l = true
  · have hn := shape_ne h
    refine Ev.pos h (Ev.bind (implCorner_ev l hs (List.length_pos_iff.2 hn)) ?_)
    rw [h, Bool.true_and]
    by_cases h1 : (leastOf l).1 = 0
    · by_cases h2 : (leastOf l).2 = 0
      · refine Ev.neg (by simp [h1, h2]) (Ev.bind (implReach_ev l hs (List.length_pos_iff.2 hn)) ?_)
        simp only [h1, h2, decide_true, Bool.true_and]
        by_cases h3 : (reachOf l).1 < 20
        · exact Ev.pos h3 (Ev.of_eq (Ev.now _) (by simp [h3]))
        · exact Ev.neg h3 (Ev.of_eq (Ev.now _) (by simp [h3]))
      · exact Ev.pos (by simp [h2]) (Ev.of_eq (Ev.now _) (by simp [h2]))
    · exact Ev.pos (by simp [h1]) (Ev.of_eq (Ev.now _) (by simp [h1]))
  · exact Ev.neg h (Ev.of_eq (Ev.now _) (by simp [h]))
def moveL (l : List Cell) (x y : Int) : List Cell := l.map fun c => ⟨wrap64 (c.f0 + x), wrap64 (c.f1 + y)⟩
theorem moveL_len (l : List Cell) (x y : Int) : (moveL l x y).length = l.length := by simp [moveL]
theorem specMove_ev (l : List Cell) (x y : Int) (hl : l.length ≤ 1048576) : Ev (fun k => spec_l02Move.f k l x y) (moveL l x y) := by
  have hs : small l := by unfold small; omega
  unfold spec_l02Move.f
  have := loop_list l (fun k i (s : List Cell) => spec_l02Move.l0 k l x y s i) (fun pre suf s => s ++ moveL suf x y) (fun pre s => s.length = pre.length) ?_ ?_ [] rfl
  · simpa using this
  · intro s _
    simp only [spec_l02Move.l0, len_lt, if_false]
    exact Ev.of_eq (Ev.now _) (by simp [moveL])
  · intro pre c suf s hx hi ih
    have hp := pre_len hx
    simp only [spec_l02Move.l0, pre_lt hx, pre_0, if_true, at_pre hx, pre_w hx hs]
    refine Ev.pos (by omega) (Ev.of_eq (ih _ (by simp [hi])) ?_)
    simp [moveL]
theorem implMoved_ev (l : List Cell) (x y : Int) (hl : l.length ≤ 1048576) : Ev (fun k => impl_moved.f k l x y) (moveL l x y) := by
  have hs : small l := by unfold small; omega
  unfold impl_moved.f
  refine Ev.pos (by omega) (Ev.pos (by omega) ?_)
  have := loop_list l (fun k i (s : List Cell) => impl_moved.l0 k x y s l (l.length : Int) i) (fun pre suf s => s ++ moveL suf x y) (fun pre s => s.length = pre.length) ?_ ?_ [] rfl
  · simpa using this
  · intro s _
    simp only [impl_moved.l0, len_lt, if_false]
    exact Ev.of_eq (Ev.now _) (by simp [moveL])
  · intro pre c suf s hx hi ih
    have hp := pre_len hx
    simp only [impl_moved.l0, pre_lt hx, pre_0, if_true, at_pre hx, pre_w hx hs]
    refine Ev.pos (by omega) (Ev.of_eq (ih _ (by simp [hi])) ?_)
    simp [moveL]
def normalL (l : List Cell) : List Cell := moveL l (wrap64 (-(leastOf l).1)) (wrap64 (-(leastOf l).2))
theorem normalL_len (l : List Cell) : (normalL l).length = l.length := moveL_len _ _ _
theorem specNormal_ev (l : List Cell) (hl : l.length ≤ 1048576) (h0 : 0 < l.length) : Ev (fun k => spec_l02Normal.f k l) (normalL l) := by
  unfold spec_l02Normal.f
  refine Ev.bind (specLeast_ev l (by unfold small; omega) h0) (Ev.bind (specMove_ev l _ _ hl) (Ev.now _))
theorem implNormal_ev (l : List Cell) (hl : l.length ≤ 1048576) (h0 : 0 < l.length) : Ev (fun k => impl_normal.f k l) (normalL l) := by
  unfold impl_normal.f
  refine Ev.bind (implCorner_ev l (by unfold small; omega) h0) (Ev.bind (implMoved_ev l _ _ hl) (Ev.now _))
def rotP : Nat → Int × Int → Int × Int
  | 0, p => p
  | n + 1, p => rotP n (wrap64 (-p.2), p.1)
def turnC (c : Cell) (t : Int) : Int × Int := rotP (t % 4).toNat (if t ≥ 4 then (wrap64 (-c.f0), c.f1) else (c.f0, c.f1))
theorem specTurn_l (n : Nat) (hn : n ≤ 1048576) : ∀ p : Int × Int, Ev (fun k => spec_l03Turn.l0 k (n : Int) p.1 p.2) (rotP n p) := by
  induction n with
  | zero =>
    intro p
    refine Ev.succ ?_
    simp only [spec_l03Turn.l0]
    exact Ev.neg (by simp) (Ev.now _)
  | succ n ih =>
    intro p
    refine Ev.succ ?_
    simp only [spec_l03Turn.l0]
    have e1 : wrap64 (((n + 1 : Nat) : Int) - 1) = (n : Int) := by rw [w64 (by omega) (by omega)]; omega
    refine Ev.pos (by omega) ?_
    simp only [e1]
    exact ih (by omega) (wrap64 (-p.2), p.1)
theorem implTurn_l (m : Nat) (hm : m ≤ 1048576) (n : Nat) : ∀ (i : Nat) (p : Int × Int), i + n = m → Ev (fun k => impl_turnCell.l0 k (m : Int) (i : Int) p.1 p.2) (rotP n p) := by
  induction n with
  | zero =>
    intro i p hi
    refine Ev.succ ?_
    simp only [impl_turnCell.l0]
    exact Ev.neg (by omega) (Ev.now _)
  | succ n ih =>
    intro i p hi
    refine Ev.succ ?_
    simp only [impl_turnCell.l0]
    have e1 : wrap64 ((i : Int) + 1) = ((i + 1 : Nat) : Int) := by rw [w64 (by omega) (by omega)]; omega
    refine Ev.pos (by omega) ?_
    simp only [e1]
    exact ih (i + 1) (wrap64 (-p.2), p.1) (by omega)
theorem tmod4 {t : Int} (h : 0 ≤ t) : Int.tmod t 4 = ((t % 4).toNat : Int) := by
  rw [Int.tmod_eq_emod_of_nonneg h]
  omega
theorem specTurn_ev (c : Cell) (t : Int) (h : 0 ≤ t) : Ev (fun k => spec_l03Turn.f k c.f0 c.f1 t) (turnC c t) := by
  unfold spec_l03Turn.f turnC
  have := specTurn_l (t % 4).toNat (by omega)
  by_cases h4 : t ≥ 4
  · rw [if_pos h4]
    refine Ev.pos h4 (Ev.step (fun k => spec_l03Turn.j0.eq_2 _ _ _ _) ?_)
    simp only [tmod4 h]
    exact this (wrap64 (-c.f0), c.f1)
  · rw [if_neg h4]
    refine Ev.neg h4 (Ev.step (fun k => spec_l03Turn.j0.eq_2 _ _ _ _) ?_)
    simp only [tmod4 h]
    exact this (c.f0, c.f1)
theorem implTurn_ev (c : Cell) (t : Int) (h : 0 ≤ t) : Ev (fun k => impl_turnCell.f k c.f0 c.f1 t) (turnC c t) := by
  unfold impl_turnCell.f turnC
  have := implTurn_l (t % 4).toNat (by omega) (t % 4).toNat 0
  by_cases h4 : t ≥ 4
  · rw [if_pos h4]
    refine Ev.pos h4 (Ev.step (fun k => impl_turnCell.j0.eq_2 _ _ _ _) ?_)
    simp only [tmod4 h]
    exact this (wrap64 (-c.f0), c.f1) (by omega)
  · rw [if_neg h4]
    refine Ev.neg h4 (Ev.step (fun k => impl_turnCell.j0.eq_2 _ _ _ _) ?_)
    simp only [tmod4 h]
    exact this (c.f0, c.f1) (by omega)
def turnD (t : Int) (c : Cell) : Cell := ⟨(turnC c t).1, (turnC c t).2⟩
theorem sorted_le (x y : Cell) : (!Go.Proofs.ltOf cmpV y x) = decide (¬ ltC y x) := by
  rw [ltV]
  by_cases h : ltC y x
  · have h' : y.f1 < x.f1 ∨ y.f1 = x.f1 ∧ y.f0 < x.f0 := h
    simp [h, h']
  · have h' : ¬ (y.f1 < x.f1 ∨ y.f1 = x.f1 ∧ y.f0 < x.f0) := h
    simp only [h, h', decide_false]
    rfl
theorem sortC_perm (l : List Cell) : (sortC l).Perm l := List.mergeSort_perm _ _
theorem sortC_len (l : List Cell) : (sortC l).length = l.length := (sortC_perm l).length_eq
theorem sortC_sorted (l : List Cell) : (sortC l).Pairwise fun a b => ¬ ltC b a := by
  have := List.pairwise_mergeSort (le := fun x y : Cell => !Go.Proofs.ltOf cmpV y x) (fun a b c h1 h2 => by
    rw [sorted_le, decide_eq_true_eq] at *
    unfold ltC at *
    omega) (fun a b => by
    rw [sorted_le, sorted_le, Bool.or_eq_true, decide_eq_true_eq, decide_eq_true_eq]
    unfold ltC
    omega) l
  exact this.imp fun h => by rw [sorted_le, decide_eq_true_eq] at h; exact h
theorem eq_of_sorted : ∀ (l l' : List Cell), l.Perm l' → (l.Pairwise fun a b => ¬ ltC b a) → (l'.Pairwise fun a b => ¬ ltC b a) → l = l'
  | [], l', hp, _, _ => (List.Perm.nil_eq hp)
  | a :: r, [], hp, _, _ => absurd hp.symm (by simp)
  | a :: r, b :: s, hp, h1, h2 => by
    obtain ⟨h3, h4⟩ := List.pairwise_cons.1 h1
    obtain ⟨h5, h6⟩ := List.pairwise_cons.1 h2
    have hab : a = b := by
      have ha : a ∈ b :: s := hp.mem_iff.1 List.mem_cons_self
      have hb : b ∈ a :: r := hp.mem_iff.2 List.mem_cons_self
      have n1 : ¬ ltC b a := by
        rcases List.mem_cons.1 hb with e | e
        · rw [e]; unfold ltC; omega
        · exact h3 b e
      have n2 : ¬ ltC a b := by
        rcases List.mem_cons.1 ha with e | e
        · rw [e]; unfold ltC; omega
        · exact h5 a e
      obtain ⟨a0, a1⟩ := a
      obtain ⟨b0, b1⟩ := b
      unfold ltC at n1 n2
      simp only at n1 n2
      simp only [S59.mk.injEq]
      omega
    subst hab
    rw [eq_of_sorted r s (List.Perm.cons_inv hp) h4 h6]
theorem sortC_eq {l l' : List Cell} (hp : l'.Perm l) (hs : l'.Pairwise fun a b => ¬ ltC b a) : sortC l = l' :=
  eq_of_sorted _ _ ((sortC_perm l).trans hp.symm) (sortC_sorted l) hs
theorem implSorted_eq (l : List Cell) (h0 : 0 < l.length) (h1 : l.length ≤ 1000000000000) : impl_sorted.f l = some (sortC l) := by
  unfold impl_sorted.f impl_Cell_58.f impl_Cell_100__impl_compareCells.f
  rw [if_pos h1, Option.bind_some, if_pos ⟨h0, by omega⟩]
  rfl
def sameC (a b : Cell) : Bool := decide (a.f0 = b.f0) && decide (a.f1 = b.f1)
theorem sameC_iff {a b : Cell} : sameC a b = true ↔ a = b := by
  obtain ⟨a0, a1⟩ := a
  obtain ⟨b0, b1⟩ := b
  simp [sameC]
def idxF : List Cell → Cell → Int → Int
  | [], _, _ => -1
  | a :: r, c, i => if sameC a c = true then i else idxF r c (i + 1)
def idxC (l : List Cell) (c : Cell) : Int := idxF l c 0
theorem specIndex_ev (l : List Cell) (c : Cell) (hs : small l) : Ev (fun k => spec_l02Index.f k l c.f0 c.f1) (idxC l c) := by
  unfold spec_l02Index.f
  refine loop_list l (fun k i (_ : Unit) => spec_l02Index.l0 k l i c.f0 c.f1) (fun pre suf _ => idxF suf c (pre.length : Int)) (fun _ _ => True) ?_ ?_ () trivial
  · intro _ _
    simp only [spec_l02Index.l0, len_lt, if_false]
    exact Ev.now _
  · intro pre d suf _ hx _ ih
    simp only [spec_l02Index.l0, pre_lt hx, pre_0, if_true, at_pre hx, pre_w hx hs, idxF]
    have e : (d.f0 == c.f0 && d.f1 == c.f1) = sameC d c := by simp [sameC, BEq.beq]
    rw [e]
    refine Ev.if_ (fun _ => Ev.now _) (fun _ => Ev.of_eq (ih () trivial) ?_)
    simp
theorem idxF_spec : ∀ (l : List Cell) (c : Cell) (i : Int), 0 ≤ i → (idxF l c i = -1 ∧ c ∉ l) ∨ (∃ j : Nat, j < l.length ∧ idxF l c i = i + (j : Int) ∧ l[j]? = some c ∧ ∀ q : Nat, q < j → l[q]? ≠ some c)
  | [], c, i, _ => .inl ⟨rfl, by simp⟩
  | a :: r, c, i, hi => by
    unfold idxF
    by_cases h : sameC a c = true
    · rw [if_pos h]
      exact .inr ⟨0, by simp, by simp, by simp [sameC_iff.1 h], fun q hq => by omega⟩
    · rw [if_neg h]
      have hne : a ≠ c := fun e => h (sameC_iff.2 e)
      rcases idxF_spec r c (i + 1) (by omega) with ⟨h1, h2⟩ | ⟨j, h1, h2, h3, h4⟩
      · exact .inl ⟨h1, by simp only [List.mem_cons, not_or]; exact ⟨fun e => hne e.symm, h2⟩⟩
      · refine .inr ⟨j + 1, by simpa using h1, by rw [h2]; simp; omega, by simpa using h3, fun q hq => ?_⟩
        cases q with
        | zero => simpa using hne
        | succ q => simpa using h4 q (by omega)
theorem idxC_spec (l : List Cell) (c : Cell) : (idxC l c = -1 ∧ c ∉ l) ∨ (∃ j : Nat, j < l.length ∧ idxC l c = (j : Int) ∧ l[j]? = some c ∧ ∀ q : Nat, q < j → l[q]? ≠ some c) := by
  rcases idxF_spec l c 0 (Int.le_refl _) with h | ⟨j, h1, h2, h3⟩
  · exact .inl h
  · exact .inr ⟨j, h1, by unfold idxC; rw [h2]; omega, h3⟩
theorem ltC_irrefl (a : Cell) : ¬ ltC a a := by unfold ltC; omega
theorem ltC_total {a b : Cell} (h : ¬ ltC a b) (h' : ¬ ltC b a) : a = b := by
  obtain ⟨a0, a1⟩ := a
  obtain ⟨b0, b1⟩ := b
  unfold ltC at *
  simp only [S59.mk.injEq]
  simp only at h h'
  omega
instance (priority := low) : DecidableEq Cell := fun a b => decidable_of_iff (sameC a b = true) sameC_iff
def formC (l : List Cell) (t : Int) : List Cell := normalL (sortC (l.map (turnD t)))
def cmpL : List Cell → List Cell → Int
  | [], _ => 0
  | _ :: _, [] => 0
  | a :: r, b :: s => if ltC a b then -1 else if ltC b a then 1 else cmpL r s
def cmpS (a b : List Cell) : Int := if a.length = b.length then cmpL a b else if a.length < b.length then -1 else 1
theorem cmpL_zero : ∀ (a b : List Cell), a.length = b.length → (cmpL a b = 0 ↔ a = b)
  | [], b, h => by
    have : b = [] := List.length_eq_zero_iff.1 h.symm
    simp [cmpL, this]
  | a :: r, [], h => by simp at h
  | a :: r, b :: s, h => by
    unfold cmpL
    by_cases h1 : ltC a b
    · rw [if_pos h1]
      have : a ≠ b := fun e => ltC_irrefl b (e ▸ h1)
      simp [this]
    · rw [if_neg h1]
      by_cases h2 : ltC b a
      · rw [if_pos h2]
        have : a ≠ b := fun e => ltC_irrefl b (e ▸ h2)
        simp [this]
      · rw [if_neg h2, cmpL_zero r s (by simpa using h)]
        simp [ltC_total h1 h2]
theorem cmpS_zero (a b : List Cell) : cmpS a b = 0 ↔ a = b := by
  unfold cmpS
  by_cases h : a.length = b.length
  · rw [if_pos h]; exact cmpL_zero a b h
  · rw [if_neg h]
    have : a ≠ b := fun e => h (by rw [e])
    split <;> simp [this]
theorem specCompare_ev (a b : List Cell) (ha : small a) : Ev (fun k => spec_CompareShapes.f k a b) (cmpS a b) := by
  unfold spec_CompareShapes.f cmpS
  by_cases hl : a.length = b.length
  · rw [if_pos hl]
    refine Ev.pos (by omega) ?_
    refine loop_list a (fun k i (_ : Unit) => spec_CompareShapes.l0 k a b i) (fun pre suf _ => cmpL suf (b.drop pre.length)) (fun _ _ => True) ?_ ?_ () trivial
    · intro _ _
      simp only [spec_CompareShapes.l0, len_lt, if_false]
      exact Ev.of_eq (Ev.now _) (by simp [cmpL])
    · intro pre c suf _ hx _ ih
      have hp := pre_len hx
      have hpb : pre.length < b.length := by omega
      have hlt : ((pre.length : Int) < (b.length : Int)) = True := by simp; omega
      have eb : rd_T59 b (pre.length : Int) = b[pre.length] := by
        unfold rd_T59
        rw [List.getD_eq_getElem?_getD, Int.toNat_natCast, List.getElem?_eq_getElem hpb]
        rfl
      simp only [spec_CompareShapes.l0, pre_lt hx, pre_0, if_true, hlt, at_pre hx, pre_w hx ha, eb, l02Less_eq, Option.bind_some]
      rw [List.drop_eq_getElem_cons hpb, cmpL]
      have hih := ih () trivial
      rw [List.length_append, List.length_singleton] at hih
      generalize b.drop (pre.length + 1) = R at hih ⊢
      generalize b[pre.length] = d at hih ⊢
      by_cases h1 : ltC c d
      · have h1' : c.f1 < d.f1 ∨ c.f1 = d.f1 ∧ c.f0 < d.f0 := h1
        rw [if_pos h1]
        exact Ev.pos (by simpa using h1') (Ev.now _)
      · have h1' : ¬ (c.f1 < d.f1 ∨ c.f1 = d.f1 ∧ c.f0 < d.f0) := h1
        rw [if_neg h1]
        refine Ev.neg (by simpa using h1') ?_
        by_cases h2 : ltC d c
        · have h2' : d.f1 < c.f1 ∨ d.f1 = c.f1 ∧ d.f0 < c.f0 := h2
          rw [if_pos h2]
          exact Ev.pos (by simpa using h2') (Ev.now _)
        · have h2' : ¬ (d.f1 < c.f1 ∨ d.f1 = c.f1 ∧ d.f0 < c.f0) := h2
          rw [if_neg h2]
          exact Ev.neg (by simpa using h2') hih
  · rw [if_neg hl]
    refine Ev.neg (by omega) ?_
    by_cases h : a.length < b.length
    · rw [if_pos h]; exact Ev.pos (by omega) (Ev.now _)
    · rw [if_neg h]; exact Ev.neg (by omega) (Ev.now _)
theorem at_preL2 {xs pre suf : List (List Cell)} {c : List Cell} (h : xs = pre ++ c :: suf) : rd_L2 xs (pre.length : Int) = c := by
  subst h; exact getD_at pre suf c _
theorem cmpV_ltC (a b : Cell) : cmpV a b = if ltC a b then -1 else if ltC b a then 1 else 0 := by
  unfold cmpV cI ltC
  repeat' split
  all_goals omega
theorem ordL_eq : ∀ a b : List Cell, ordL a b = cmpL a b
  | [], _ => by simp [ordL, cmpL]
  | _ :: _, [] => by simp [ordL, cmpL]
  | a :: r, b :: s => by
    unfold ordL cmpL
    rw [cmpV_ltC, ordL_eq r s]
    by_cases h1 : ltC a b
    · rw [if_pos h1, if_pos h1, if_neg (by omega)]
    · rw [if_neg h1, if_neg h1]
      by_cases h2 : ltC b a
      · rw [if_pos h2, if_pos h2, if_neg (by omega)]
      · rw [if_neg h2, if_neg h2, if_pos rfl]
theorem ordS_eq (a b : List Cell) : ordS a b = cmpS a b := by unfold ordS cmpS; rw [ordL_eq]
theorem cmpS_self (a : List Cell) : cmpS a a = 0 := (cmpS_zero a a).2 rfl
theorem cmpS_anti (a b : List Cell) : cmpS b a = -cmpS a b := by rw [← ordS_eq, ← ordS_eq]; exact ordS_anti a b
theorem cmpS_trans {a b c : List Cell} (h1 : cmpS a b ≤ 0) (h2 : cmpS b c ≤ 0) : cmpS a c ≤ 0 := by
  rw [← ordS_eq] at *
  exact ordS_trans h1 h2
theorem cmpS_lt_trans {a b c : List Cell} (h1 : cmpS a b < 0) (h2 : cmpS b c < 0) : cmpS a c < 0 := by
  have h3 := cmpS_trans (a := a) (b := b) (c := c) (by omega) (by omega)
  by_cases e : cmpS a c = 0
  · have := (cmpS_zero a c).1 e
    subst this
    have := cmpS_anti a b
    omega
  · omega
def asc (l : List (List Cell)) : Prop := l.Pairwise fun a b => cmpS a b < 0
theorem asc_eq : ∀ (a b : List (List Cell)), asc a → asc b → (∀ x, x ∈ a ↔ x ∈ b) → a = b
  | [], [], _, _, _ => rfl
  | [], b :: s, _, _, h => absurd ((h b).2 List.mem_cons_self) (by simp)
  | a :: r, [], _, _, h => absurd ((h a).1 List.mem_cons_self) (by simp)
  | a :: r, b :: s, ha, hb, h => by
    obtain ⟨h1, h2⟩ := List.pairwise_cons.1 ha
    obtain ⟨h3, h4⟩ := List.pairwise_cons.1 hb
    have e : a = b := by
      rcases List.mem_cons.1 ((h a).1 List.mem_cons_self) with e | e
      · exact e
      · rcases List.mem_cons.1 ((h b).2 List.mem_cons_self) with e' | e'
        · exact e'.symm
        · have := h1 b e'
          have := h3 a e
          have := cmpS_anti a b
          omega
    subst e
    congr 1
    refine asc_eq r s h2 h4 fun x => ⟨fun hx => ?_, fun hx => ?_⟩
    · rcases List.mem_cons.1 ((h x).1 (List.mem_cons_of_mem _ hx)) with e | e
      · have := h1 x hx
        rw [e, cmpS_self] at this
        omega
      · exact e
    · rcases List.mem_cons.1 ((h x).2 (List.mem_cons_of_mem _ hx)) with e | e
      · have := h3 x hx
        rw [e, cmpS_self] at this
        omega
      · exact e
theorem sortS_sorted (l : List (List Cell)) : (sortS l).Pairwise fun a b => cmpS a b ≤ 0 := by
  have := List.pairwise_mergeSort (le := fun x y : List Cell => !Go.Proofs.ltOf ordS y x) (fun a b c h1 h2 => by
    simp only [Bool.not_eq_true'] at *
    exact swoS.ntrans c b a h2 h1) (fun a b => by
    rw [Bool.or_eq_true]
    by_cases e : Go.Proofs.ltOf ordS b a = true
    · right
      simp only [Bool.not_eq_true']
      rw [ltS_iff]
      unfold Go.Proofs.ltOf at e
      rw [decide_eq_true_eq] at e
      rw [ordS_anti]
      omega
    · left
      simpa using e) l
  refine this.imp fun {a b} h => ?_
  simp only [Bool.not_eq_true'] at h
  rw [ltS_iff, ordS_eq] at h
  have := cmpS_anti a b
  omega
theorem sortS_mem {l : List (List Cell)} {x : List Cell} : x ∈ sortS l ↔ x ∈ l := (List.mergeSort_perm _ _).mem_iff
theorem compG_mem {β : Type} [DecidableEq β] : ∀ (l : List β) (p x : β), x ∈ compG p l ∨ x = p ↔ x ∈ l ∨ x = p
  | [], p, x => by simp [compG]
  | a :: r, p, x => by
    have ih := compG_mem r a x
    rw [compG]
    by_cases h : a = p
    · subst h
      rw [if_pos rfl, ih, List.mem_cons]
      constructor
      · rintro (h1 | h1)
        · exact .inl (.inr h1)
        · exact .inr h1
      · rintro ((h1 | h1) | h1)
        · exact .inr h1
        · exact .inl h1
        · exact .inr h1
    · rw [if_neg h, List.mem_cons, List.mem_cons]
      constructor
      · rintro ((h1 | h1) | h1)
        · exact .inl (.inl h1)
        · rcases ih.1 (.inl h1) with h2 | h2
          · exact .inl (.inr h2)
          · exact .inl (.inl h2)
        · exact .inr h1
      · rintro ((h1 | h1) | h1)
        · exact .inl (.inl h1)
        · rcases ih.2 (.inl h1) with h2 | h2
          · exact .inl (.inr h2)
          · exact .inl (.inl h2)
        · exact .inr h1
theorem compF_mem {β : Type} [DecidableEq β] {l : List β} {x : β} : x ∈ compF l ↔ x ∈ l := by
  cases l with
  | nil => simp [compF]
  | cons a r =>
    have := compG_mem r a x
    rw [compF, List.mem_cons, List.mem_cons]
    constructor
    · rintro (h | h)
      · exact .inl h
      · rcases this.1 (.inl h) with h | h
        · exact .inr h
        · exact .inl h
    · rintro (h | h)
      · exact .inl h
      · rcases this.2 (.inl h) with h | h
        · exact .inr h
        · exact .inl h
theorem compG_asc : ∀ (l : List (List Cell)) (p : List Cell), (p :: l).Pairwise (fun a b => cmpS a b ≤ 0) → asc (p :: compG p l)
  | [], p, _ => by simp [compG, asc]
  | a :: r, p, h => by
    obtain ⟨h1, h2⟩ := List.pairwise_cons.1 h
    have ih := compG_asc r a h2
    rw [compG]
    by_cases e : a = p
    · subst e
      rw [if_pos rfl]
      exact ih
    · rw [if_neg e]
      have hpa : cmpS p a < 0 := by
        have := h1 a List.mem_cons_self
        have hne : cmpS p a ≠ 0 := fun h => e ((cmpS_zero p a).1 h).symm
        omega
      refine List.pairwise_cons.2 ⟨fun b hb => ?_, ih⟩
      rcases List.mem_cons.1 hb with rfl | hb
      · exact hpa
      · exact cmpS_lt_trans hpa ((List.pairwise_cons.1 ih).1 b hb)
theorem compF_asc {l : List (List Cell)} (h : l.Pairwise fun a b => cmpS a b ≤ 0) : asc (compF l) := by
  cases l with
  | nil => exact List.Pairwise.nil
  | cons a r => rw [compF]; exact compG_asc r a h
def tidyL (l : List (List Cell)) : List (List Cell) := compF (sortS l)
theorem tidyL_mem {l : List (List Cell)} {x : List Cell} : x ∈ tidyL l ↔ x ∈ l := compF_mem.trans sortS_mem
theorem tidyL_asc (l : List (List Cell)) : asc (tidyL l) := compF_asc (sortS_sorted l)
theorem tidyL_len (l : List (List Cell)) : (tidyL l).length ≤ l.length := by
  refine Nat.le_trans (compF_len _) (Nat.le_of_eq ?_)
  exact (List.mergeSort_perm _ _).length_eq
theorem implTidy_eq (l : List (List Cell)) (h0 : 0 < l.length) (h1 : l.length < 4611686018427387904) : impl_tidyShapes.f l = some (tidyL l) := by
  unfold impl_tidyShapes.f
  rw [if_pos ⟨h0, h1⟩]
  rfl
def insS (x : List Cell) : List (List Cell) → List (List Cell)
  | [] => [x]
  | a :: r => if cmpS x a < 0 then x :: a :: r else a :: insS x r
theorem insS_mem (x : List Cell) : ∀ (l : List (List Cell)) (y : List Cell), y ∈ insS x l ↔ y = x ∨ y ∈ l
  | [], y => by simp [insS]
  | a :: r, y => by
    unfold insS
    split
    · simp
    · rw [List.mem_cons, insS_mem x r y, List.mem_cons]
      constructor
      · rintro (h | h | h)
        · exact .inr (.inl h)
        · exact .inl h
        · exact .inr (.inr h)
      · rintro (h | h | h)
        · exact .inr (.inl h)
        · exact .inl h
        · exact .inr (.inr h)
theorem insS_len (x : List Cell) : ∀ l : List (List Cell), (insS x l).length = l.length + 1
  | [] => rfl
  | a :: r => by unfold insS; split <;> simp [insS_len x r]
theorem insS_asc (x : List Cell) : ∀ l : List (List Cell), asc l → x ∉ l → asc (insS x l)
  | [], _, _ => by simp [insS, asc]
  | a :: r, h, hx => by
    obtain ⟨h1, h2⟩ := List.pairwise_cons.1 h
    unfold insS
    split
    · rename_i hc
      refine List.pairwise_cons.2 ⟨fun b hb => ?_, h⟩
      rcases List.mem_cons.1 hb with rfl | hb
      · exact hc
      · exact cmpS_lt_trans hc (h1 b hb)
    · rename_i hc
      refine List.pairwise_cons.2 ⟨fun b hb => ?_, insS_asc x r h2 (fun e => hx (List.mem_cons_of_mem _ e))⟩
      rcases (insS_mem x r b).1 hb with rfl | hb
      · have h3 : cmpS b a ≠ 0 := fun e => hx (by rw [(cmpS_zero b a).1 e]; exact List.mem_cons_self)
        have := cmpS_anti b a
        omega
      · exact h1 b hb
def addL (l : List (List Cell)) (x : List Cell) : List (List Cell) := if x ∈ l then l else insS x l
theorem addL_mem {l : List (List Cell)} {x y : List Cell} : y ∈ addL l x ↔ y = x ∨ y ∈ l := by
  unfold addL
  by_cases h : x ∈ l
  · rw [if_pos h]
    exact ⟨.inr, fun h' => h'.elim (fun e => e ▸ h) id⟩
  · rw [if_neg h]
    exact insS_mem x l y
theorem addL_asc {l : List (List Cell)} {x : List Cell} (h : asc l) : asc (addL l x) := by
  unfold addL
  by_cases hx : x ∈ l
  · rw [if_pos hx]; exact h
  · rw [if_neg hx]; exact insS_asc x l h hx
theorem addL_len (l : List (List Cell)) (x : List Cell) : (addL l x).length ≤ l.length + 1 := by
  unfold addL
  split
  · omega
  · rw [insS_len]; exact Nat.le_refl _
theorem specAdd_ev (l : List (List Cell)) (x : List Cell) (hl : l.length ≤ 1000000000) (hx_ : small x) : Ev (fun k => spec_l03Add.f k l x) (addL l x) := by
  have hs : small l := by unfold small; omega
  unfold spec_l03Add.f
  have key := loop_list l (fun k i (s : List (List Cell) × Bool) => spec_l03Add.l0 k l x s.1 s.2 i) (fun pre suf s => if x ∈ suf then l else if s.2 = true then s.1 ++ suf else s.1 ++ insS x suf) (fun pre s => s.1.length ≤ pre.length + 1 ∧ (s.2 = false → s.1.length ≤ pre.length)) ?_ ?_ ([], false) ⟨by simp, fun _ => by simp⟩
  · refine Ev.of_eq key ?_
    simp [addL]
  · rintro ⟨s, b⟩ ⟨hi, hj⟩
    simp only at hi hj
    simp only [spec_l03Add.l0, len_lt, if_false]
    cases b
    · refine Ev.neg (by simp) (Ev.pos (by omega) (Ev.of_eq (Ev.now _) ?_))
      simp [insS]
    · refine Ev.pos rfl (Ev.of_eq (Ev.now _) ?_)
      simp
  · rintro pre c suf ⟨s, b⟩ hx ⟨hi, hj⟩ ih
    have hp := pre_len hx
    simp only at hi hj
    simp only [spec_l03Add.l0, pre_lt hx, pre_0, if_true, at_preL2 hx, pre_w hx hs]
    refine Ev.bind (specCompare_ev x c hx_) ?_
    by_cases h0 : cmpS x c = 0
    · have e := (cmpS_zero x c).1 h0
      refine Ev.pos h0 (Ev.of_eq (Ev.now _) ?_)
      simp [e]
    · have hne : x ≠ c := fun e => h0 ((cmpS_zero x c).2 e)
      refine Ev.neg h0 ?_
      by_cases h1 : cmpS x c < 0
      · refine Ev.pos h1 ?_
        cases b
        · refine Ev.neg (by simp) (Ev.pos (by omega) ?_)
          have hj' := hj rfl
          refine Ev.pos (by simp; omega) (Ev.of_eq (ih ((s ++ [x]) ++ [c], true) ⟨by simp; omega, fun h => by cases h⟩) ?_)
          simp [insS, h1, hne]
        · refine Ev.pos rfl (Ev.pos (by omega) (Ev.of_eq (ih (s ++ [c], true) ⟨by simp; omega, fun h => by cases h⟩) ?_))
          simp [hne]
      · refine Ev.neg h1 (Ev.pos (by omega) (Ev.of_eq (ih (s ++ [c], b) ⟨by simp; omega, fun h => by have := hj h; simp; omega⟩) ?_))
        cases b
        · simp [insS, h1, hne]
        · simp [hne]
end Go.Proofs.Ytfdfdifjkaaeoaa.L
end
section
namespace Go.Proofs.Ytfdfdifjkaaeoaa.L
open Go.RowKit Go.Proofs.YtfdfdifjkaaeoaaW.PrintWords Go.Proofs.YtfdfdifjkaaeoaaW.PrintLast Go.Proofs.YtfdfdifjkaaeoaaW.PrintMore Go.Proofs.Ytfdfdifjkaaeoaa.F
set_option linter.unusedVariables false
set_option linter.unusedSimpArgs false
def insC (c : Cell) : List Cell → List Cell
  | [] => [c]
  | a :: r => if ltC c a then c :: a :: r else a :: insC c r
theorem insC_perm (c : Cell) : ∀ l : List Cell, (insC c l).Perm (c :: l)
  | [] => List.Perm.refl _
  | a :: r => by
    unfold insC
    split
    · exact List.Perm.refl _
    · exact ((insC_perm c r).cons a).trans (List.Perm.swap c a r)
theorem insC_sorted (c : Cell) : ∀ l : List Cell, (l.Pairwise fun a b => ¬ ltC b a) → (insC c l).Pairwise fun a b => ¬ ltC b a
  | [], _ => by simp [insC]
  | a :: r, h => by
    obtain ⟨h1, h2⟩ := List.pairwise_cons.1 h
    unfold insC
    split
    · rename_i hc
      refine List.pairwise_cons.2 ⟨fun b hb => ?_, h⟩
      rcases List.mem_cons.1 hb with rfl | hb
      · unfold ltC at *; omega
      · have := h1 b hb
        unfold ltC at *; omega
    · rename_i hc
      refine List.pairwise_cons.2 ⟨fun b hb => ?_, insC_sorted c r h2⟩
      rcases List.mem_cons.1 ((insC_perm c r).mem_iff.1 hb) with rfl | hb
      · exact hc
      · exact h1 b hb
end Go.Proofs.Ytfdfdifjkaaeoaa.L
end
