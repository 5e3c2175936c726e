/- The row of FnRestParts, with what it needs: text 11 of 13. -/
import Derived.Test.YtabdmdkoffpppaaKFR9
import Derived.ChangeArms
import Derived.ChangeSame
import Derived.Deep.Fields
import Derived.Deep.Slices
import Derived.Deep.Strs
import Derived.WideShapes
set_option maxHeartbeats 8000000
set_option maxRecDepth 100000
section
namespace Go.Proofs.Ytabdmdkoffpppaa.F
open Go.RowKit Go.Proofs.YtabdmdkoffpppaaW.PrintWords Go.Proofs.YtabdmdkoffpppaaW.PrintLast Go.Proofs.YtabdmdkoffpppaaW.PrintMore
attribute [local go_sem] max2_int min2_int max_two min_two max_three min_three max_four min_four
set_option linter.unusedVariables false
set_option linter.unusedSimpArgs false
theorem laws_FnRestParts.calls (k : Nat) (A0 : Option Addr) (c0 : Nat) (l0 : List Int) (r : Bool) (w : World) (hr0 : Kd.C (Kd.int .u8) w A0 l0.length l0) (hc0 : l0.length ≤ c0) (h : laws_FnRestParts.f k l0 = some r) :
  Calls Try.prog 13 #[.slice A0 l0.length c0] w fun e w' => e = .returned (.bool r) ∧ Below w.heap.size w w' := by
 have HR0 := aM hr0
 have HC0 := aM hc0
 clear hr0 hc0
 have HB := aM (Below.refl w.heap.size w)
 have H : ((laws_big.f l0).bind fun t1410 => (if t1410 = true then (some true) else ((spec_DrawRestParts.f k l0).bind fun bt1411 => ((impl_RestParts.f k bt1411.1 bt1411.2).bind fun bt1417 => ((spec_RestParts.f k bt1411.1 bt1411.2).bind fun bt1421 => ((spec_DrawRectangleRegion.f k l0).bind fun bt1425 => ((impl_RectangleRegion.f k bt1425.1 bt1425.2).bind fun bt1427 => ((spec_RectangleRegion.f k bt1425.1 bt1425.2).bind fun bt1431 => (if bt1417.2 = bt1421.2 then ((laws_likeInts.f k bt1417.1 bt1421.1).bind fun t1435 => (if t1435 = true then (if bt1427.2 = bt1431.2 then ((laws_likeCells.f k bt1427.1 bt1431.1).bind fun t1436 => (laws_FnRestParts.j0 k bt1411.1 bt1411.2 bt1417.1 bt1417.2 (!t1436))) else (laws_FnRestParts.j0 k bt1411.1 bt1411.2 bt1417.1 bt1417.2 true)) else (laws_FnRestParts.j0 k bt1411.1 bt1411.2 bt1417.1 bt1417.2 true))) else (laws_FnRestParts.j0 k bt1411.1 bt1411.2 bt1417.1 bt1417.2 true)))))))))) = some r := h
 clear h
 replace H := Option.bind_eq_some_iff.mp H
 obtain ⟨t1410, A20, H⟩ := H
 replace H : (if t1410 = true then (some true) else ((spec_DrawRestParts.f k l0).bind fun bt1411 => ((impl_RestParts.f k bt1411.1 bt1411.2).bind fun bt1417 => ((spec_RestParts.f k bt1411.1 bt1411.2).bind fun bt1421 => ((spec_DrawRectangleRegion.f k l0).bind fun bt1425 => ((impl_RectangleRegion.f k bt1425.1 bt1425.2).bind fun bt1427 => ((spec_RectangleRegion.f k bt1425.1 bt1425.2).bind fun bt1431 => (if bt1417.2 = bt1421.2 then ((laws_likeInts.f k bt1417.1 bt1421.1).bind fun t1435 => (if t1435 = true then (if bt1427.2 = bt1431.2 then ((laws_likeCells.f k bt1427.1 bt1431.1).bind fun t1436 => (laws_FnRestParts.j0 k bt1411.1 bt1411.2 bt1417.1 bt1417.2 (!t1436))) else (laws_FnRestParts.j0 k bt1411.1 bt1411.2 bt1417.1 bt1417.2 true)) else (laws_FnRestParts.j0 k bt1411.1 bt1411.2 bt1417.1 bt1417.2 true))) else (laws_FnRestParts.j0 k bt1411.1 bt1411.2 bt1417.1 bt1417.2 true))))))))) = some r := H
 have A2 := aM A20
 clear A20
 by_cases c3 : t1410 = true
 ·subst c3
  have H1 : (some true) = some r := by rw [if_pos rfl] at H; exact H
  clear H
  have H := H1
  clear H1
  obtain rfl := Option.some.inj H
  go_enter Try.func13, Try.ntmps13
  go_wp2_with (first | ((with_reducible refine gate_callee (f := 37) rfl ?_); refine goesL_ (some 18) rfl rfl Try.func37 (by kernel_rfl) rfl #[.slice A0 l0.length c0] rfl zm ?_; (with_reducible refine (laws_big.calls _ _ l0 true _ ?side1 ?side2 A2.out).mono ?_); (case side1 => repeat (first | exact HR0.out | (with_reducible refine Kd.C_alloc ?_ _) | (with_reducible refine Kd.C_drewN ?_ _) | (with_reducible refine Kd.C_drew ?_))); (case side2 => exact HC0.out); rintro e w' ⟨rfl, ⟨nd, rfl⟩⟩; refine ⟨_, rfl, ?_⟩))
  go_ret
  exact ⟨zw, zb⟩
 replace c3 := Bool.eq_false_iff.mpr c3
 subst c3
 have H1 : ((spec_DrawRestParts.f k l0).bind fun bt1411 => ((impl_RestParts.f k bt1411.1 bt1411.2).bind fun bt1417 => ((spec_RestParts.f k bt1411.1 bt1411.2).bind fun bt1421 => ((spec_DrawRectangleRegion.f k l0).bind fun bt1425 => ((impl_RectangleRegion.f k bt1425.1 bt1425.2).bind fun bt1427 => ((spec_RectangleRegion.f k bt1425.1 bt1425.2).bind fun bt1431 => (if bt1417.2 = bt1421.2 then ((laws_likeInts.f k bt1417.1 bt1421.1).bind fun t1435 => (if t1435 = true then (if bt1427.2 = bt1431.2 then ((laws_likeCells.f k bt1427.1 bt1431.1).bind fun t1436 => (laws_FnRestParts.j0 k bt1411.1 bt1411.2 bt1417.1 bt1417.2 (!t1436))) else (laws_FnRestParts.j0 k bt1411.1 bt1411.2 bt1417.1 bt1417.2 true)) else (laws_FnRestParts.j0 k bt1411.1 bt1411.2 bt1417.1 bt1417.2 true))) else (laws_FnRestParts.j0 k bt1411.1 bt1411.2 bt1417.1 bt1417.2 true)))))))) = some r := by rw [if_neg (show ¬ (false = true) by decide)] at H; exact H
 clear H
 have H := H1
 clear H1
 replace H := Option.bind_eq_some_iff.mp H
 obtain ⟨⟨t1411, t1412⟩, A40, H⟩ := H
 replace H : ((impl_RestParts.f k t1411 t1412).bind fun bt1417 => ((spec_RestParts.f k t1411 t1412).bind fun bt1421 => ((spec_DrawRectangleRegion.f k l0).bind fun bt1425 => ((impl_RectangleRegion.f k bt1425.1 bt1425.2).bind fun bt1427 => ((spec_RectangleRegion.f k bt1425.1 bt1425.2).bind fun bt1431 => (if bt1417.2 = bt1421.2 then ((laws_likeInts.f k bt1417.1 bt1421.1).bind fun t1435 => (if t1435 = true then (if bt1427.2 = bt1431.2 then ((laws_likeCells.f k bt1427.1 bt1431.1).bind fun t1436 => (laws_FnRestParts.j0 k t1411 t1412 bt1417.1 bt1417.2 (!t1436))) else (laws_FnRestParts.j0 k t1411 t1412 bt1417.1 bt1417.2 true)) else (laws_FnRestParts.j0 k t1411 t1412 bt1417.1 bt1417.2 true))) else (laws_FnRestParts.j0 k t1411 t1412 bt1417.1 bt1417.2 true))))))) = some r := H
 have A4 := aM A40
 clear A40
 replace H := Option.bind_eq_some_iff.mp H
 obtain ⟨⟨t1417, t1418⟩, A50, H⟩ := H
 replace H : ((spec_RestParts.f k t1411 t1412).bind fun bt1421 => ((spec_DrawRectangleRegion.f k l0).bind fun bt1425 => ((impl_RectangleRegion.f k bt1425.1 bt1425.2).bind fun bt1427 => ((spec_RectangleRegion.f k bt1425.1 bt1425.2).bind fun bt1431 => (if t1418 = bt1421.2 then ((laws_likeInts.f k t1417 bt1421.1).bind fun t1435 => (if t1435 = true then (if bt1427.2 = bt1431.2 then ((laws_likeCells.f k bt1427.1 bt1431.1).bind fun t1436 => (laws_FnRestParts.j0 k t1411 t1412 t1417 t1418 (!t1436))) else (laws_FnRestParts.j0 k t1411 t1412 t1417 t1418 true)) else (laws_FnRestParts.j0 k t1411 t1412 t1417 t1418 true))) else (laws_FnRestParts.j0 k t1411 t1412 t1417 t1418 true)))))) = some r := H
 have A5 := aM A50
 clear A50
 replace H := Option.bind_eq_some_iff.mp H
 obtain ⟨⟨t1421, t1422⟩, A60, H⟩ := H
 replace H : ((spec_DrawRectangleRegion.f k l0).bind fun bt1425 => ((impl_RectangleRegion.f k bt1425.1 bt1425.2).bind fun bt1427 => ((spec_RectangleRegion.f k bt1425.1 bt1425.2).bind fun bt1431 => (if t1418 = t1422 then ((laws_likeInts.f k t1417 t1421).bind fun t1435 => (if t1435 = true then (if bt1427.2 = bt1431.2 then ((laws_likeCells.f k bt1427.1 bt1431.1).bind fun t1436 => (laws_FnRestParts.j0 k t1411 t1412 t1417 t1418 (!t1436))) else (laws_FnRestParts.j0 k t1411 t1412 t1417 t1418 true)) else (laws_FnRestParts.j0 k t1411 t1412 t1417 t1418 true))) else (laws_FnRestParts.j0 k t1411 t1412 t1417 t1418 true))))) = some r := H
 have A6 := aM A60
 clear A60
 replace H := Option.bind_eq_some_iff.mp H
 obtain ⟨⟨t1425, t1426⟩, A70, H⟩ := H
 replace H : ((impl_RectangleRegion.f k t1425 t1426).bind fun bt1427 => ((spec_RectangleRegion.f k t1425 t1426).bind fun bt1431 => (if t1418 = t1422 then ((laws_likeInts.f k t1417 t1421).bind fun t1435 => (if t1435 = true then (if bt1427.2 = bt1431.2 then ((laws_likeCells.f k bt1427.1 bt1431.1).bind fun t1436 => (laws_FnRestParts.j0 k t1411 t1412 t1417 t1418 (!t1436))) else (laws_FnRestParts.j0 k t1411 t1412 t1417 t1418 true)) else (laws_FnRestParts.j0 k t1411 t1412 t1417 t1418 true))) else (laws_FnRestParts.j0 k t1411 t1412 t1417 t1418 true)))) = some r := H
 have A7 := aM A70
 clear A70
 replace H := Option.bind_eq_some_iff.mp H
 obtain ⟨⟨t1427, t1428⟩, A80, H⟩ := H
 replace H : ((spec_RectangleRegion.f k t1425 t1426).bind fun bt1431 => (if t1418 = t1422 then ((laws_likeInts.f k t1417 t1421).bind fun t1435 => (if t1435 = true then (if t1428 = bt1431.2 then ((laws_likeCells.f k t1427 bt1431.1).bind fun t1436 => (laws_FnRestParts.j0 k t1411 t1412 t1417 t1418 (!t1436))) else (laws_FnRestParts.j0 k t1411 t1412 t1417 t1418 true)) else (laws_FnRestParts.j0 k t1411 t1412 t1417 t1418 true))) else (laws_FnRestParts.j0 k t1411 t1412 t1417 t1418 true))) = some r := H
 have A8 := aM A80
 clear A80
 replace H := Option.bind_eq_some_iff.mp H
 obtain ⟨⟨t1431, t1432⟩, A90, H⟩ := H
 replace H : (if t1418 = t1422 then ((laws_likeInts.f k t1417 t1421).bind fun t1435 => (if t1435 = true then (if t1428 = t1432 then ((laws_likeCells.f k t1427 t1431).bind fun t1436 => (laws_FnRestParts.j0 k t1411 t1412 t1417 t1418 (!t1436))) else (laws_FnRestParts.j0 k t1411 t1412 t1417 t1418 true)) else (laws_FnRestParts.j0 k t1411 t1412 t1417 t1418 true))) else (laws_FnRestParts.j0 k t1411 t1412 t1417 t1418 true)) = some r := H
 have A9 := aM A90
 clear A90
 have HC10 := aM H
 clear H
 go_enter Try.func13, Try.ntmps13
 go_upto_region 9 with (first | ((with_reducible refine gate_callee (f := 37) rfl ?_); refine goesL_ (some 18) rfl rfl Try.func37 (by kernel_rfl) rfl #[.slice A0 l0.length c0] rfl zm ?_; (with_reducible refine (laws_big.calls _ _ l0 false _ ?side1 ?side2 A2.out).mono ?_); (case side1 => repeat (first | exact HR0.out | (with_reducible refine Kd.C_alloc ?_ _) | (with_reducible refine Kd.C_drewN ?_ _) | (with_reducible refine Kd.C_drew ?_))); (case side2 => exact HC0.out); rintro e w' ⟨rfl, ⟨nd, rfl⟩⟩; refine ⟨_, rfl, ?_⟩) | ((with_reducible refine gate_callee (f := 65) rfl ?_); refine goesL_ (some 21) rfl rfl Try.func65 (by kernel_rfl) rfl #[.slice A0 l0.length c0] rfl zm ?_; (with_reducible refine (spec_DrawRestParts.calls k _ _ l0 t1411 t1412 _ ?side1 ?side2 A4.out).mono ?_); (case side1 => repeat (first | exact HR0.out | (with_reducible refine Kd.C_alloc ?_ _) | (with_reducible refine Kd.C_drewN ?_ _) | (with_reducible refine Kd.C_drew ?_))); (case side2 => exact HC0.out); rintro e w11 ⟨v1413, v1415, rfl, ho0, ho1, hb⟩; refine ⟨_, rfl, ?_⟩; have n0_ := aM (Kd.R_lower ho0 (below_size zb)); have n1_ := aM (Kd.R_lower ho1 (below_size zb)); have n2_ := aM (below_step zb hb); clear HB; have HO1414 := n0_; have HO1416 := n1_; have HB := n2_; clear n0_ n1_ n2_; (try clear hb); (try clear hb2); (try clear hk); (try clear hi); (try clear ho0); (try clear ho1); obtain ⟨Ao12, co12, eo12⟩ := Kd.R_slice HO1414.out; subst eo12; obtain ⟨Ao13, co13, eo13⟩ := Kd.R_slice HO1416.out; subst eo13) | ((with_reducible refine gate_callee (f := 53) rfl ?_); refine goesL_ (some 27) rfl rfl Try.func53 (by kernel_rfl) rfl #[.slice Ao12 t1411.length co12, .slice Ao13 t1412.length co13] rfl zm ?_; (with_reducible refine (impl_RestParts.calls k _ _ t1411 _ _ t1412 t1417 t1418 _ ?side1 ?side2 ?side3 ?side4 A5.out).mono ?_); (case side1 => repeat (first | exact (Kd.R_reads' HO1414.out).2.2 | (with_reducible refine Kd.C_alloc ?_ _) | (with_reducible refine Kd.C_drewN ?_ _) | (with_reducible refine Kd.C_drew ?_))); (case side2 => exact (Kd.R_reads' HO1414.out).2.1); (case side3 => repeat (first | exact (Kd.R_reads' HO1416.out).2.2 | (with_reducible refine Kd.C_alloc ?_ _) | (with_reducible refine Kd.C_drewN ?_ _) | (with_reducible refine Kd.C_drew ?_))); (case side4 => exact (Kd.R_reads' HO1416.out).2.1); rintro e w14 ⟨v1419, rfl, ho0, hb⟩; refine ⟨_, rfl, ?_⟩; have n0_ := aM (Kd.R_below (mR_ HO1414.out) hb); have n1_ := aM (Kd.R_elder' (mR_ HO1416.out) (Kd.R_base ho0) hb); have n2_ := aM (Kd.R_lower (Kd.R_new' ho0 (Kd.R_lt (mR_ HO1416.out))) (below_size zb)); have n3_ := aM (below_step zb hb); clear HO1414; clear HO1416; clear HB; have HO1414 := n0_; have HO1416 := n1_; have HO1420 := n2_; have HB := n3_; clear n0_ n1_ n2_ n3_; (try clear hb); (try clear hb2); (try clear hk); (try clear hi); (try clear ho0)) | ((with_reducible refine gate_callee (f := 51) rfl ?_); refine goesL_ (some 33) rfl rfl Try.func51 (by kernel_rfl) rfl #[.slice Ao12 t1411.length co12, .slice Ao13 t1412.length co13] rfl zm ?_; (with_reducible refine (spec_RestParts.calls k _ _ t1411 _ _ t1412 t1421 t1422 _ ?side1 ?side2 ?side3 ?side4 A6.out).mono ?_); (case side1 => repeat (first | exact (Kd.R_reads' HO1414.out).2.2 | (with_reducible refine Kd.C_alloc ?_ _) | (with_reducible refine Kd.C_drewN ?_ _) | (with_reducible refine Kd.C_drew ?_))); (case side2 => exact (Kd.R_reads' HO1414.out).2.1); (case side3 => repeat (first | exact (Kd.R_reads' HO1416.out).2.2 | (with_reducible refine Kd.C_alloc ?_ _) | (with_reducible refine Kd.C_drewN ?_ _) | (with_reducible refine Kd.C_drew ?_))); (case side4 => exact (Kd.R_reads' HO1416.out).2.1); rintro e w15 ⟨v1423, rfl, ho0, hb⟩; refine ⟨_, rfl, ?_⟩; have n0_ := aM (Kd.R_below (mR_ HO1414.out) hb); have n1_ := aM (Kd.R_elder' (mR_ HO1416.out) (Kd.R_base ho0) hb); have n2_ := aM (Kd.R_elder' (mR_ HO1420.out) (Kd.R_base ho0) hb); have n3_ := aM (Kd.R_lower (Kd.R_new' (Kd.R_new' ho0 (Kd.R_lt (mR_ HO1416.out))) (Kd.R_lt (mR_ HO1420.out))) (below_size zb)); have n4_ := aM (below_step zb hb); clear HO1414; clear HO1416; clear HO1420; clear HB; have HO1414 := n0_; have HO1416 := n1_; have HO1420 := n2_; have HO1424 := n3_; have HB := n4_; clear n0_ n1_ n2_ n3_ n4_; (try clear hb); (try clear hb2); (try clear hk); (try clear hi); (try clear ho0)) | ((with_reducible refine gate_callee (f := 66) rfl ?_); refine goesL_ (some 38) rfl rfl Try.func66 (by kernel_rfl) rfl #[.slice A0 l0.length c0] rfl zm ?_; (with_reducible refine (spec_DrawRectangleRegion.calls k _ _ l0 t1425 t1426 _ ?side1 ?side2 A7.out).mono ?_); (case side1 => repeat (first | exact (Kd.C_below HR0.out HB.out) | (with_reducible refine Kd.C_alloc ?_ _) | (with_reducible refine Kd.C_drewN ?_ _) | (with_reducible refine Kd.C_drew ?_))); (case side2 => exact HC0.out); rintro e w16 ⟨rfl, hb⟩; refine ⟨_, rfl, ?_⟩; have n0_ := aM (Kd.R_below (mR_ HO1414.out) hb); have n1_ := aM (Kd.R_below (mR_ HO1416.out) hb); have n2_ := aM (Kd.R_below (mR_ HO1420.out) hb); have n3_ := aM (Kd.R_below (mR_ HO1424.out) hb); have n4_ := aM (below_step zb hb); clear HO1414; clear HO1416; clear HO1420; clear HO1424; clear HB; have HO1414 := n0_; have HO1416 := n1_; have HO1420 := n2_; have HO1424 := n3_; have HB := n4_; clear n0_ n1_ n2_ n3_ n4_; (try clear hb); (try clear hb2); (try clear hk); (try clear hi)) | ((with_reducible refine gate_callee (f := 67) rfl ?_); refine goesL_ (some 44) rfl rfl Try.func67 (by kernel_rfl) rfl #[.int .i64 t1425, .int .i64 t1426] rfl zm ?_; (with_reducible refine (impl_RectangleRegion.calls k t1425 t1426 t1427 t1428 _ A8.out).mono ?_); rintro e w17 ⟨v1429, rfl, ho0, hb⟩; refine ⟨_, rfl, ?_⟩; have n0_ := aM (Kd.R_elder' (mR_ HO1414.out) (Kd.R_base ho0) hb); have n1_ := aM (Kd.R_below (mR_ HO1416.out) hb); have n2_ := aM (Kd.R_below (mR_ HO1420.out) hb); have n3_ := aM (Kd.R_below (mR_ HO1424.out) hb); have n4_ := aM (Kd.R_lower (Kd.R_new' ho0 (Kd.R_lt (mR_ HO1414.out))) (below_size zb)); have n5_ := aM (below_step zb hb); clear HO1414; clear HO1416; clear HO1420; clear HO1424; clear HB; have HO1414 := n0_; have HO1416 := n1_; have HO1420 := n2_; have HO1424 := n3_; have HO1430 := n4_; have HB := n5_; clear n0_ n1_ n2_ n3_ n4_ n5_; (try clear hb); (try clear hb2); (try clear hk); (try clear hi); (try clear ho0)) | ((with_reducible refine gate_callee (f := 68) rfl ?_); refine goesL_ (some 50) rfl rfl Try.func68 (by kernel_rfl) rfl #[.int .i64 t1425, .int .i64 t1426] rfl zm ?_; (with_reducible refine (spec_RectangleRegion.calls k t1425 t1426 t1431 t1432 _ A9.out).mono ?_); rintro e w18 ⟨v1433, rfl, ho0, hb⟩; refine ⟨_, rfl, ?_⟩; have n0_ := aM (Kd.R_elder' (mR_ HO1414.out) (Kd.R_base ho0) hb); have n1_ := aM (Kd.R_below (mR_ HO1416.out) hb); have n2_ := aM (Kd.R_below (mR_ HO1420.out) hb); have n3_ := aM (Kd.R_below (mR_ HO1424.out) hb); have n4_ := aM (Kd.R_elder' (mR_ HO1430.out) (Kd.R_base ho0) hb); have n5_ := aM (Kd.R_lower (Kd.R_new' (Kd.R_new' ho0 (Kd.R_lt (mR_ HO1414.out))) (Kd.R_lt (mR_ HO1430.out))) (below_size zb)); have n6_ := aM (below_step zb hb); clear HO1414; clear HO1416; clear HO1420; clear HO1424; clear HO1430; clear HB; have HO1414 := n0_; have HO1416 := n1_; have HO1420 := n2_; have HO1424 := n3_; have HO1430 := n4_; have HO1434 := n5_; have HB := n6_; clear n0_ n1_ n2_ n3_ n4_ n5_ n6_; (try clear hb); (try clear hb2); (try clear hk); (try clear hi); (try clear ho0)))
 (try simp only [Act.put, xA, xB, xC])
 go_cut [72] (fun v72 wc => ∃ (kq : Nat) (x72_9 : Bool), v72 = .bool x72_9 ∧ Aside0 (laws_FnRestParts.j0 kq t1411 t1412 t1417 t1418 x72_9 = some r) ∧ Aside0 (kq ≤ k) ∧ Aside0 (Kd.R k59 59 wc w.heap.size (fun _ => True) (.slice Ao12 t1411.length co12) t1411) ∧ Aside0 (Kd.R (Kd.int .i64) 2 wc w.heap.size (fun k_ => some k_ ≠ (v1419 : Value).ownBlock) (.slice Ao13 t1412.length co13) t1412) ∧ Aside0 (Kd.R (Kd.int .i64) 2 wc w.heap.size (fun k_ => some k_ ≠ ((.slice Ao13 t1412.length co13) : Value).ownBlock) v1419 t1417) ∧ Aside0 (Below w.heap.size w wc))
 case first =>
  have H := HC10.out
  clear HC10
  by_cases c19 : t1418 = t1422
  rotate_left
  ·rw [if_neg c19] at H
   have c19b0 : (t1418 == t1422) = false := beq_eq_false_iff_ne.mpr c19
   have c19b1 : (t1418 != t1422) = true := bne_iff_ne.mpr c19
   (first | rw [c19b0] | (simp only [i64_w, i32_w]; rw [c19b0]) | skip)
   have H' := aM H
   clear H
   go_wp2
   go_meet
   case rel => exact ⟨_, (true), zr, H', ⟨by first | omega | exact Nat.le_refl _⟩, ⟨by (with_reducible repeat (first | apply Kd.R_alloc | apply Kd.R_drewN | apply Kd.R_drew)); exact Kd.R_mono HO1414.out (fun _ hk => trivial)⟩, ⟨by (with_reducible repeat (first | apply Kd.R_alloc | apply Kd.R_drewN | apply Kd.R_drew)); exact Kd.R_mono HO1416.out (fun _ hk => hk.1.2)⟩, ⟨by (with_reducible repeat (first | apply Kd.R_alloc | apply Kd.R_drewN | apply Kd.R_drew)); exact Kd.R_mono HO1420.out (fun _ hk => hk.1.2)⟩, ⟨zb⟩⟩
  rw [if_pos c19] at H
  have c19b0 : (t1418 == t1422) = true := beq_iff_eq.mpr c19
  have c19b1 : (t1418 != t1422) = false := bne_eq_false_iff_eq.mpr c19
  clear c19
  (first | rw [c19b0] | (simp only [i64_w, i32_w]; rw [c19b0]) | skip)
  replace H := Option.bind_eq_some_iff.mp H
  obtain ⟨t1435, A200, H⟩ := H
  replace H : (if t1435 = true then (if t1428 = t1432 then ((laws_likeCells.f k t1427 t1431).bind fun t1436 => (laws_FnRestParts.j0 k t1411 t1412 t1417 t1418 (!t1436))) else (laws_FnRestParts.j0 k t1411 t1412 t1417 t1418 true)) else (laws_FnRestParts.j0 k t1411 t1412 t1417 t1418 true)) = some r := H
  have A20 := aM A200
  clear A200
  by_cases c21 : t1435 = true
  rotate_left
  ·replace c21 := Bool.eq_false_iff.mpr c21
   subst c21
   have H1 : (laws_FnRestParts.j0 k t1411 t1412 t1417 t1418 true) = some r := by rw [if_neg (show ¬ (false = true) by decide)] at H; exact H
   clear H
   have H := H1
   clear H1
   have H' := aM H
   clear H
   obtain ⟨Ao30, co30, eo30⟩ := Kd.R_slice HO1420.out
   subst eo30
   obtain ⟨Ao31, co31, eo31⟩ := Kd.R_slice HO1424.out
   subst eo31
   go_wp2_with (first | (go_at_call 61; (with_reducible refine (laws_likeInts.calls k _ _ t1417 _ _ t1421 false _ ?side1 ?side2 ?side3 ?side4 A20.out).mono ?_); (case side1 => repeat (first | exact (Kd.R_reads' HO1420.out).2.2 | (with_reducible refine Kd.C_alloc ?_ _) | (with_reducible refine Kd.C_drewN ?_ _) | (with_reducible refine Kd.C_drew ?_))); (case side2 => exact (Kd.R_reads' HO1420.out).2.1); (case side3 => repeat (first | exact (Kd.R_reads' HO1424.out).2.2 | (with_reducible refine Kd.C_alloc ?_ _) | (with_reducible refine Kd.C_drewN ?_ _) | (with_reducible refine Kd.C_drew ?_))); (case side4 => exact (Kd.R_reads' HO1424.out).2.1); rintro e w' ⟨rfl, ⟨nd, rfl⟩⟩))
   go_meet
   case rel => exact ⟨_, (true), zr, H', ⟨by first | omega | exact Nat.le_refl _⟩, ⟨by (with_reducible repeat (first | apply Kd.R_alloc | apply Kd.R_drewN | apply Kd.R_drew)); exact Kd.R_mono HO1414.out (fun _ hk => trivial)⟩, ⟨by (with_reducible repeat (first | apply Kd.R_alloc | apply Kd.R_drewN | apply Kd.R_drew)); exact Kd.R_mono HO1416.out (fun _ hk => hk.1.2)⟩, ⟨by (with_reducible repeat (first | apply Kd.R_alloc | apply Kd.R_drewN | apply Kd.R_drew)); exact Kd.R_mono HO1420.out (fun _ hk => hk.1.2)⟩, ⟨zb⟩⟩
  subst c21
  have H1 : (if t1428 = t1432 then ((laws_likeCells.f k t1427 t1431).bind fun t1436 => (laws_FnRestParts.j0 k t1411 t1412 t1417 t1418 (!t1436))) else (laws_FnRestParts.j0 k t1411 t1412 t1417 t1418 true)) = some r := by rw [if_pos rfl] at H; exact H
  clear H
  have H := H1
  clear H1
  by_cases c22 : t1428 = t1432
  rotate_left
  ·rw [if_neg c22] at H
   have c22b0 : (t1428 == t1432) = false := beq_eq_false_iff_ne.mpr c22
   have c22b1 : (t1428 != t1432) = true := bne_iff_ne.mpr c22
   have H' := aM H
   clear H
   obtain ⟨Ao28, co28, eo28⟩ := Kd.R_slice HO1420.out
   subst eo28
   obtain ⟨Ao29, co29, eo29⟩ := Kd.R_slice HO1424.out
   subst eo29
   go_wp2_with (first | (go_at_call 61; (with_reducible refine (laws_likeInts.calls k _ _ t1417 _ _ t1421 true _ ?side1 ?side2 ?side3 ?side4 A20.out).mono ?_); (case side1 => repeat (first | exact (Kd.R_reads' HO1420.out).2.2 | (with_reducible refine Kd.C_alloc ?_ _) | (with_reducible refine Kd.C_drewN ?_ _) | (with_reducible refine Kd.C_drew ?_))); (case side2 => exact (Kd.R_reads' HO1420.out).2.1); (case side3 => repeat (first | exact (Kd.R_reads' HO1424.out).2.2 | (with_reducible refine Kd.C_alloc ?_ _) | (with_reducible refine Kd.C_drewN ?_ _) | (with_reducible refine Kd.C_drew ?_))); (case side4 => exact (Kd.R_reads' HO1424.out).2.1); rintro e w' ⟨rfl, ⟨nd, rfl⟩⟩))
   go_meet
   case rel => exact ⟨_, (true), zr, H', ⟨by first | omega | exact Nat.le_refl _⟩, ⟨by (with_reducible repeat (first | apply Kd.R_alloc | apply Kd.R_drewN | apply Kd.R_drew)); exact Kd.R_mono HO1414.out (fun _ hk => trivial)⟩, ⟨by (with_reducible repeat (first | apply Kd.R_alloc | apply Kd.R_drewN | apply Kd.R_drew)); exact Kd.R_mono HO1416.out (fun _ hk => hk.1.2)⟩, ⟨by (with_reducible repeat (first | apply Kd.R_alloc | apply Kd.R_drewN | apply Kd.R_drew)); exact Kd.R_mono HO1420.out (fun _ hk => hk.1.2)⟩, ⟨zb⟩⟩
  rw [if_pos c22] at H
  have c22b0 : (t1428 == t1432) = true := beq_iff_eq.mpr c22
  have c22b1 : (t1428 != t1432) = false := bne_eq_false_iff_eq.mpr c22
  clear c22
  replace H := Option.bind_eq_some_iff.mp H
  obtain ⟨t1436, A230, H⟩ := H
  replace H : (laws_FnRestParts.j0 k t1411 t1412 t1417 t1418 (!t1436)) = some r := H
  have A23 := aM A230
  clear A230
  have H' := aM H
  clear H
  obtain ⟨Ao24, co24, eo24⟩ := Kd.R_slice HO1420.out
  subst eo24
  obtain ⟨Ao25, co25, eo25⟩ := Kd.R_slice HO1424.out
  subst eo25
  go_wp2_with (first | (go_at_call 61; (with_reducible refine (laws_likeInts.calls k _ _ t1417 _ _ t1421 true _ ?side1 ?side2 ?side3 ?side4 A20.out).mono ?_); (case side1 => repeat (first | exact (Kd.R_reads' HO1420.out).2.2 | (with_reducible refine Kd.C_alloc ?_ _) | (with_reducible refine Kd.C_drewN ?_ _) | (with_reducible refine Kd.C_drew ?_))); (case side2 => exact (Kd.R_reads' HO1420.out).2.1); (case side3 => repeat (first | exact (Kd.R_reads' HO1424.out).2.2 | (with_reducible refine Kd.C_alloc ?_ _) | (with_reducible refine Kd.C_drewN ?_ _) | (with_reducible refine Kd.C_drew ?_))); (case side4 => exact (Kd.R_reads' HO1424.out).2.1); rintro e w' ⟨rfl, ⟨nd, rfl⟩⟩; obtain ⟨Ao26, co26, eo26⟩ := Kd.R_slice HO1430.out; subst eo26; obtain ⟨Ao27, co27, eo27⟩ := Kd.R_slice HO1434.out; subst eo27) | (go_at_call 60; (with_reducible refine (laws_likeCells.calls k _ _ t1427 _ _ t1431 t1436 _ ?side1 ?side2 ?side3 ?side4 A23.out).mono ?_); (case side1 => repeat (first | exact (Kd.R_reads' HO1430.out).2.2 | (with_reducible refine Kd.C_alloc ?_ _) | (with_reducible refine Kd.C_drewN ?_ _) | (with_reducible refine Kd.C_drew ?_))); (case side2 => exact (Kd.R_reads' HO1430.out).2.1); (case side3 => repeat (first | exact (Kd.R_reads' HO1434.out).2.2 | (with_reducible refine Kd.C_alloc ?_ _) | (with_reducible refine Kd.C_drewN ?_ _) | (with_reducible refine Kd.C_drew ?_))); (case side4 => exact (Kd.R_reads' HO1434.out).2.1); rintro e w' ⟨rfl, ⟨nd, rfl⟩⟩))
  go_meet
  case rel => exact ⟨_, (!t1436), zr, H', ⟨by first | omega | exact Nat.le_refl _⟩, ⟨by (with_reducible repeat (first | apply Kd.R_alloc | apply Kd.R_drewN | apply Kd.R_drew)); exact Kd.R_mono HO1414.out (fun _ hk => trivial)⟩, ⟨by (with_reducible repeat (first | apply Kd.R_alloc | apply Kd.R_drewN | apply Kd.R_drew)); exact Kd.R_mono HO1416.out (fun _ hk => hk.1.2)⟩, ⟨by (with_reducible repeat (first | apply Kd.R_alloc | apply Kd.R_drewN | apply Kd.R_drew)); exact Kd.R_mono HO1420.out (fun _ hk => hk.1.2)⟩, ⟨zb⟩⟩
 case rest =>
  clear HC10
  try clear c1
  try clear c2
  try clear p2
  try clear c3
  try clear c5
  try clear c6
  try clear c13
  try clear c19
  try clear c19b0
  try clear c19b1
  try clear c21
  try clear c22
  try clear c22b0
  try clear c22b1
  obtain ⟨kq, x72_9, rfl, HA, HJ9, HO_3, HO_4, HO_5, HB⟩ := hcut
  cases kq with
  | zero => exact absurd HA.out (by simp [laws_FnRestParts.j0])
  | succ kj9 =>
   have H := HA.out
   clear HA
   simp only [laws_FnRestParts.j0] at H
   by_cases c32 : x72_9 = true
   ·subst c32
    have H1 : (some false) = some r := by rw [if_pos rfl] at H; exact H
    clear H
    have H := H1
    clear H1
    obtain rfl := Option.some.inj H
    go_wp2
    go_ret
    exact ⟨zw, zb⟩
   replace c32 := Bool.eq_false_iff.mpr c32
   subst c32
   have H1 : (if t1418 = 0 then ((impl_CutRegion.f kj9 t1411 t1412).bind fun bt1437 => (if bt1437.2 = 0 then ((laws_sum.f kj9 t1417).bind fun t1441 => (if t1441 = (wrap64 ((t1411.length : Int) - (t1412.length : Int))) then ((impl_IsConnected.f kj9 bt1437.1).bind fun t1442 => (some (((t1417.length : Int) == 1) == t1442))) else (some false))) else (some ((t1417.length : Int) == 0)))) else (some true)) = some r := by rw [if_neg (show ¬ (false = true) by decide)] at H; exact H
   clear H
   have H := H1
   clear H1
   by_cases c33 : t1418 = 0
   rotate_left
   ·rw [if_neg c33] at H
    have c33b0 : (t1418 == 0) = false := beq_eq_false_iff_ne.mpr c33
    have c33b1 : (t1418 != 0) = true := bne_iff_ne.mpr c33
    obtain rfl := Option.some.inj H
    go_wp2
    go_ret
    exact ⟨zw, zb⟩
   rw [if_pos c33] at H
   have c33b0 : (t1418 == 0) = true := beq_iff_eq.mpr c33
   have c33b1 : (t1418 != 0) = false := bne_eq_false_iff_eq.mpr c33
   clear c33
   replace H := Option.bind_eq_some_iff.mp H
   obtain ⟨⟨t1437, t1438⟩, A340, H⟩ := H
   replace H : (if t1438 = 0 then ((laws_sum.f kj9 t1417).bind fun t1441 => (if t1441 = (wrap64 ((t1411.length : Int) - (t1412.length : Int))) then ((impl_IsConnected.f kj9 t1437).bind fun t1442 => (some (((t1417.length : Int) == 1) == t1442))) else (some false))) else (some ((t1417.length : Int) == 0))) = some r := H
   have A34 := aM A340
   clear A340
   by_cases c35 : t1438 = 0
   rotate_left
   ·rw [if_neg c35] at H
    have c35b0 : (t1438 == 0) = false := beq_eq_false_iff_ne.mpr c35
    have c35b1 : (t1438 != 0) = true := bne_iff_ne.mpr c35
    obtain rfl := Option.some.inj H
    go_wp2_with (first | ((with_reducible refine gate_callee (f := 55) rfl ?_); refine goesL_ (some 78) rfl rfl Try.func55 (by kernel_rfl) rfl #[.slice Ao12 t1411.length co12, .slice Ao13 t1412.length co13] rfl zm ?_; (with_reducible refine (impl_CutRegion.calls kj9 _ _ t1411 _ _ t1412 t1437 t1438 _ ?side1 ?side2 ?side3 ?side4 A34.out).mono ?_); (case side1 => repeat (first | exact (Kd.R_reads' HO_3.out).2.2 | (with_reducible refine Kd.C_alloc ?_ _) | (with_reducible refine Kd.C_drewN ?_ _) | (with_reducible refine Kd.C_drew ?_))); (case side2 => exact (Kd.R_reads' HO_3.out).2.1); (case side3 => repeat (first | exact (Kd.R_reads' HO_4.out).2.2 | (with_reducible refine Kd.C_alloc ?_ _) | (with_reducible refine Kd.C_drewN ?_ _) | (with_reducible refine Kd.C_drew ?_))); (case side4 => exact (Kd.R_reads' HO_4.out).2.1); rintro e w45 ⟨v1439, rfl, ho0, hb⟩; refine ⟨_, rfl, ?_⟩; have n0_ := aM (Kd.R_elder' (mR_ HO_3.out) (Kd.R_base ho0) hb); have n1_ := aM (Kd.R_below (mR_ HO_4.out) hb); have n2_ := aM (Kd.R_below (mR_ HO_5.out) hb); have n3_ := aM (Kd.R_lower (Kd.R_new' ho0 (Kd.R_lt (mR_ HO_3.out))) (below_size zb)); have n4_ := aM (below_step zb hb); clear HO_3; clear HO_4; clear HO_5; clear HB; have HO_3 := n0_; have HO_4 := n1_; have HO_5 := n2_; have HO1440 := n3_; have HB := n4_; clear n0_ n1_ n2_ n3_ n4_; (try clear hb); (try clear hb2); (try clear hk); (try clear hi); (try clear ho0); obtain ⟨Ao46, co46, eo46⟩ := Kd.R_slice HO_5.out; subst eo46))
    go_ret
    exact ⟨zw, zb⟩
   rw [if_pos c35] at H
   have c35b0 : (t1438 == 0) = true := beq_iff_eq.mpr c35
   have c35b1 : (t1438 != 0) = false := bne_eq_false_iff_eq.mpr c35
   clear c35
   replace H := Option.bind_eq_some_iff.mp H
   obtain ⟨t1441, A360, H⟩ := H
   replace H : (if t1441 = (wrap64 ((t1411.length : Int) - (t1412.length : Int))) then ((impl_IsConnected.f kj9 t1437).bind fun t1442 => (some (((t1417.length : Int) == 1) == t1442))) else (some false)) = some r := H
   have A36 := aM A360
   clear A360
   by_cases c37 : t1441 = (wrap64 ((t1411.length : Int) - (t1412.length : Int)))
   rotate_left
   ·rw [if_neg c37] at H
    have c37b0 : (t1441 == (wrap64 ((t1411.length : Int) - (t1412.length : Int)))) = false := beq_eq_false_iff_ne.mpr c37
    have c37b1 : (t1441 != (wrap64 ((t1411.length : Int) - (t1412.length : Int)))) = true := bne_iff_ne.mpr c37
    obtain rfl := Option.some.inj H
    go_wp2_with (first | ((with_reducible refine gate_callee (f := 55) rfl ?_); refine goesL_ (some 78) rfl rfl Try.func55 (by kernel_rfl) rfl #[.slice Ao12 t1411.length co12, .slice Ao13 t1412.length co13] rfl zm ?_; (with_reducible refine (impl_CutRegion.calls kj9 _ _ t1411 _ _ t1412 t1437 t1438 _ ?side1 ?side2 ?side3 ?side4 A34.out).mono ?_); (case side1 => repeat (first | exact (Kd.R_reads' HO_3.out).2.2 | (with_reducible refine Kd.C_alloc ?_ _) | (with_reducible refine Kd.C_drewN ?_ _) | (with_reducible refine Kd.C_drew ?_))); (case side2 => exact (Kd.R_reads' HO_3.out).2.1); (case side3 => repeat (first | exact (Kd.R_reads' HO_4.out).2.2 | (with_reducible refine Kd.C_alloc ?_ _) | (with_reducible refine Kd.C_drewN ?_ _) | (with_reducible refine Kd.C_drew ?_))); (case side4 => exact (Kd.R_reads' HO_4.out).2.1); rintro e w43 ⟨v1439, rfl, ho0, hb⟩; refine ⟨_, rfl, ?_⟩; have n0_ := aM (Kd.R_elder' (mR_ HO_3.out) (Kd.R_base ho0) hb); have n1_ := aM (Kd.R_below (mR_ HO_4.out) hb); have n2_ := aM (Kd.R_below (mR_ HO_5.out) hb); have n3_ := aM (Kd.R_lower (Kd.R_new' ho0 (Kd.R_lt (mR_ HO_3.out))) (below_size zb)); have n4_ := aM (below_step zb hb); clear HO_3; clear HO_4; clear HO_5; clear HB; have HO_3 := n0_; have HO_4 := n1_; have HO_5 := n2_; have HO1440 := n3_; have HB := n4_; clear n0_ n1_ n2_ n3_ n4_; (try clear hb); (try clear hb2); (try clear hk); (try clear hi); (try clear ho0); obtain ⟨Ao44, co44, eo44⟩ := Kd.R_slice HO_5.out; subst eo44) | ((with_reducible refine gate_callee (f := 69) rfl ?_); refine goesL_ (some 87) rfl rfl Try.func69 (by kernel_rfl) rfl #[.slice Ao44 t1417.length co44] rfl zm ?_; (with_reducible refine (laws_sum.calls kj9 _ _ t1417 t1441 _ ?side1 ?side2 A36.out).mono ?_); (case side1 => repeat (first | exact (Kd.R_reads' HO_5.out).2.2 | (with_reducible refine Kd.C_alloc ?_ _) | (with_reducible refine Kd.C_drewN ?_ _) | (with_reducible refine Kd.C_drew ?_))); (case side2 => exact (Kd.R_reads' HO_5.out).2.1); rintro e w' ⟨rfl, ⟨nd, rfl⟩⟩; refine ⟨_, rfl, ?_⟩))
    go_ret
    exact ⟨zw, zb⟩
   rw [if_pos c37] at H
   have c37b0 : (t1441 == (wrap64 ((t1411.length : Int) - (t1412.length : Int)))) = true := beq_iff_eq.mpr c37
   have c37b1 : (t1441 != (wrap64 ((t1411.length : Int) - (t1412.length : Int)))) = false := bne_eq_false_iff_eq.mpr c37
   clear c37
   replace H := Option.bind_eq_some_iff.mp H
   obtain ⟨t1442, A380, H⟩ := H
   replace H : (some (((t1417.length : Int) == 1) == t1442)) = some r := H
   have A38 := aM A380
   clear A380
   obtain rfl := Option.some.inj H
   go_wp2_with (first | ((with_reducible refine gate_callee (f := 55) rfl ?_); refine goesL_ (some 78) rfl rfl Try.func55 (by kernel_rfl) rfl #[.slice Ao12 t1411.length co12, .slice Ao13 t1412.length co13] rfl zm ?_; (with_reducible refine (impl_CutRegion.calls kj9 _ _ t1411 _ _ t1412 t1437 t1438 _ ?side1 ?side2 ?side3 ?side4 A34.out).mono ?_); (case side1 => repeat (first | exact (Kd.R_reads' HO_3.out).2.2 | (with_reducible refine Kd.C_alloc ?_ _) | (with_reducible refine Kd.C_drewN ?_ _) | (with_reducible refine Kd.C_drew ?_))); (case side2 => exact (Kd.R_reads' HO_3.out).2.1); (case side3 => repeat (first | exact (Kd.R_reads' HO_4.out).2.2 | (with_reducible refine Kd.C_alloc ?_ _) | (with_reducible refine Kd.C_drewN ?_ _) | (with_reducible refine Kd.C_drew ?_))); (case side4 => exact (Kd.R_reads' HO_4.out).2.1); rintro e w39 ⟨v1439, rfl, ho0, hb⟩; refine ⟨_, rfl, ?_⟩; have n0_ := aM (Kd.R_elder' (mR_ HO_3.out) (Kd.R_base ho0) hb); have n1_ := aM (Kd.R_below (mR_ HO_4.out) hb); have n2_ := aM (Kd.R_below (mR_ HO_5.out) hb); have n3_ := aM (Kd.R_lower (Kd.R_new' ho0 (Kd.R_lt (mR_ HO_3.out))) (below_size zb)); have n4_ := aM (below_step zb hb); clear HO_3; clear HO_4; clear HO_5; clear HB; have HO_3 := n0_; have HO_4 := n1_; have HO_5 := n2_; have HO1440 := n3_; have HB := n4_; clear n0_ n1_ n2_ n3_ n4_; (try clear hb); (try clear hb2); (try clear hk); (try clear hi); (try clear ho0); obtain ⟨Ao40, co40, eo40⟩ := Kd.R_slice HO_5.out; subst eo40) | ((with_reducible refine gate_callee (f := 69) rfl ?_); refine goesL_ (some 87) rfl rfl Try.func69 (by kernel_rfl) rfl #[.slice Ao40 t1417.length co40] rfl zm ?_; (with_reducible refine (laws_sum.calls kj9 _ _ t1417 t1441 _ ?side1 ?side2 A36.out).mono ?_); (case side1 => repeat (first | exact (Kd.R_reads' HO_5.out).2.2 | (with_reducible refine Kd.C_alloc ?_ _) | (with_reducible refine Kd.C_drewN ?_ _) | (with_reducible refine Kd.C_drew ?_))); (case side2 => exact (Kd.R_reads' HO_5.out).2.1); rintro e w' ⟨rfl, ⟨nd, rfl⟩⟩; refine ⟨_, rfl, ?_⟩; obtain ⟨Ao41, co41, eo41⟩ := Kd.R_slice HO1440.out; subst eo41) | (go_at_call 70; (with_reducible refine (impl_IsConnected.calls kj9 _ _ t1437 t1442 _ ?side1 ?side2 A38.out).mono ?_); (case side1 => repeat (first | exact (Kd.R_reads' HO1440.out).2.2 | (with_reducible refine Kd.C_alloc ?_ _) | (with_reducible refine Kd.C_drewN ?_ _) | (with_reducible refine Kd.C_drew ?_))); (case side2 => exact (Kd.R_reads' HO1440.out).2.1); rintro e w42 ⟨rfl, hb⟩; have n0_ := aM (Kd.R_below (mR_ HO_3.out) hb); have n1_ := aM (Kd.R_below (mR_ HO_4.out) hb); have n2_ := aM (Kd.R_below (mR_ HO_5.out) hb); have n3_ := aM (Kd.R_below (mR_ HO1440.out) hb); have n4_ := aM (below_step zb hb); clear HO_3; clear HO_4; clear HO_5; clear HO1440; clear HB; have HO_3 := n0_; have HO_4 := n1_; have HO_5 := n2_; have HO1440 := n3_; have HB := n4_; clear n0_ n1_ n2_ n3_ n4_; (try clear hb); (try clear hb2); (try clear hk); (try clear hi)))
   go_ret
   exact ⟨zw, zb⟩
end Go.Proofs.Ytabdmdkoffpppaa.F
end
section
namespace Go.Proofs.Ytabdmdkoffpppaa.Open
open Go.ChangeShapes Go.WideShapes Go.Deep Go.RowKit Go.Proofs.YtabdmdkoffpppaaW.PrintWords
def Opens {α : Type} (P : Program) (d : Kd α) (t : TypeId) (V : α → Prop) : Prop :=
  ∀ (H : Type) (enc : TypeId × Value → H) (w : World) (base : Nat) (spare : Nat → Bool) (held : Bool) (fuel : Nat) (cs : List Value) (x : DataW H × List MemPlace),
    DataW.trod enc P w base spare held fuel t cs = some x → ∃ a : α, d.K w a cs ∧ V a
theorem Opens.int {P : Program} {t : TypeId} {k : IntKind} (ht : P.underlying t = some (.int k)) : Opens P (Kd.int k) t (fun a => (Lit.int k a).wf = true) := by
  intro H enc w base spare held fuel cs x h
  obtain ⟨n, hcs, _, hw⟩ := DataW.trod_int ht h
  exact ⟨n, hcs, hw⟩
theorem Opens.bool {P : Program} {t : TypeId} (ht : P.underlying t = some .bool) : Opens P Kd.bool t (fun _ => True) := by
  intro H enc w base spare held fuel cs x h
  obtain ⟨b, hcs, _⟩ := DataW.trod_bool ht h
  exact ⟨b, hcs, trivial⟩
theorem Opens.slice {α : Type} [Inhabited α] {P : Program} {t e : TypeId} {d : Kd α} {V : α → Prop} (ht : P.underlying t = some (.slice e)) (hsz : P.cellsOf e = d.sz) (ho : Opens P d e V) :
    Opens P (Kd.slice e d) t (fun l => l.length ≤ 9223372036854775807 ∧ ∀ a ∈ l, V a) := by
  intro H enc w base spare held fuel cs x h
  rcases open_slice ht h with ⟨rfl, _⟩ | ⟨a, len, cap, m, n, D, Pl, rfl, hb, hl, hm, hmm, _, hi⟩
  · exact ⟨[], ⟨none, 0, rfl, Nat.le_refl _, rfl, by simp, fun hp => absurd hp (by simp)⟩, by simp, by simp⟩
  · have hlm : len ≤ m := by rw [hmm]; split <;> omega
    have hx : ∀ i, i < len → ∃ y : α, V y ∧ ∃ c : List Value, c.length = d.sz ∧ d.K w y c ∧ ∀ j u, c[j]? = some u → w.cell? (a.add (i * d.sz + j)) = some u := by
      intro i hil
      obtain ⟨cs', hc, ht'⟩ := hi i (by omega)
      obtain ⟨y, hk, hv⟩ := ho H enc w base spare held n cs' _ ht'
      obtain ⟨_, hcl, hat⟩ := World.cells?_some hc
      refine ⟨y, hv, cs', d.K_len hk, hk, fun j u hj => ?_⟩
      have hjl : j < cs'.length := (List.getElem?_eq_some_iff.1 hj).1
      have := hat j (by rw [hsz, ← d.K_len hk]; exact hjl)
      rw [Go.Deep.add_add, hsz] at this
      rw [this, hj]
    obtain ⟨f, hf⟩ := choose_lt hx
    have hlen : ((List.range len).map f).length = len := by simp
    refine ⟨(List.range len).map f, ⟨some a, cap, by rw [hlen], by rw [hlen]; exact hl, rfl, ?_, fun _ => ⟨a, rfl, fun j p hj => ?_⟩⟩, ?_⟩
    · rw [hlen]; unfold maxLen at hm; omega
    · have hjl : j < len := by
        have := (List.getElem?_eq_some_iff.1 hj).1
        rwa [hlen] at this
      have hp : f j = p := by
        rw [List.getElem?_map, List.getElem?_range hjl] at hj
        simpa using hj
      obtain ⟨_, c, h1, h2, h3⟩ := hf j hjl
      rw [hp] at h2
      exact ⟨c, h1, h2, h3⟩
    · refine ⟨by rw [hlen]; unfold maxLen at hm; omega, fun y hy => ?_⟩
      obtain ⟨i, hi', rfl⟩ := List.mem_map.1 hy
      exact (hf i (List.mem_range.1 hi')).1
theorem arg_open {α : Type} {P : Program} {t : TypeId} {d : Kd α} {V : α → Prop} (ho : Opens P d t V) {H : Type} {enc : TypeId × Value → H} {w : World} {base : Nat} {spare : Nat → Bool} {held : Bool} {v : Value} {x : DataW H} {p : List MemPlace}
    (h : DataW.Trod enc P w base spare held t v x p) : ∃ a : α, d.K w a v.cells.toList ∧ V a := by
  obtain ⟨fuel, hf⟩ := h
  exact ho _ _ _ _ _ _ _ _ _ hf
theorem slice_arg {α : Type} {d : Kd α} {e : Nat} {w : World} {l : List α} {a : Option Addr} {len cap : Nat} (h : (Kd.slice e d).K w l (Value.slice a len cap).cells.toList) : l.length = len ∧ l.length ≤ cap ∧ d.C w a l.length l := by
  obtain ⟨A, c, hcs, hl, hr⟩ := h
  simp [Value.cells] at hcs
  obtain ⟨rfl, rfl, rfl⟩ := hcs
  exact ⟨rfl, hl, hr⟩
end Go.Proofs.Ytabdmdkoffpppaa.Open
end
section
namespace Go.Proofs.Ytabdmdkoffpppaa.L
open Go.RowKit Go.Proofs.YtabdmdkoffpppaaW.PrintWords
theorem Ev.pos {α : Type} {c : Prop} [Decidable c] {f g : Nat → Option α} {r : α} (h : c) (e : Ev f r) : Ev (fun k => if c then f k else g k) r := by
  obtain ⟨K, e⟩ := e
  exact ⟨K, fun k hk => (if_pos h).trans (e k hk)⟩
theorem Ev.neg {α : Type} {c : Prop} [Decidable c] {f g : Nat → Option α} {r : α} (h : ¬ c) (e : Ev g r) : Ev (fun k => if c then f k else g k) r := by
  obtain ⟨K, e⟩ := e
  exact ⟨K, fun k hk => (if_neg h).trans (e k hk)⟩
theorem Ev.if_ {α : Type} {c : Prop} [Decidable c] {f g : Nat → Option α} {r s : α} (h : c → Ev f r) (h' : ¬ c → Ev g s) : Ev (fun k => if c then f k else g k) (if c then r else s) := by
  by_cases hc : c
  · rw [if_pos hc]; exact Ev.pos hc (h hc)
  · rw [if_neg hc]; exact Ev.neg hc (h' hc)
theorem Ev.of_eq {α : Type} {g : Nat → Option α} {r s : α} (h : Ev g r) (e : r = s) : Ev g s := e ▸ h
theorem Ev.bind0 {α β : Type} {o : Option α} {f : Nat → α → Option β} {a : α} {r : β} (h : o = some a) (k : Ev (fun n => f n a) r) : Ev (fun n => o.bind (f n)) r := by
  subst h
  exact k
theorem Ev.succ {α : Type} {g : Nat → Option α} {r : α} (h : Ev (fun k => g (k + 1)) r) : Ev g r := by
  obtain ⟨K, h⟩ := h
  refine ⟨K + 1, fun n hn => ?_⟩
  obtain ⟨m, rfl⟩ : ∃ m, n = m + 1 := ⟨n - 1, by omega⟩
  exact h m (by omega)
theorem w64 {n : Int} (h : -9223372036854775808 ≤ n) (h' : n ≤ 9223372036854775807) : wrap64 n = n := by
  unfold wrap64
  omega
theorem getD_at {α : Type} (pre suf : List α) (c d : α) : (pre ++ c :: suf).getD (pre.length : Int).toNat d = c := by
  simp [List.getD]
end Go.Proofs.Ytabdmdkoffpppaa.L
namespace Go.Proofs.Ytabdmdkoffpppaa.L
open Go.RowKit Go.Proofs.YtabdmdkoffpppaaW.PrintWords
theorem loop_list {α σ ρ : Type} (xs : List α) (l : Nat → Int → σ → Option ρ) (g : List α → List α → σ → ρ) (Inv : List α → σ → Prop)
    (hn : ∀ s, Inv xs s → Ev (fun k => l (k + 1) (xs.length : Int) s) (g xs [] s))
    (hs : ∀ (pre : List α) (c : α) (suf : List α) (s : σ), xs = pre ++ c :: suf → Inv pre s → (∀ s', Inv (pre ++ [c]) s' → Ev (fun k => l k ((pre.length : Int) + 1) s') (g (pre ++ [c]) suf s')) → Ev (fun k => l (k + 1) (pre.length : Int) s) (g pre (c :: suf) s)) :
    ∀ s, Inv [] s → Ev (fun k => l k 0 s) (g [] xs s) := by
  have key : ∀ (suf pre : List α), xs = pre ++ suf → ∀ s, Inv pre s → Ev (fun k => l k (pre.length : Int) s) (g pre suf s) := by
    intro suf
    induction suf with
    | nil =>
      intro pre hx s hi
      rw [List.append_nil] at hx
      subst hx
      exact Ev.succ (hn s hi)
    | cons c suf ih =>
      intro pre hx s hi
      refine Ev.succ (hs pre c suf s hx hi fun s' hi' => ?_)
      have := ih (pre ++ [c]) (by rw [hx]; simp) s' hi'
      rw [List.length_append] at this
      exact this
  intro s hi
  exact key xs [] rfl s hi
end Go.Proofs.Ytabdmdkoffpppaa.L
end
section
namespace Go.Proofs.Ytabdmdkoffpppaa.L
open Go.RowKit Go.Proofs.YtabdmdkoffpppaaW.PrintWords Go.Proofs.YtabdmdkoffpppaaW.PrintLast Go.Proofs.YtabdmdkoffpppaaW.PrintMore Go.Proofs.Ytabdmdkoffpppaa.F
set_option linter.unusedVariables false
set_option linter.unusedSimpArgs false
abbrev Cell := S59
theorem in_eq (a b c : Int) : spec_l01In.f a b c = some (decide (b ≤ a ∧ a ≤ c)) := by
  unfold spec_l01In.f
  by_cases h : a ≥ b
  · rw [if_pos h]; simp [show b ≤ a from h]
  · rw [if_neg h]; simp [show ¬ b ≤ a from h]
theorem within_eq (a b c : Int) : impl_within.f a b c = some (decide (b ≤ a ∧ a ≤ c)) := by
  unfold impl_within.f
  by_cases h : a ≥ b
  · rw [if_pos h]; simp [show b ≤ a from h]
  · rw [if_neg h]; simp [show ¬ b ≤ a from h]
def ok1 (n : Int) : Prop := -100 ≤ n ∧ n ≤ 100
instance (n : Int) : Decidable (ok1 n) := by unfold ok1; infer_instance
def okC (c : Cell) : Prop := ok1 c.f0 ∧ ok1 c.f1
instance (c : Cell) : Decidable (okC c) := by unfold okC; infer_instance
def ltC (a b : Cell) : Prop := a.f1 < b.f1 ∨ a.f1 = b.f1 ∧ a.f0 < b.f0
instance (a b : Cell) : Decidable (ltC a b) := by unfold ltC; infer_instance
theorem isCoordinate_eq (n : Int) : impl_isCoordinate.f n = some (decide (ok1 n)) := by
  unfold impl_isCoordinate.f
  rw [within_eq]
  rfl
theorem l02Cell_eq (x y : Int) : spec_l02Cell.f x y = some (decide (ok1 x ∧ ok1 y)) := by
  unfold spec_l02Cell.f
  rw [in_eq, in_eq]
  simp only [Option.bind_some]
  by_cases h : -100 ≤ x ∧ x ≤ 100
  · have h' : ok1 x := h
    simp only [h, and_self, decide_true, if_true, true_and, h', ok1]
  · have h' : ¬ ok1 x := h
    simp [h, h']
def small {α : Type} (l : List α) : Prop := l.length ≤ 4611686018427387904
theorem pre_lt {α : Type} {xs pre suf : List α} {c : α} (h : xs = pre ++ c :: suf) : ((pre.length : Int) < (xs.length : Int)) = True := by
  subst h; simp; omega
theorem pre_w {α : Type} {xs pre suf : List α} {c : α} (h : xs = pre ++ c :: suf) (hs : small xs) : wrap64 ((pre.length : Int) + 1) = (pre.length : Int) + 1 := by
  subst h
  unfold small at hs
  rw [List.length_append, List.length_cons] at hs
  exact w64 (by omega) (by omega)
theorem pre_0 {α : Type} (pre : List α) : (0 ≤ (pre.length : Int)) = True := by simp
theorem len_lt {α : Type} (xs : List α) : ((xs.length : Int) < (xs.length : Int)) = False := by simp
theorem at_pre {xs pre suf : List Cell} {c : Cell} (h : xs = pre ++ c :: suf) : rd_T59 xs (pre.length : Int) = c := by
  subst h; exact getD_at pre suf c _
theorem pre_len {α : Type} {xs pre suf : List α} {c : α} (h : xs = pre ++ c :: suf) : pre.length < xs.length := by
  subst h; simp
theorem at_preI {xs pre suf : List Int} {c : Int} (h : xs = pre ++ c :: suf) : rd xs (pre.length : Int) = c := by
  subst h; exact getD_at pre suf c _
def cmpI (a b : Int) : Int := if a < b then -1 else if a > b then 1 else 0
theorem compare_eq (a b : Int) : cmp_Compare_int64.f a b = some (cmpI a b) := by
  unfold cmp_Compare_int64.f cmp_isNaN_int64.f cmpI
  simp only [bne_self_eq_false, Option.bind_some, Bool.false_eq_true, if_false]
  split
  · rfl
  · split <;> rfl
theorem l02Less_eq (a b c d : Int) : spec_l02Less.f a b c d = some (decide (b < d ∨ b = d ∧ a < c)) := by
  unfold spec_l02Less.f
  by_cases h : b < d
  · simp [h]
  · by_cases h' : b = d <;> simp [h, h']
    
def cmpC (a b : Cell) : Int := if cmpI a.f1 b.f1 = 0 then cmpI a.f0 b.f0 else cmpI a.f1 b.f1
theorem compareCells_eq (a b : Cell) : impl_compareCells.f a.f0 a.f1 b.f0 b.f1 = some (cmpC a b) := by
  unfold impl_compareCells.f cmpC
  simp only [compare_eq, Option.bind_some]
  split <;> rfl
theorem cmpC_lt {a b : Cell} : cmpC a b < 0 ↔ ltC a b := by
  unfold cmpC cmpI ltC
  repeat' split
  all_goals constructor <;> intro h <;> omega
theorem cmpC_ge {a b : Cell} : cmpC a b ≥ 0 ↔ ¬ ltC a b := by
  rw [← cmpC_lt]; omega
def goodFrom : Option Cell → List Cell → Bool
  | _, [] => true
  | p, c :: r => decide (okC c) && (match p with | none => true | some q => decide (ltC q c)) && goodFrom (some c) r
def shapeB (l : List Cell) : Bool := goodFrom none l && decide (1 ≤ (l.length : Int) ∧ (l.length : Int) ≤ 40)
theorem specIsShape_ev (l : List Cell) (hs : small l) : Ev (fun k => spec_IsShape.f k l) (shapeB l) := by
  unfold spec_IsShape.f
  refine loop_list l (fun k i (_ : Unit) => spec_IsShape.l0 k l i) (fun pre suf _ => goodFrom pre.getLast? suf && decide (1 ≤ (l.length : Int) ∧ (l.length : Int) ≤ 40)) (fun _ _ => True) ?_ ?_ () trivial
  · intro _ _
    simp only [spec_IsShape.l0, len_lt, if_false, in_eq, Option.bind_some]
    refine Ev.of_eq (Ev.now _) ?_
    simp [goodFrom]
  · intro pre c suf _ hx _ ih
    simp only [spec_IsShape.l0, pre_lt hx, pre_0, if_true, at_pre hx, l02Cell_eq, Option.bind_some, pre_w hx hs]
    by_cases hc : okC c
    · have hc' : ok1 c.f0 ∧ ok1 c.f1 := hc
      simp only [hc', and_self, decide_true, if_true]
      rcases List.eq_nil_or_concat pre with rfl | ⟨L, b, rfl⟩
      · refine Ev.neg (by simp) (Ev.of_eq (ih () trivial) ?_)
        simp [goodFrom, hc]
      · rw [List.concat_eq_append] at hx ih ⊢
        have hx2 : l = L ++ b :: (c :: suf) := by rw [hx]; simp
        have e1 : wrap64 (((L ++ [b]).length : Int) - 1) = (L.length : Int) := by
          unfold small at hs
          rw [hx2] at hs
          simp only [List.length_append, List.length_cons, List.length_nil] at hs ⊢
          rw [w64 (by omega) (by omega)]; omega
        refine Ev.pos (by simp <;> omega) ?_
        simp only [e1, pre_0, if_true, pre_lt hx2, at_pre hx2, l02Less_eq, Option.bind_some]
        by_cases hl : ltC b c
        · have hl' : b.f1 < c.f1 ∨ b.f1 = c.f1 ∧ b.f0 < c.f0 := hl
          refine Ev.pos (by simpa using hl') (Ev.of_eq (ih () trivial) ?_)
          simp [goodFrom, hc, hl]
        · have hl' : ¬ (b.f1 < c.f1 ∨ b.f1 = c.f1 ∧ b.f0 < c.f0) := hl
          refine Ev.neg (by simpa using hl') (Ev.of_eq (Ev.now _) ?_)
          simp [goodFrom, hc, hl]
    · have hc' : ¬ (ok1 c.f0 ∧ ok1 c.f1) := hc
      simp only [hc', decide_false, Bool.false_eq_true, if_false]
      refine Ev.of_eq (Ev.now _) ?_
      simp [goodFrom, hc]
theorem implIsShape_ev (l : List Cell) (hs : small l) : Ev (fun k => impl_IsShape.f k l) (shapeB l) := by
  unfold impl_IsShape.f
  refine loop_list l (fun k i (_ : Unit) => impl_IsShape.l0 k l l (l.length : Int) i) (fun pre suf _ => goodFrom pre.getLast? suf && decide (1 ≤ (l.length : Int) ∧ (l.length : Int) ≤ 40)) (fun _ _ => True) ?_ ?_ () trivial
  · intro _ _
    simp only [impl_IsShape.l0, len_lt, if_false]
    refine Ev.of_eq (Ev.if_ (fun _ => Ev.now _) (fun _ => Ev.now _)) ?_
    by_cases h : (l.length : Int) ≥ 1
    · rw [if_pos h]; simp [goodFrom, show 1 ≤ (l.length : Int) from h]
    · rw [if_neg h]; simp [goodFrom, show ¬ 1 ≤ (l.length : Int) from h]
  · intro pre c suf _ hx _ ih
    simp only [impl_IsShape.l0, pre_lt hx, pre_0, if_true, at_pre hx, isCoordinate_eq, Option.bind_some, pre_w hx hs]
    by_cases hc : okC c
    · have hc' : ok1 c.f0 ∧ ok1 c.f1 := hc
      simp only [hc'.1, hc'.2, decide_true, if_true]
      rcases List.eq_nil_or_concat pre with rfl | ⟨L, b, rfl⟩
      · refine Ev.neg (by simp) (Ev.of_eq (ih () trivial) ?_)
        simp [goodFrom, hc]
      · rw [List.concat_eq_append] at hx ih ⊢
        have hx2 : l = L ++ b :: (c :: suf) := by rw [hx]; simp
        have e1 : wrap64 (((L ++ [b]).length : Int) - 1) = (L.length : Int) := by
          unfold small at hs
          rw [hx2] at hs
          simp only [List.length_append, List.length_cons, List.length_nil] at hs ⊢
          rw [w64 (by omega) (by omega)]; omega
        refine Ev.pos (by simp <;> omega) ?_
        simp only [e1, pre_0, if_true, pre_lt hx2, at_pre hx2, compareCells_eq, Option.bind_some]
        by_cases hl : ltC b c
        · refine Ev.neg (fun h => cmpC_ge.1 h hl) (Ev.of_eq (ih () trivial) ?_)
          simp [goodFrom, hc, hl]
        · refine Ev.pos (cmpC_ge.2 hl) (Ev.of_eq (Ev.now _) ?_)
          simp [goodFrom, hc, hl]
    · by_cases h0 : ok1 c.f0
      · have h1 : ¬ ok1 c.f1 := fun h => hc ⟨h0, h⟩
        simp only [h0, h1, decide_true, if_true, decide_false, Bool.false_eq_true, if_false]
        refine Ev.of_eq (Ev.now _) ?_
        simp [goodFrom, hc]
      · simp only [h0, decide_false, Bool.false_eq_true, if_false]
        refine Ev.of_eq (Ev.now _) ?_
        simp [goodFrom, hc]
theorem goodFrom_ok : ∀ (l : List Cell) (p : Option Cell), goodFrom p l = true → ∀ c ∈ l, okC c
  | [], _, _, c, h => by simp at h
  | a :: r, p, hg, c, h => by
    simp only [goodFrom, Bool.and_eq_true, decide_eq_true_eq] at hg
    rcases List.mem_cons.1 h with rfl | h
    · exact hg.1.1
    · exact goodFrom_ok r _ hg.2 c h
theorem ltC_trans {a b c : Cell} (h : ltC a b) (h' : ltC b c) : ltC a c := by unfold ltC at *; omega
theorem goodFrom_lt : ∀ (l : List Cell) (p : Option Cell), goodFrom p l = true → (∀ q, p = some q → ∀ c ∈ l, ltC q c) ∧ l.Pairwise ltC
  | [], _, _ => ⟨fun _ _ c h => by simp at h, List.Pairwise.nil⟩
  | a :: r, p, hg => by
    simp only [goodFrom, Bool.and_eq_true, decide_eq_true_eq] at hg
    obtain ⟨h1, h2⟩ := goodFrom_lt r (some a) hg.2
    have h3 := h1 a rfl
    refine ⟨fun q hq c hc => ?_, List.pairwise_cons.2 ⟨h3, h2⟩⟩
    subst hq
    have h4 : ltC q a := by simpa using hg.1.2
    rcases List.mem_cons.1 hc with rfl | hc
    · exact h4
    · exact ltC_trans h4 (h3 c hc)
theorem goodFrom_of : ∀ (l : List Cell) (p : Option Cell), (∀ c ∈ l, okC c) → (∀ q, p = some q → ∀ c ∈ l, ltC q c) → l.Pairwise ltC → goodFrom p l = true
  | [], _, _, _, _ => rfl
  | a :: r, p, h0, h1, h2 => by
    obtain ⟨h3, h4⟩ := List.pairwise_cons.1 h2
    simp only [goodFrom, Bool.and_eq_true, decide_eq_true_eq]
    refine ⟨⟨h0 a List.mem_cons_self, ?_⟩, goodFrom_of r (some a) (fun c hc => h0 c (List.mem_cons_of_mem _ hc)) (fun q hq c hc => by injection hq with hq; subst hq; exact h3 c hc) h4⟩
    cases p with
    | none => rfl
    | some q => simpa using h1 q rfl a List.mem_cons_self
theorem shapeB_iff {l : List Cell} : shapeB l = true ↔ (∀ c ∈ l, okC c) ∧ l.Pairwise ltC ∧ 1 ≤ l.length ∧ l.length ≤ 40 := by
  unfold shapeB
  rw [Bool.and_eq_true, decide_eq_true_eq]
  constructor
  · rintro ⟨h, h'⟩
    exact ⟨goodFrom_ok l _ h, (goodFrom_lt l _ h).2, by omega, by omega⟩
  · rintro ⟨h1, h2, h3, h4⟩
    exact ⟨goodFrom_of l none h1 (fun _ h => by cases h) h2, by omega, by omega⟩
def minX : Int → List Cell → Int := fun z l => l.foldl (fun m c => mn m c.f0) z
def minY : Int → List Cell → Int := fun z l => l.foldl (fun m c => mn m c.f1) z
def maxX : Int → List Cell → Int := fun z l => l.foldl (fun m c => mx m c.f0) z
def maxY : Int → List Cell → Int := fun z l => l.foldl (fun m c => mx m c.f1) z
def leastOf (l : List Cell) : Int × Int := match l with | [] => (0, 0) | c :: r => (minX c.f0 r, minY c.f1 r)
def reachOf (l : List Cell) : Int × Int := match l with | [] => (0, 0) | c :: r => (maxX c.f0 r, maxY c.f1 r)
theorem implCorner_ev (l : List Cell) (hs : small l) (h0 : 0 < l.length) : Ev (fun k => impl_corner.f k l) (leastOf l) := by
  unfold impl_corner.f
  obtain ⟨c, r, rfl⟩ : ∃ c r, l = c :: r := by cases l with | nil => simp at h0 | cons c r => exact ⟨c, r, rfl⟩
  refine Ev.pos (by simp <;> omega) ?_
  have h1 : rd_T59 (c :: r) 0 = c := rfl
  rw [h1]
  have := loop_list (c :: r) (fun k i (s : Int × Int) => impl_corner.l0 k (c :: r) ((c :: r).length : Int) i s.1 s.2) (fun _ suf s => (minX s.1 suf, minY s.2 suf)) (fun _ _ => True) ?_ ?_ (c.f0, c.f1) trivial
  · refine Ev.of_eq this ?_
    simp [leastOf, minX, minY, mn]
  · rintro s _
    simp only [impl_corner.l0, len_lt, if_false]
    exact Ev.now _
  · rintro pre d suf s hx _ ih
    simp only [impl_corner.l0, pre_lt hx, pre_0, if_true, at_pre hx, pre_w hx hs]
    exact ih (mn s.1 d.f0, mn s.2 d.f1) trivial
theorem implReach_ev (l : List Cell) (hs : small l) (h0 : 0 < l.length) : Ev (fun k => impl_reach.f k l) (reachOf l) := by
  unfold impl_reach.f
  obtain ⟨c, r, rfl⟩ : ∃ c r, l = c :: r := by cases l with | nil => simp at h0 | cons c r => exact ⟨c, r, rfl⟩
  refine Ev.pos (by simp <;> omega) ?_
  have h1 : rd_T59 (c :: r) 0 = c := rfl
  rw [h1]
  have := loop_list (c :: r) (fun k i (s : Int × Int) => impl_reach.l0 k (c :: r) ((c :: r).length : Int) i s.1 s.2) (fun _ suf s => (maxX s.1 suf, maxY s.2 suf)) (fun _ _ => True) ?_ ?_ (c.f0, c.f1) trivial
  · refine Ev.of_eq this ?_
    simp [reachOf, maxX, maxY, mx]
  · rintro s _
    simp only [impl_reach.l0, len_lt, if_false]
    exact Ev.now _
  · rintro pre d suf s hx _ ih
    simp only [impl_reach.l0, pre_lt hx, pre_0, if_true, at_pre hx, pre_w hx hs]
    exact ih (mx s.1 d.f0, mx s.2 d.f1) trivial
theorem loop_tail {α σ ρ : Type} (c : α) (r : List α) (l : Nat → Int → σ → Option ρ) (g : List α → List α → σ → ρ) (Inv : List α → σ → Prop)
    (hn : ∀ s, Inv (c :: r) s → Ev (fun k => l (k + 1) ((c :: r).length : Int) s) (g (c :: r) [] s))
    (hs : ∀ (pre : List α) (d : α) (suf : List α) (s : σ), c :: r = pre ++ d :: suf → pre ≠ [] → Inv pre s → (∀ s', Inv (pre ++ [d]) s' → Ev (fun k => l k ((pre.length : Int) + 1) s') (g (pre ++ [d]) suf s')) → Ev (fun k => l (k + 1) (pre.length : Int) s) (g pre (d :: suf) s)) :
    ∀ s, Inv [c] s → Ev (fun k => l k 1 s) (g [c] r s) := by
  have key : ∀ (suf pre : List α), c :: r = pre ++ suf → pre ≠ [] → ∀ s, Inv pre s → Ev (fun k => l k (pre.length : Int) s) (g pre suf s) := by
    intro suf
    induction suf with
    | nil =>
      intro pre hx _ s hi
      rw [List.append_nil] at hx
      subst hx
      exact Ev.succ (hn s hi)
    | cons d suf ih =>
      intro pre hx hp s hi
      refine Ev.succ (hs pre d suf s hx hp hi fun s' hi' => ?_)
      have := ih (pre ++ [d]) (by rw [hx]; simp) (by simp) s' hi'
      rw [List.length_append] at this
      exact this
  intro s hi
  exact key r [c] rfl (by simp) s hi
theorem specLeast_ev (l : List Cell) (hs : small l) (h0 : 0 < l.length) : Ev (fun k => spec_l02Least.f k l) (leastOf l) := by
  unfold spec_l02Least.f
  obtain ⟨c, r, rfl⟩ : ∃ c r, l = c :: r := by cases l with | nil => simp at h0 | cons c r => exact ⟨c, r, rfl⟩
  refine Ev.pos (by simp <;> omega) ?_
  have h1 : rd_T59 (c :: r) 0 = c := rfl
  rw [h1]
  refine loop_tail c r (fun k i (s : Int × Int) => spec_l02Least.l0 k (c :: r) s.1 s.2 i) (fun _ suf s => (minX s.1 suf, minY s.2 suf)) (fun _ _ => True) ?_ ?_ (c.f0, c.f1) trivial
  · rintro s _
    simp only [spec_l02Least.l0, len_lt, if_false]
    exact Ev.now _
  · rintro pre d suf s hx _ _ ih
    simp only [spec_l02Least.l0, pre_lt hx, pre_0, if_true, at_pre hx, pre_w hx hs]
    exact ih (mn s.1 d.f0, mn s.2 d.f1) trivial
theorem minX_le : ∀ (l : List Cell) (z : Int), minX z l ≤ z ∧ (∀ c ∈ l, minX z l ≤ c.f0) ∧ (minX z l = z ∨ ∃ c ∈ l, minX z l = c.f0)
  | [], z => ⟨Int.le_refl _, fun c h => by simp at h, .inl rfl⟩
  | a :: r, z => by
    obtain ⟨h1, h2, h3⟩ := minX_le r (mn z a.f0)
    have h4 : mn z a.f0 ≤ z ∧ mn z a.f0 ≤ a.f0 ∧ (mn z a.f0 = z ∨ mn z a.f0 = a.f0) := by unfold mn; split <;> omega
    have e : minX z (a :: r) = minX (mn z a.f0) r := rfl
    rw [e]
    refine ⟨by omega, fun c hc => ?_, ?_⟩
    · rcases List.mem_cons.1 hc with rfl | hc
      · omega
      · exact h2 c hc
    · rcases h3 with h3 | ⟨c, hc, h3⟩
      · rcases h4.2.2 with h5 | h5
        · exact .inl (h3.trans h5)
        · exact .inr ⟨a, List.mem_cons_self, h3.trans h5⟩
      · exact .inr ⟨c, List.mem_cons_of_mem _ hc, h3⟩
theorem minY_le : ∀ (l : List Cell) (z : Int), minY z l ≤ z ∧ (∀ c ∈ l, minY z l ≤ c.f1) ∧ (minY z l = z ∨ ∃ c ∈ l, minY z l = c.f1)
  | [], z => ⟨Int.le_refl _, fun c h => by simp at h, .inl rfl⟩
  | a :: r, z => by
    obtain ⟨h1, h2, h3⟩ := minY_le r (mn z a.f1)
    have h4 : mn z a.f1 ≤ z ∧ mn z a.f1 ≤ a.f1 ∧ (mn z a.f1 = z ∨ mn z a.f1 = a.f1) := by unfold mn; split <;> omega
    have e : minY z (a :: r) = minY (mn z a.f1) r := rfl
    rw [e]
    refine ⟨by omega, fun c hc => ?_, ?_⟩
    · rcases List.mem_cons.1 hc with rfl | hc
      · omega
      · exact h2 c hc
    · rcases h3 with h3 | ⟨c, hc, h3⟩
      · rcases h4.2.2 with h5 | h5
        · exact .inl (h3.trans h5)
        · exact .inr ⟨a, List.mem_cons_self, h3.trans h5⟩
      · exact .inr ⟨c, List.mem_cons_of_mem _ hc, h3⟩
theorem least_le {l : List Cell} {c : Cell} (h : c ∈ l) : (leastOf l).1 ≤ c.f0 ∧ (leastOf l).2 ≤ c.f1 := by
  cases l with
  | nil => simp at h
  | cons a r =>
    have hx := minX_le r a.f0
    have hy := minY_le r a.f1
    show minX a.f0 r ≤ c.f0 ∧ minY a.f1 r ≤ c.f1
    rcases List.mem_cons.1 h with rfl | h
    · exact ⟨hx.1, hy.1⟩
    · exact ⟨hx.2.1 c h, hy.2.1 c h⟩
theorem least_mem {l : List Cell} (h : l ≠ []) : (∃ c ∈ l, (leastOf l).1 = c.f0) ∧ (∃ c ∈ l, (leastOf l).2 = c.f1) := by
  cases l with
  | nil => exact absurd rfl h
  | cons a r =>
    refine ⟨?_, ?_⟩
    · rcases (minX_le r a.f0).2.2 with e | ⟨c, hc, e⟩
      · exact ⟨a, List.mem_cons_self, e⟩
      · exact ⟨c, List.mem_cons_of_mem _ hc, e⟩
    · rcases (minY_le r a.f1).2.2 with e | ⟨c, hc, e⟩
      · exact ⟨a, List.mem_cons_self, e⟩
      · exact ⟨c, List.mem_cons_of_mem _ hc, e⟩
theorem least_ok {l : List Cell} (h : l ≠ []) (ho : ∀ c ∈ l, okC c) : ok1 (leastOf l).1 ∧ ok1 (leastOf l).2 := by
  obtain ⟨⟨c, hc, e⟩, ⟨d, hd, e'⟩⟩ := least_mem h
  rw [e, e']
  exact ⟨(ho c hc).1, (ho d hd).2⟩
def sizeOf_ (l : List Cell) : Int × Int := ((reachOf l).1 - (leastOf l).1 + 1, (reachOf l).2 - (leastOf l).2 + 1)
theorem foldW (x : Int) : ∀ (l : List Cell) (m : Int), l.foldl (fun m c => mx m (c.f0 - x + 1)) (m - x + 1) = maxX m l - x + 1
  | [], m => rfl
  | a :: r, m => by
    have : mx (m - x + 1) (a.f0 - x + 1) = mx m a.f0 - x + 1 := by unfold mx; split <;> split <;> omega
    simp only [List.foldl_cons, this, foldW x r]
    rfl
theorem foldH (x : Int) : ∀ (l : List Cell) (m : Int), l.foldl (fun m c => mx m (c.f1 - x + 1)) (m - x + 1) = maxY m l - x + 1
  | [], m => rfl
  | a :: r, m => by
    have : mx (m - x + 1) (a.f1 - x + 1) = mx m a.f1 - x + 1 := by unfold mx; split <;> split <;> omega
    simp only [List.foldl_cons, this, foldH x r]
    rfl
theorem specSize_ev (l : List Cell) (hs : small l) (h0 : l ≠ []) (ho : ∀ c ∈ l, okC c) : Ev (fun k => spec_l04Size.f k l) (sizeOf_ l) := by
  unfold spec_l04Size.f
  refine Ev.bind (specLeast_ev l hs (List.length_pos_iff.2 h0)) ?_
  have hb := least_ok h0 ho
  have := loop_list l (fun k i (s : Int × Int) => spec_l04Size.l0 k l (leastOf l).1 (leastOf l).2 s.1 s.2 i)
    (fun _ suf s => (suf.foldl (fun m c => mx m (c.f0 - (leastOf l).1 + 1)) s.1, suf.foldl (fun m c => mx m (c.f1 - (leastOf l).2 + 1)) s.2)) (fun _ _ => True) ?_ ?_ (0, 0) trivial
  · refine Ev.of_eq this ?_
    obtain ⟨a, r, rfl⟩ : ∃ a r, l = a :: r := by cases l with | nil => exact absurd rfl h0 | cons a r => exact ⟨a, r, rfl⟩
    have hl := least_le (l := a :: r) (c := a) List.mem_cons_self
    have e1 : mx 0 (a.f0 - (leastOf (a :: r)).1 + 1) = a.f0 - (leastOf (a :: r)).1 + 1 := by unfold mx; split <;> omega
    have e2 : mx 0 (a.f1 - (leastOf (a :: r)).2 + 1) = a.f1 - (leastOf (a :: r)).2 + 1 := by unfold mx; split <;> omega
    simp only [List.foldl_cons, e1, e2, foldW, foldH]
    rfl
  · rintro s _
    simp only [spec_l04Size.l0, len_lt, if_false]
    exact Ev.now _
  · rintro pre d suf s hx _ ih
    have hd := ho d (by rw [hx]; simp)
    unfold okC ok1 at hd
    unfold ok1 at hb
    have e1 : wrap64 (wrap64 (d.f0 - (leastOf l).1) + 1) = d.f0 - (leastOf l).1 + 1 := by rw [w64 (n := d.f0 - (leastOf l).1) (by omega) (by omega), w64 (by omega) (by omega)]
    have e2 : wrap64 (wrap64 (d.f1 - (leastOf l).2) + 1) = d.f1 - (leastOf l).2 + 1 := by rw [w64 (n := d.f1 - (leastOf l).2) (by omega) (by omega), w64 (by omega) (by omega)]
    simp only [spec_l04Size.l0, pre_lt hx, pre_0, if_true, at_pre hx, pre_w hx hs, e1, e2]
    exact ih (mx s.1 (d.f0 - (leastOf l).1 + 1), mx s.2 (d.f1 - (leastOf l).2 + 1)) trivial
def regionB (l : List Cell) : Bool := shapeB l && (decide ((leastOf l).1 = 0) && (decide ((leastOf l).2 = 0) && (decide ((reachOf l).1 < 20) && decide ((reachOf l).2 < 20))))
theorem shape_ne {l : List Cell} (h : shapeB l = true) : l ≠ [] := by
  have := (shapeB_iff.1 h).2.2.1
  intro e
  rw [e] at this
  simp at this
theorem specIsRegion_ev (l : List Cell) (hs : small l) : Ev (fun k => spec_IsRegion.f k l) (regionB l) := by
  unfold spec_IsRegion.f
  refine Ev.bind (specIsShape_ev l hs) ?_
  unfold regionB
  by_cases h : shapeB l = true
  · have hn := shape_ne h
    have ho := (shapeB_iff.1 h).1
    refine Ev.pos h (Ev.bind (specSize_ev l hs hn ho) (Ev.bind (specLeast_ev l hs (List.length_pos_iff.2 hn)) ?_))
    rw [h, Bool.true_and]
    by_cases h1 : (leastOf l).1 = 0
    · refine Ev.pos h1 ?_
      by_cases h2 : (leastOf l).2 = 0
      · refine Ev.pos h2 ?_
        simp only [sizeOf_, h1, h2, decide_true, Bool.true_and]
        by_cases h3 : (reachOf l).1 < 20
        · refine Ev.pos (by omega) (Ev.of_eq (Ev.now _) ?_)
          simp [h3]; omega
        · refine Ev.neg (by omega) (Ev.of_eq (Ev.now _) ?_)
          simp [h3]
      · exact Ev.neg h2 (Ev.of_eq (Ev.now _) (by simp [h2]))
    · exact Ev.neg h1 (Ev.of_eq (Ev.now _) (by simp [h1]))
  · exact Ev.neg h (Ev.of_eq (Ev.now _) (by simp [h]))
theorem implIsRegion_ev (l : List Cell) (hs : small l) : Ev (fun k => impl_IsRegion.f k l) (regionB l) := by
  unfold impl_IsRegion.f
  refine Ev.bind (implIsShape_ev l hs) ?_
  unfold regionB
  by_cases h : shapeB l = true
  · have hn := shape_ne h
    refine Ev.pos h (Ev.bind (implCorner_ev l hs (List.length_pos_iff.2 hn)) ?_)
    rw [h, Bool.true_and]
    by_cases h1 : (leastOf l).1 = 0
    · by_cases h2 : (leastOf l).2 = 0
      · refine Ev.neg (by simp [h1, h2]) (Ev.bind (implReach_ev l hs (List.length_pos_iff.2 hn)) ?_)
        simp only [h1, h2, decide_true, Bool.true_and]
        by_cases h3 : (reachOf l).1 < 20
        · exact Ev.pos h3 (Ev.of_eq (Ev.now _) (by simp [h3]))
        · exact Ev.neg h3 (Ev.of_eq (Ev.now _) (by simp [h3]))
      · exact Ev.pos (by simp [h2]) (Ev.of_eq (Ev.now _) (by simp [h2]))
    · exact Ev.pos (by simp [h1]) (Ev.of_eq (Ev.now _) (by simp [h1]))
  · exact Ev.neg h (Ev.of_eq (Ev.now _) (by simp [h]))
def sameC (a b : Cell) : Bool := decide (a.f0 = b.f0) && decide (a.f1 = b.f1)
theorem sameC_iff {a b : Cell} : sameC a b = true ↔ a = b := by
  obtain ⟨a0, a1⟩ := a
  obtain ⟨b0, b1⟩ := b
  simp [sameC]
def idxF : List Cell → Cell → Int → Int
  | [], _, _ => -1
  | a :: r, c, i => if sameC a c = true then i else idxF r c (i + 1)
def idxC (l : List Cell) (c : Cell) : Int := idxF l c 0
theorem specIndex_ev (l : List Cell) (c : Cell) (hs : small l) : Ev (fun k => spec_l02Index.f k l c.f0 c.f1) (idxC l c) := by
  unfold spec_l02Index.f
  refine loop_list l (fun k i (_ : Unit) => spec_l02Index.l0 k l i c.f0 c.f1) (fun pre suf _ => idxF suf c (pre.length : Int)) (fun _ _ => True) ?_ ?_ () trivial
  · intro _ _
    simp only [spec_l02Index.l0, len_lt, if_false]
    exact Ev.now _
  · intro pre d suf _ hx _ ih
    simp only [spec_l02Index.l0, pre_lt hx, pre_0, if_true, at_pre hx, pre_w hx hs, idxF]
    have e : (d.f0 == c.f0 && d.f1 == c.f1) = sameC d c := by simp [sameC, BEq.beq]
    rw [e]
    refine Ev.if_ (fun _ => Ev.now _) (fun _ => Ev.of_eq (ih () trivial) ?_)
    simp
theorem idxF_spec : ∀ (l : List Cell) (c : Cell) (i : Int), 0 ≤ i → (idxF l c i = -1 ∧ c ∉ l) ∨ (∃ j : Nat, j < l.length ∧ idxF l c i = i + (j : Int) ∧ l[j]? = some c ∧ ∀ q : Nat, q < j → l[q]? ≠ some c)
  | [], c, i, _ => .inl ⟨rfl, by simp⟩
  | a :: r, c, i, hi => by
    unfold idxF
    by_cases h : sameC a c = true
    · rw [if_pos h]
      exact .inr ⟨0, by simp, by simp, by simp [sameC_iff.1 h], fun q hq => by omega⟩
    · rw [if_neg h]
      have hne : a ≠ c := fun e => h (sameC_iff.2 e)
      rcases idxF_spec r c (i + 1) (by omega) with ⟨h1, h2⟩ | ⟨j, h1, h2, h3, h4⟩
      · exact .inl ⟨h1, by simp only [List.mem_cons, not_or]; exact ⟨fun e => hne e.symm, h2⟩⟩
      · refine .inr ⟨j + 1, by simpa using h1, by rw [h2]; simp; omega, by simpa using h3, fun q hq => ?_⟩
        cases q with
        | zero => simpa using hne
        | succ q => simpa using h4 q (by omega)
theorem idxC_spec (l : List Cell) (c : Cell) : (idxC l c = -1 ∧ c ∉ l) ∨ (∃ j : Nat, j < l.length ∧ idxC l c = (j : Int) ∧ l[j]? = some c ∧ ∀ q : Nat, q < j → l[q]? ≠ some c) := by
  rcases idxF_spec l c 0 (Int.le_refl _) with h | ⟨j, h1, h2, h3⟩
  · exact .inl h
  · exact .inr ⟨j, h1, by unfold idxC; rw [h2]; omega, h3⟩
theorem idxC_mem (l : List Cell) (c : Cell) : idxC l c ≥ 0 ↔ c ∈ l := by
  rcases idxC_spec l c with ⟨h1, h2⟩ | ⟨j, h1, h2, h3, _⟩
  · rw [h1]; constructor
    · intro h; omega
    · intro h; exact absurd h h2
  · rw [h2]; constructor
    · intro _; exact List.mem_of_getElem? h3
    · intro _; omega
def visit1 (l : List Cell) (i : Int) (s : List Int × List Int) (d : Cell) : List Int × List Int :=
  if idxC l d ≥ 0 ∧ rd s.1 (idxC l d) < 0 then (s.1.set (idxC l d).toNat i, s.2 ++ [idxC l d]) else s
def visit (l : List Cell) (i : Int) (ds : List Cell) (s : List Int × List Int) : List Int × List Int := ds.foldl (visit1 l i) s
def negs (o : List Int) : Nat := o.countP fun x => decide (x < 0)
structure Fine (l : List Cell) (o q : List Int) : Prop where
  len : o.length = l.length
  rng : ∀ j ∈ q, 0 ≤ j ∧ j < (l.length : Int)
theorem idxC_lt (l : List Cell) (d : Cell) : idxC l d < (l.length : Int) := by
  rcases idxC_spec l d with ⟨h, _⟩ | ⟨j, h1, h2, _⟩
  · omega
  · omega
theorem rd_set (o : List Int) (j : Nat) (i : Int) (q : Int) (hj : j < o.length) : rd (o.set j i) q = if q.toNat = j then i else rd o q := by
  unfold rd
  rw [List.getD_eq_getElem?_getD, List.getD_eq_getElem?_getD]
  by_cases h : q.toNat = j
  · rw [if_pos h, h, List.getElem?_set_self hj]; rfl
  · rw [if_neg h, List.getElem?_set_ne (by omega)]
theorem negs_set (o : List Int) (j : Int) (i : Int) (h0 : 0 ≤ j) (h1 : j < (o.length : Int)) (h : rd o j < 0) (hi : 0 ≤ i) : negs (o.set j.toNat i) + 1 = negs o := by
  have hj : j.toNat < o.length := by omega
  have hr : o[j.toNat] < 0 := by
    unfold rd at h
    rw [List.getD_eq_getElem?_getD, List.getElem?_eq_getElem hj] at h
    exact h
  unfold negs
  have hpos : 0 < o.countP fun x => decide (x < 0) := List.countP_pos_iff.2 ⟨_, List.getElem_mem hj, by simpa using hr⟩
  rw [List.countP_set hj]
  have e1 : decide (i < 0) = false := decide_eq_false (by omega)
  have e2 : decide (o[j.toNat] < 0) = true := decide_eq_true hr
  simp only [e1, e2, if_true]
  simp
  omega
theorem visit1_fine {l : List Cell} {i : Int} (hi : 0 ≤ i) {s : List Int × List Int} (h : Fine l s.1 s.2) (d : Cell) :
    Fine l (visit1 l i s d).1 (visit1 l i s d).2 ∧ negs (visit1 l i s d).1 + (visit1 l i s d).2.length = negs s.1 + s.2.length ∧ s.2.length ≤ (visit1 l i s d).2.length ∧ ∀ j : Int, 0 ≤ rd s.1 j → 0 ≤ rd (visit1 l i s d).1 j := by
  unfold visit1
  by_cases hc : idxC l d ≥ 0 ∧ rd s.1 (idxC l d) < 0
  · rw [if_pos hc]
    have hlt := idxC_lt l d
    have hln := h.len
    refine ⟨⟨by simpa using h.len, fun j hj => ?_⟩, ?_, by simp, fun j hj => ?_⟩
    · rcases List.mem_append.1 hj with hj | hj
      · exact h.rng j hj
      · simp at hj; omega
    · have := negs_set s.1 (idxC l d) i hc.1 (by omega) hc.2 hi
      simp only [List.length_append, List.length_singleton]
      omega
    · simp only
      rw [rd_set _ _ _ _ (by omega)]
      split
      · exact hi
      · exact hj
  · rw [if_neg hc]
    exact ⟨h, rfl, Nat.le_refl _, fun _ h => h⟩
theorem visit_fine {l : List Cell} {i : Int} (hi : 0 ≤ i) : ∀ (ds : List Cell) {s : List Int × List Int}, Fine l s.1 s.2 →
    Fine l (visit l i ds s).1 (visit l i ds s).2 ∧ negs (visit l i ds s).1 + (visit l i ds s).2.length = negs s.1 + s.2.length ∧ s.2.length ≤ (visit l i ds s).2.length ∧ ∀ j : Int, 0 ≤ rd s.1 j → 0 ≤ rd (visit l i ds s).1 j
  | [], s, h => ⟨h, rfl, Nat.le_refl _, fun _ h => h⟩
  | d :: r, s, h => by
    obtain ⟨h1, h2, h3, h4⟩ := visit1_fine hi h d
    obtain ⟨h5, h6, h7, h8⟩ := visit_fine hi r h1
    exact ⟨h5, h6.trans h2, Nat.le_trans h3 h7, fun j hj => h8 j (h4 j hj)⟩
theorem visit_snoc (l : List Cell) (i : Int) (ds : List Cell) (d : Cell) (s : List Int × List Int) : visit l i (ds ++ [d]) s = visit1 l i (visit l i ds s) d := by
  simp [visit]
def bfs (nb : Cell → List Cell) (l : List Cell) (i : Int) : Nat → List Int → List Int → List Int
  | 0, o, _ => o
  | _ + 1, o, [] => o
  | n + 1, o, c :: q => bfs nb l i n (visit l i (nb (rd_T59 l c)) (o, q)).1 (visit l i (nb (rd_T59 l c)) (o, q)).2
theorem bfs_fine {nb : Cell → List Cell} {l : List Cell} {i : Int} (hi : 0 ≤ i) : ∀ (n : Nat) (o q : List Int), Fine l o q → (bfs nb l i n o q).length = l.length ∧ ∀ j : Int, 0 ≤ rd o j → 0 ≤ rd (bfs nb l i n o q) j
  | 0, o, q, h => ⟨h.len, fun _ h => h⟩
  | n + 1, o, [], h => ⟨h.len, fun _ h => h⟩
  | n + 1, o, c :: q, h => by
    have h' : Fine l o q := ⟨h.len, fun j hj => h.rng j (List.mem_cons_of_mem _ hj)⟩
    obtain ⟨h1, _, _, h4⟩ := visit_fine hi (nb (rd_T59 l c)) (s := (o, q)) h'
    obtain ⟨h5, h6⟩ := bfs_fine hi n _ _ h1
    exact ⟨h5, fun j hj => h6 j (h4 j hj)⟩
def partsF (nb : Cell → List Cell) (l : List Cell) : Int → List Cell → List Int → List Int
  | _, [], o => o
  | i, _ :: r, o => partsF nb l (i + 1) r (if rd o i ≥ 0 then o else bfs nb l i l.length (o.set i.toNat i) [i])
def partsR (nb : Cell → List Cell) (l : List Cell) : List Int := partsF nb l 0 l (List.replicate l.length (-1))
theorem step_fine {l : List Cell} {o : List Int} {i : Nat} (hl : o.length = l.length) (hi : i < l.length) (h : ¬ rd o (i : Int) ≥ 0) : Fine l (o.set i (i : Int)) [(i : Int)] ∧ negs (o.set i (i : Int)) + 1 ≤ l.length := by
  refine ⟨⟨by simpa using hl, fun j hj => by simp at hj; omega⟩, ?_⟩
  have h1 := negs_set o (i : Int) (i : Int) (by omega) (by omega) (by omega) (by omega)
  rw [Int.toNat_natCast] at h1
  have h2 : negs o ≤ o.length := List.countP_le_length
  omega
theorem step_next {nb : Cell → List Cell} {l : List Cell} {o : List Int} {i : Nat} (hl : o.length = l.length) (hi : i < l.length) (hd : ∀ j : Nat, j < i → 0 ≤ rd o (j : Int)) :
    (if rd o (i : Int) ≥ 0 then o else bfs nb l (i : Int) l.length (o.set i (i : Int)) [(i : Int)]).length = l.length ∧ ∀ j : Nat, j < i + 1 → 0 ≤ rd (if rd o (i : Int) ≥ 0 then o else bfs nb l (i : Int) l.length (o.set i (i : Int)) [(i : Int)]) (j : Int) := by
  by_cases h : rd o (i : Int) ≥ 0
  · rw [if_pos h]
    refine ⟨hl, fun j hj => ?_⟩
    by_cases e : j = i
    · exact e ▸ h
    · exact hd j (by omega)
  · rw [if_neg h]
    obtain ⟨h1, h2⟩ := step_fine hl hi h
    obtain ⟨h3, h4⟩ := bfs_fine (nb := nb) (i := (i : Int)) (by omega) l.length _ _ h1
    refine ⟨h3, fun j hj => h4 _ ?_⟩
    rw [rd_set _ _ _ _ (by omega), Int.toNat_natCast]
    split
    · omega
    · exact hd j (by omega)
theorem partsF_fine {nb : Cell → List Cell} {l : List Cell} : ∀ (r pre : List Cell) (o : List Int), l = pre ++ r → o.length = l.length → (∀ j : Nat, j < pre.length → 0 ≤ rd o (j : Int)) → (partsF nb l (pre.length : Int) r o).length = l.length ∧ ∀ j : Nat, j < l.length → 0 ≤ rd (partsF nb l (pre.length : Int) r o) (j : Int)
  | [], pre, o, h, hl, hd => by
    rw [List.append_nil] at h
    subst h
    exact ⟨hl, hd⟩
  | c :: r, pre, o, h, hl, hd => by
    obtain ⟨h1, h2⟩ := step_next (nb := nb) (l := l) (o := o) (i := pre.length) hl (by rw [h]; simp) hd
    have := partsF_fine (nb := nb) r (pre ++ [c]) _ (by rw [h]; simp) h1 (by simpa using h2)
    rw [List.length_append] at this
    exact this
theorem partsR_len (nb : Cell → List Cell) (l : List Cell) : (partsR nb l).length = l.length := (partsF_fine l [] _ rfl (by simp) (fun j hj => by simp at hj)).1
theorem partsR_pos (nb : Cell → List Cell) (l : List Cell) : ∀ x ∈ partsR nb l, 0 ≤ x := by
  intro x hx
  obtain ⟨j, hj, e⟩ := List.getElem_of_mem hx
  have h := (partsF_fine (nb := nb) (l := l) l [] (List.replicate l.length (-1)) rfl (by simp) (fun j hj => by simp at hj)).2 j (by have := partsR_len nb l; omega)
  have h' : 0 ≤ rd (partsR nb l) (j : Int) := h
  unfold rd at h'
  rw [List.getD_eq_getElem?_getD, Int.toNat_natCast, List.getElem?_eq_getElem hj] at h'
  exact e ▸ h'
theorem wf64 {n : Int} (h : -9223372036854775808 ≤ n) (h' : n ≤ 9223372036854775807) : (Lit.int .i64 n).wf = true := by
  simp only [Lit.wf, IntKind.min, IntKind.max, IntKind.signed, IntKind.bits, Bool.and_eq_true, decide_eq_true_eq, if_true]; omega
theorem wf_wrap (n : Int) : (Lit.int .i64 (wrap64 n)).wf = true := wf64 (by unfold wrap64; omega) (by unfold wrap64; omega)
theorem wfC_ok {c : Cell} (h : okC c) : wfC c = true := by
  unfold wfC
  unfold okC ok1 at h
  rw [wf64 (by omega) (by omega), wf64 (by omega) (by omega)]
  rfl
theorem lastIdx_eq (c : Cell) : ∀ (l : List Cell) (i : Nat), l.Nodup → lastIdx l c i = if idxF l c (i : Int) ≥ 0 then some (idxF l c (i : Int)).toNat else none
  | [], i, _ => by simp [lastIdx, idxF]
  | a :: r, i, h => by
    obtain ⟨h1, h2⟩ := List.nodup_cons.1 h
    have ih := lastIdx_eq c r (i + 1) h2
    have e : ((i + 1 : Nat) : Int) = (i : Int) + 1 := by omega
    rw [e] at ih
    unfold lastIdx idxF
    rw [ih]
    by_cases hs : sameC a c = true
    · have hac := sameC_iff.1 hs
      rw [if_pos hs]
      have hn : ¬ idxF r c ((i : Int) + 1) ≥ 0 := by
        rcases idxF_spec r c ((i : Int) + 1) (by omega) with ⟨h3, _⟩ | ⟨j, _, _, h3, _⟩
        · omega
        · exact absurd (List.mem_of_getElem? h3) (hac ▸ h1)
      rw [if_neg hn]
      have : a.f0 = c.f0 ∧ a.f1 = c.f1 := by rw [hac]; exact ⟨rfl, rfl⟩
      simp only [this, and_self, if_true]
      simp
    · rw [if_neg hs]
      have hne : ¬ (a.f0 = c.f0 ∧ a.f1 = c.f1) := by
        intro h3
        apply hs
        simp [sameC, h3.1, h3.2]
      by_cases hg : idxF r c ((i : Int) + 1) ≥ 0
      · rw [if_pos hg]
      · rw [if_neg hg]
        simp only [hne, if_false]
theorem look_eq (l : List Cell) (d : Cell) (hn : l.Nodup) (hw : wfC d = true) : impl_partsLook.f l d.f0 d.f1 = some (if idxC l d ≥ 0 then (idxC l d, true) else (0, false)) := by
  unfold impl_partsLook.f
  have hw' : wfC ⟨d.f0, d.f1⟩ = true := hw
  rw [if_pos hw']
  have := lastIdx_eq d l 0 hn
  have e : lastIdx l ⟨d.f0, d.f1⟩ 0 = if idxC l d ≥ 0 then some (idxC l d).toNat else none := this
  rw [e]
  by_cases h : idxC l d ≥ 0
  · rw [if_pos h, if_pos h]
    simp only [Int.toNat_of_nonneg h]
  · rw [if_neg h, if_neg h]
def oneB (l : List Int) : Bool := l.all fun x => decide (x = 0)
theorem visit1_stable {l : List Cell} {i : Int} {s : List Int × List Int} (h : Fine l s.1 s.2) (d : Cell) (j : Int) (hj : 0 ≤ j) : (0 ≤ rd s.1 j → rd (visit1 l i s d).1 j = rd s.1 j) ∧ (rd (visit1 l i s d).1 j = rd s.1 j ∨ rd (visit1 l i s d).1 j = i) := by
  unfold visit1
  by_cases hc : idxC l d ≥ 0 ∧ rd s.1 (idxC l d) < 0
  · rw [if_pos hc]
    have hlt := idxC_lt l d
    have hln := h.len
    simp only
    rw [rd_set _ _ _ _ (by omega)]
    by_cases e : j.toNat = (idxC l d).toNat
    · rw [if_pos e]
      have : j = idxC l d := by omega
      subst this
      exact ⟨fun h => by omega, .inr rfl⟩
    · rw [if_neg e]
      exact ⟨fun _ => rfl, .inl rfl⟩
  · rw [if_neg hc]
    exact ⟨fun _ => rfl, .inl rfl⟩
theorem visit_stable {l : List Cell} {i : Int} (hi : 0 ≤ i) (j : Int) (hj : 0 ≤ j) : ∀ (ds : List Cell) {s : List Int × List Int}, Fine l s.1 s.2 → (0 ≤ rd s.1 j → rd (visit l i ds s).1 j = rd s.1 j) ∧ (rd (visit l i ds s).1 j = rd s.1 j ∨ rd (visit l i ds s).1 j = i)
  | [], s, h => ⟨fun _ => rfl, .inl rfl⟩
  | d :: r, s, h => by
    obtain ⟨h1, h2⟩ := visit1_stable (i := i) h d j hj
    obtain ⟨h3, h4⟩ := visit_stable hi j hj r (visit1_fine hi h d).1
    refine ⟨fun h5 => (h3 (by rw [h1 h5]; exact h5)).trans (h1 h5), ?_⟩
    show rd (visit l i r (visit1 l i s d)).1 j = _ ∨ _
    rcases h4 with h4 | h4
    · rcases h2 with h2 | h2
      · exact .inl (h4.trans h2)
      · exact .inr (h4.trans h2)
    · exact .inr h4
theorem bfs_stable {nb : Cell → List Cell} {l : List Cell} {i : Int} (hi : 0 ≤ i) (j : Int) (hj : 0 ≤ j) : ∀ (n : Nat) (o q : List Int), Fine l o q → (0 ≤ rd o j → rd (bfs nb l i n o q) j = rd o j) ∧ (rd (bfs nb l i n o q) j = rd o j ∨ rd (bfs nb l i n o q) j = i)
  | 0, o, q, h => ⟨fun _ => rfl, .inl rfl⟩
  | n + 1, o, [], h => ⟨fun _ => rfl, .inl rfl⟩
  | n + 1, o, c :: q, h => by
    have h' : Fine l o q := ⟨h.len, fun j hj => h.rng j (List.mem_cons_of_mem _ hj)⟩
    obtain ⟨h1, h2⟩ := visit_stable hi j hj (nb (rd_T59 l c)) (s := (o, q)) h'
    obtain ⟨h3, h4⟩ := bfs_stable (nb := nb) hi j hj n _ _ (visit_fine hi (nb (rd_T59 l c)) (s := (o, q)) h').1
    refine ⟨fun h5 => (h3 (by rw [h1 h5]; exact h5)).trans (h1 h5), ?_⟩
    unfold bfs
    rcases h4 with h4 | h4
    · rcases h2 with h2 | h2
      · exact .inl (h4.trans h2)
      · exact .inr (h4.trans h2)
    · exact .inr h4
theorem partsF_stable {nb : Cell → List Cell} {l : List Cell} (j : Int) (hj : 0 ≤ j) : ∀ (r pre : List Cell) (o : List Int), l = pre ++ r → o.length = l.length → 0 ≤ rd o j → rd (partsF nb l (pre.length : Int) r o) j = rd o j
  | [], pre, o, h, hl, hd => rfl
  | c :: r, pre, o, h, hl, hd => by
    have hp : pre.length < l.length := by rw [h]; simp
    have e : rd (if rd o (pre.length : Int) ≥ 0 then o else bfs nb l (pre.length : Int) l.length (o.set pre.length (pre.length : Int)) [(pre.length : Int)]) j = rd o j ∧ (if rd o (pre.length : Int) ≥ 0 then o else bfs nb l (pre.length : Int) l.length (o.set pre.length (pre.length : Int)) [(pre.length : Int)]).length = l.length := by
      by_cases hg : rd o (pre.length : Int) ≥ 0
      · rw [if_pos hg]; exact ⟨rfl, hl⟩
      · rw [if_neg hg]
        obtain ⟨h1, _⟩ := step_fine hl hp hg
        have e1 : rd (o.set pre.length (pre.length : Int)) j = rd o j := by
          rw [rd_set _ _ _ _ (by omega), if_neg]
          intro e
          have : j = (pre.length : Int) := by omega
          exact hg (this ▸ hd)
        refine ⟨?_, (bfs_fine (by omega) l.length _ _ h1).1⟩
        rw [(bfs_stable (nb := nb) (i := (pre.length : Int)) (by omega) j hj l.length _ _ h1).1 (by rw [e1]; exact hd), e1]
    have := partsF_stable (nb := nb) j hj r (pre ++ [c]) _ (by rw [h]; simp) e.2 (by rw [e.1]; exact hd)
    rw [List.length_append] at this
    exact this.trans e.1
def first (nb : Cell → List Cell) (l : List Cell) : List Int := bfs nb l 0 l.length ((List.replicate l.length (-1 : Int)).set 0 0) [0]
theorem oneB_rd {o : List Int} : oneB o = true ↔ ∀ j : Nat, j < o.length → rd o (j : Int) = 0 := by
  unfold oneB
  rw [List.all_eq_true]
  constructor
  · intro h j hj
    unfold rd
    rw [List.getD_eq_getElem?_getD, Int.toNat_natCast, List.getElem?_eq_getElem hj]
    simpa using h _ (List.getElem_mem hj)
  · intro h x hx
    obtain ⟨j, hj, e⟩ := List.getElem_of_mem hx
    have := h j hj
    unfold rd at this
    rw [List.getD_eq_getElem?_getD, Int.toNat_natCast, List.getElem?_eq_getElem hj] at this
    have h' : x = 0 := e ▸ this
    simpa using h'
theorem rd_rep {n j : Nat} (h : j < n) : rd (List.replicate n (-1 : Int)) (j : Int) = -1 := by
  unfold rd
  rw [List.getD_eq_getElem?_getD, Int.toNat_natCast, List.getElem?_eq_getElem (by simpa using h)]
  simp
theorem first_fine (l : List Cell) (h0 : l ≠ []) : Fine l ((List.replicate l.length (-1 : Int)).set 0 0) [0] ∧ negs ((List.replicate l.length (-1 : Int)).set 0 0) + 1 = l.length := by
  have hp := List.length_pos_iff.2 h0
  refine ⟨⟨by simp, fun j hj => by simp at hj; omega⟩, ?_⟩
  have h1 := negs_set (List.replicate l.length (-1 : Int)) 0 0 (by omega) (by simp; omega) (by have := rd_rep (n := l.length) (j := 0) hp; rw [Int.natCast_zero] at this; omega) (by omega)
  have h2 : negs (List.replicate l.length (-1 : Int)) = l.length := by
    unfold negs
    rw [List.countP_replicate]
    simp
  rw [h2] at h1
  exact h1
end Go.Proofs.Ytabdmdkoffpppaa.L
end
section
namespace Go.Proofs.Ytabdmdkoffpppaa.L
open Go.RowKit Go.Proofs.YtabdmdkoffpppaaW.PrintWords Go.Proofs.YtabdmdkoffpppaaW.PrintLast Go.Proofs.YtabdmdkoffpppaaW.PrintMore Go.Proofs.Ytabdmdkoffpppaa.F
set_option linter.unusedVariables false
def aroundC (c : Cell) : List Cell := [⟨c.f0, wrap64 (c.f1 - 1)⟩, ⟨wrap64 (c.f0 - 1), c.f1⟩, ⟨wrap64 (c.f0 + 1), c.f1⟩, ⟨c.f0, wrap64 (c.f1 + 1)⟩]
theorem specAround_eq (c : Cell) : spec_l02Around.f c.f0 c.f1 = some (aroundC c) := rfl
theorem implAround_eq (c : Cell) : impl_around.f c.f0 c.f1 = some (aroundC c) := rfl
end Go.Proofs.Ytabdmdkoffpppaa.L
end
section
namespace Go.Proofs.Ytabdmdkoffpppaa.L
open Go.RowKit Go.Proofs.YtabdmdkoffpppaaW.PrintWords Go.Proofs.Ytabdmdkoffpppaa.F
set_option linter.unusedVariables false
theorem aroundC_len (c : Cell) : (aroundC c).length ≤ 16 := by simp [aroundC]
theorem aroundC_wf {c : Cell} (h : wfC c = true) : ∀ d ∈ aroundC c, wfC d = true := by
  unfold wfC at h
  rw [Bool.and_eq_true] at h
  intro d hd
  simp only [aroundC, List.mem_cons, List.not_mem_nil, or_false] at hd
  rcases hd with rfl | rfl | rfl | rfl <;> simp [wfC, h.1, h.2, wf_wrap]
end Go.Proofs.Ytabdmdkoffpppaa.L
end
section
namespace Go.Proofs.Ytabdmdkoffpppaa.L
open Go.RowKit Go.Proofs.YtabdmdkoffpppaaW.PrintWords Go.Proofs.YtabdmdkoffpppaaW.PrintLast Go.Proofs.YtabdmdkoffpppaaW.PrintMore Go.Proofs.Ytabdmdkoffpppaa.F
set_option linter.unusedVariables false
set_option linter.unusedSimpArgs false
theorem max_ev (l : List Int) (hs : small l) (h0 : 0 < l.length) (hp : ∀ x ∈ l, 0 ≤ x) : Ev (fun k => slices_Max_int64_int64.f k l) (l.foldl mx 0) := by
  unfold slices_Max_int64_int64.f
  obtain ⟨c, r, rfl⟩ : ∃ c r, l = c :: r := by cases l with | nil => simp at h0 | cons c r => exact ⟨c, r, rfl⟩
  refine Ev.neg (by omega) (Ev.pos (by omega) ?_)
  have h1 : rd (c :: r) 0 = c := rfl
  rw [h1]
  have := loop_tail c r (fun k i (s : Int) => slices_Max_int64_int64.l0 k (c :: r) s i) (fun _ suf s => suf.foldl mx s) (fun _ _ => True) ?_ ?_ c trivial
  · refine Ev.of_eq this ?_
    have hc := hp c List.mem_cons_self
    have : mx 0 c = c := by unfold mx; split <;> omega
    simp [this]
  · rintro s _
    simp only [slices_Max_int64_int64.l0, len_lt, if_false]
    exact Ev.now _
  · rintro pre d suf s hx _ _ ih
    simp only [slices_Max_int64_int64.l0, pre_lt hx, pre_0, if_true, at_preI hx, pre_w hx hs]
    exact ih (mx s d) trivial
theorem foldl_mx : ∀ (l : List Int) (a : Int), 0 ≤ a → (∀ x ∈ l, 0 ≤ x) → 0 ≤ l.foldl mx a ∧ (l.foldl mx a = 0 ↔ a = 0 ∧ oneB l = true)
  | [], a, ha, _ => ⟨ha, by simp [oneB]⟩
  | c :: r, a, ha, h => by
    have hc := h c List.mem_cons_self
    have h1 : 0 ≤ mx a c := by unfold mx; split <;> omega
    obtain ⟨h2, h3⟩ := foldl_mx r (mx a c) h1 (fun x hx => h x (List.mem_cons_of_mem _ hx))
    refine ⟨h2, h3.trans ?_⟩
    have h4 : mx a c = 0 ↔ a = 0 ∧ c = 0 := by unfold mx; split <;> omega
    rw [h4]
    simp [oneB, and_assoc]
theorem pa_l3 (l : List Cell) (hl : l.length ≤ 1048576) (hn : l.Nodup) (i : Int) (hi : 0 ≤ i) (xs : List Cell) (hx4 : xs.length ≤ 16) (hwx : ∀ d ∈ xs, wfC d = true) (o p q : List Int) (hf : Fine l o q) (hb : negs o + (p ++ q).length ≤ l.length) (at_ len_ n_ : Int) {r : List Int}
    (hc : Ev (fun k => impl_parts__impl_around.l2 k l (visit l i xs (o, q)).1 i (p ++ (visit l i xs (o, q)).2) (wrap64 (at_ + 1)) len_ n_) r) :
    Ev (fun k => impl_parts__impl_around.l3 k l o i (p ++ q) at_ len_ n_ xs (xs.length : Int) 0) r := by
  have hsm : small xs := by unfold small; omega
  refine loop_list xs (fun k j (s : List Int × List Int) => impl_parts__impl_around.l3 k l s.1 i (p ++ s.2) at_ len_ n_ xs (xs.length : Int) j) (fun _ _ _ => r) (fun pre s => s = visit l i pre (o, q)) ?_ ?_ (o, q) rfl
  · rintro s rfl
    simp only [impl_parts__impl_around.l3, len_lt, if_false]
    exact hc
  · rintro pre d suf s hx rfl ih
    obtain ⟨h1, h2, h3, _⟩ := visit_fine hi pre (s := (o, q)) hf
    simp only at h2 h3
    have hln := h1.len
    have hd : wfC d = true := hwx d (by rw [hx]; simp)
    simp only [impl_parts__impl_around.l3, pre_lt hx, pre_0, if_true, at_pre hx, pre_w hx hsm, look_eq l d hn hd, Option.bind_some]
    have hlt := idxC_lt l d
    have hq : (p ++ (visit l i pre (o, q)).2).length ≤ l.length := by
      rw [List.length_append] at hb ⊢
      omega
    by_cases hg : idxC l d ≥ 0
    · simp only [hg, if_true]
      refine Ev.pos (by omega) ?_
      by_cases hr : rd (visit l i pre (o, q)).1 (idxC l d) < 0
      · refine Ev.pos hr (Ev.pos (by omega) ?_)
        have e : visit1 l i (visit l i pre (o, q)) d = ((visit l i pre (o, q)).1.set (idxC l d).toNat i, (visit l i pre (o, q)).2 ++ [idxC l d]) := by
          unfold visit1; rw [if_pos ⟨hg, hr⟩]
        have h := ih ((visit l i pre (o, q)).1.set (idxC l d).toNat i, (visit l i pre (o, q)).2 ++ [idxC l d]) (by rw [visit_snoc, e])
        rw [List.append_assoc]
        exact h
      · refine Ev.neg hr (ih _ ?_)
        rw [visit_snoc]
        unfold visit1
        rw [if_neg fun h => hr h.2]
    · simp only [hg, if_false, Bool.false_eq_true]
      refine ih _ ?_
      rw [visit_snoc]
      unfold visit1
      rw [if_neg fun h => hg h.1]
theorem pa_l2 (l : List Cell) (hl : l.length ≤ 1048576) (hn : l.Nodup) (hw : l.all wfC = true) (i : Int) (hi : 0 ≤ i) (len_ n_ : Int) {r : List Int} : ∀ (n : Nat) (o p q : List Int), Fine l o q → negs o + (p ++ q).length ≤ l.length → negs o + q.length ≤ n →
    Ev (fun k => impl_parts__impl_around.l1 k l (bfs aroundC l i n o q) len_ (wrap64 (n_ + 1))) r → Ev (fun k => impl_parts__impl_around.l2 k l o i (p ++ q) (p.length : Int) len_ n_) r := by
  intro n
  induction n with
  | zero =>
    intro o p q hf hb hm hc
    obtain rfl : q = [] := List.length_eq_zero_iff.1 (by omega)
    refine Ev.succ ?_
    simp only [impl_parts__impl_around.l2, List.append_nil, len_lt, if_false]
    exact hc
  | succ n ih =>
    intro o p q hf hb hm hc
    refine Ev.succ ?_
    cases q with
    | nil =>
      simp only [impl_parts__impl_around.l2, List.append_nil, len_lt, if_false]
      exact hc
    | cons c q =>
      have hr := hf.rng c List.mem_cons_self
      have hlen : (p ++ c :: q).length = p.length + (q.length + 1) := by simp
      have e1 : rd (p ++ c :: q) (p.length : Int) = c := by unfold rd; exact getD_at p q c _
      simp only [impl_parts__impl_around.l2, e1]
      refine Ev.pos (by rw [hlen]; omega) (Ev.pos (by omega) (Ev.pos hr.1 (Ev.pos hr.2 ?_)))
      simp only [implAround_eq, Option.bind_some]
      have hf' : Fine l o q := ⟨hf.len, fun j hj => hf.rng j (List.mem_cons_of_mem _ hj)⟩
      have hwc : wfC (rd_T59 l c) = true := by
        refine List.all_eq_true.1 hw _ ?_
        unfold rd_T59
        rw [List.getD_eq_getElem?_getD, List.getElem?_eq_getElem (show c.toNat < l.length by omega)]
        exact List.getElem_mem _
      obtain ⟨h1, h2, h3, _⟩ := visit_fine hi (aroundC (rd_T59 l c)) (s := (o, q)) hf'
      have ea : p ++ c :: q = (p ++ [c]) ++ q := by simp
      have ew : wrap64 ((p.length : Int) + 1) = ((p ++ [c]).length : Int) := by
        rw [w64 (by omega) (by omega)]; simp
      rw [ea] at hb ⊢
      refine pa_l3 l hl hn i hi (aroundC (rd_T59 l c)) (aroundC_len _) (aroundC_wf hwc) o (p ++ [c]) q hf' hb _ _ _ ?_
      rw [ew]
      refine ih _ _ _ h1 ?_ ?_ hc
      · simp only [List.length_append, List.length_singleton] at hb ⊢
        simp only at h2 h3
        omega
      · simp only [List.length_cons] at hm
        simp only at h2
        omega
theorem pa_ev (l : List Cell) (hl : l.length ≤ 1048576) (hn : l.Nodup) (hw : l.all wfC = true) : Ev (fun k => impl_parts__impl_around.f k l) (partsR aroundC l) := by
  have hs : small l := by unfold small; omega
  unfold impl_parts__impl_around.f
  refine Ev.pos hw (Ev.pos (by omega) (Ev.pos (by omega) ?_))
  have hz := loop_list l (fun k i (s : List Int) => impl_parts__impl_around.l0 k l s l (l.length : Int) i) (fun _ _ _ => partsR aroundC l) (fun pre s => s = List.replicate pre.length (-1) ++ List.replicate (l.length - pre.length) 0) ?_ ?_ (List.replicate (l.length : Int).toNat 0) (by simp)
  · exact hz
  · rintro s rfl
    simp only [impl_parts__impl_around.l0, len_lt, if_false, Nat.sub_self, List.replicate_zero, List.append_nil]
    have := loop_list l (fun k i (s : List Int) => impl_parts__impl_around.l1 k l s (l.length : Int) i) (fun pre suf s => partsF aroundC l (pre.length : Int) suf s) (fun pre s => s.length = l.length ∧ ∀ j : Nat, j < pre.length → 0 ≤ rd s (j : Int)) ?_ ?_ (List.replicate l.length (-1)) ⟨by simp, fun j hj => by simp at hj⟩
    · exact this
    · rintro s _
      simp only [impl_parts__impl_around.l1, len_lt, if_false]
      exact Ev.now _
    · rintro pre c suf s hx ⟨h1, h2⟩ ih
      have hp := pre_len hx
      obtain ⟨h3, h4⟩ := step_next (nb := aroundC) (l := l) (o := s) (i := pre.length) h1 hp h2
      have hlt : ((pre.length : Int) < (s.length : Int)) = True := by rw [h1]; exact pre_lt hx
      simp only [impl_parts__impl_around.l1, pre_lt hx, pre_0, if_true, hlt, pre_w hx hs, Int.toNat_natCast]
      have hih := ih _ ⟨h3, by simpa using h4⟩
      unfold partsF
      rw [Int.toNat_natCast]
      have ee : ((pre ++ [c]).length : Int) = (pre.length : Int) + 1 := by simp
      rw [ee] at hih
      by_cases hg : rd s (pre.length : Int) ≥ 0
      · rw [if_pos hg] at hih ⊢
        exact Ev.pos hg hih
      · rw [if_neg hg] at hih ⊢
        refine Ev.neg hg ?_
        obtain ⟨h5, h6⟩ := step_fine h1 hp hg
        have e0 : ([(pre.length : Int)] : List Int) = [] ++ [(pre.length : Int)] := rfl
        have := pa_l2 l hl hn hw (pre.length : Int) (by omega) (l.length : Int) (pre.length : Int) (r := partsF aroundC l ((pre.length : Int) + 1) suf (bfs aroundC l (pre.length : Int) l.length (s.set pre.length (pre.length : Int)) [(pre.length : Int)])) l.length (s.set pre.length (pre.length : Int)) [] [(pre.length : Int)] h5 (by simpa using h6) (by simpa using h6) (by
          rw [pre_w hx hs]; exact hih)
        exact this
  · rintro pre c suf s hx rfl ih
    have hp := pre_len hx
    have hlt : ((pre.length : Int) < ((List.replicate pre.length (-1 : Int) ++ List.replicate (l.length - pre.length) 0).length : Int)) = True := by simp; omega
    simp only [impl_parts__impl_around.l0, pre_lt hx, pre_0, if_true, hlt, pre_w hx hs, Int.toNat_natCast]
    refine ih _ ?_
    have e : l.length - pre.length = (l.length - (pre.length + 1)) + 1 := by omega
    simp only [List.length_append, List.length_singleton]
    rw [e, List.replicate_succ, List.set_append_right _ _ (by simp)]
    simp [List.replicate_succ', List.append_assoc]
theorem pa_conn (l : List Cell) (hl : l.length ≤ 1048576) (h0 : l ≠ []) (hn : l.Nodup) (hw : l.all wfC = true) : Ev (fun k => impl_connected__impl_around.f k l) (oneB (partsR aroundC l)) := by
  unfold impl_connected__impl_around.f
  have hln := partsR_len aroundC l
  have hp := partsR_pos aroundC l
  have hpos : 0 < (partsR aroundC l).length := by rw [hln]; exact List.length_pos_iff.2 h0
  refine Ev.bind (pa_ev l hl hn hw) (Ev.bind (max_ev _ (by unfold small; omega) hpos hp) (Ev.of_eq (Ev.now _) ?_))
  have h := (foldl_mx (partsR aroundC l) 0 (Int.le_refl _) hp).2
  rw [Bool.eq_iff_iff, beq_iff_eq, h]
  simp
theorem ps_l3 (l : List Cell) (hl : l.length ≤ 1048576) (i : Int) (hi : 0 ≤ i) (xs : List Cell) (hx4 : xs.length = 4) (o q : List Int) (hf : Fine l o q) (hb : negs o + q.length ≤ l.length) {r : List Int}
    (hc : Ev (fun k => spec_l02Parts.l2 k l (visit l i xs (o, q)).1 i (visit l i xs (o, q)).2) r) :
    Ev (fun k => spec_l02Parts.l3 k l o i q xs 0) r := by
  have hsm : small xs := by unfold small; omega
  have hs : small l := by unfold small; omega
  refine loop_list xs (fun k j (s : List Int × List Int) => spec_l02Parts.l3 k l s.1 i s.2 xs j) (fun _ _ _ => r) (fun pre s => s = visit l i pre (o, q)) ?_ ?_ (o, q) rfl
  · rintro s rfl
    have e0 : ¬ ((xs.length : Int) < 4) := by omega
    simp only [spec_l02Parts.l3, e0, if_false]
    exact hc
  · rintro pre d suf s hx rfl ih
    obtain ⟨h1, h2, h3, _⟩ := visit_fine hi pre (s := (o, q)) hf
    simp only at h2 h3
    have hln := h1.len
    have hp4 : ((pre.length : Int) < 4) = True := by have := pre_len hx; simp; omega
    simp only [spec_l02Parts.l3, hp4, pre_lt hx, pre_0, if_true, at_pre hx, pre_w hx hsm]
    refine Ev.bind (specIndex_ev l d hs) ?_
    have hlt := idxC_lt l d
    have hq : (visit l i pre (o, q)).2.length ≤ l.length := by omega
    by_cases hg : idxC l d ≥ 0
    · refine Ev.pos hg (Ev.pos hg (Ev.pos (by omega) ?_))
      by_cases hr : rd (visit l i pre (o, q)).1 (idxC l d) < 0
      · refine Ev.pos hr (Ev.pos (by omega) ?_)
        have e : visit1 l i (visit l i pre (o, q)) d = ((visit l i pre (o, q)).1.set (idxC l d).toNat i, (visit l i pre (o, q)).2 ++ [idxC l d]) := by
          unfold visit1; rw [if_pos ⟨hg, hr⟩]
        exact ih ((visit l i pre (o, q)).1.set (idxC l d).toNat i, (visit l i pre (o, q)).2 ++ [idxC l d]) (by rw [visit_snoc, e])
      · refine Ev.neg hr (ih _ ?_)
        rw [visit_snoc]
        unfold visit1
        rw [if_neg fun h => hr h.2]
    · refine Ev.neg hg (ih _ ?_)
      rw [visit_snoc]
      unfold visit1
      rw [if_neg fun h => hg h.1]
theorem ps_l2 (l : List Cell) (hl : l.length ≤ 1048576) (i : Int) (hi : 0 ≤ i) {r : List Int} : ∀ (n : Nat) (o q : List Int), Fine l o q → negs o + q.length ≤ l.length → negs o + q.length ≤ n →
    Ev (fun k => spec_l02Parts.l1 k l (bfs aroundC l i n o q) (wrap64 (i + 1))) r → Ev (fun k => spec_l02Parts.l2 k l o i q) r := by
  intro n
  induction n with
  | zero =>
    intro o q hf hb hm hc
    obtain rfl : q = [] := List.length_eq_zero_iff.1 (by omega)
    refine Ev.succ ?_
    simp only [spec_l02Parts.l2]
    exact Ev.neg (by simp) hc
  | succ n ih =>
    intro o q hf hb hm hc
    refine Ev.succ ?_
    cases q with
    | nil =>
      simp only [spec_l02Parts.l2]
      exact Ev.neg (by simp) hc
    | cons c q =>
      have hr := hf.rng c List.mem_cons_self
      have e1 : rd (c :: q) 0 = c := rfl
      have hlen : (c :: q).length = q.length + 1 := rfl
      simp only [spec_l02Parts.l2, e1]
      refine Ev.pos (by omega) (Ev.pos (by omega) (Ev.pos hr.1 (Ev.pos hr.2 ?_)))
      simp only [specAround_eq, Option.bind_some]
      refine Ev.pos (by omega) ?_
      have hf' : Fine l o q := ⟨hf.len, fun j hj => hf.rng j (List.mem_cons_of_mem _ hj)⟩
      obtain ⟨h1, h2, h3, _⟩ := visit_fine hi (aroundC (rd_T59 l c)) (s := (o, q)) hf'
      simp only at h2 h3
      have ed : (c :: q).drop (1 : Int).toNat = q := rfl
      rw [ed]
      refine ps_l3 l hl i hi _ rfl o q hf' (by omega) ?_
      exact ih _ _ h1 (by omega) (by omega) hc
theorem ps_ev (l : List Cell) (hl : l.length ≤ 1048576) : Ev (fun k => spec_l02Parts.f k l) (partsR aroundC l) := by
  have hs : small l := by unfold small; omega
  unfold spec_l02Parts.f
  have hz := loop_list l (fun k i (s : List Int) => spec_l02Parts.l0 k l s i) (fun _ _ _ => partsR aroundC l) (fun pre s => s = List.replicate pre.length (-1)) ?_ ?_ [] rfl
  · exact hz
  · rintro s rfl
    simp only [spec_l02Parts.l0, len_lt, if_false]
    have := loop_list l (fun k i (s : List Int) => spec_l02Parts.l1 k l s i) (fun pre suf s => partsF aroundC l (pre.length : Int) suf s) (fun pre s => s.length = l.length ∧ ∀ j : Nat, j < pre.length → 0 ≤ rd s (j : Int)) ?_ ?_ (List.replicate l.length (-1)) ⟨by simp, fun j hj => by simp at hj⟩
    · exact this
    · rintro s _
      simp only [spec_l02Parts.l1, len_lt, if_false]
      exact Ev.now _
    · rintro pre c suf s hx ⟨h1, h2⟩ ih
      have hp := pre_len hx
      obtain ⟨h3, h4⟩ := step_next (nb := aroundC) (l := l) (o := s) (i := pre.length) h1 hp h2
      have hlt : ((pre.length : Int) < (s.length : Int)) = True := by rw [h1]; exact pre_lt hx
      simp only [spec_l02Parts.l1, pre_lt hx, pre_0, if_true, hlt, pre_w hx hs, Int.toNat_natCast]
      have hih := ih _ ⟨h3, by simpa using h4⟩
      unfold partsF
      rw [Int.toNat_natCast]
      have ee : ((pre ++ [c]).length : Int) = (pre.length : Int) + 1 := by simp
      rw [ee] at hih
      by_cases hg : rd s (pre.length : Int) ≥ 0
      · rw [if_pos hg] at hih ⊢
        exact Ev.pos hg hih
      · rw [if_neg hg] at hih ⊢
        refine Ev.neg hg ?_
        obtain ⟨h5, h6⟩ := step_fine h1 hp hg
        exact ps_l2 l hl (pre.length : Int) (by omega) l.length _ _ h5 (by simpa using h6) (by simpa using h6) (by rw [pre_w hx hs]; exact hih)
  · rintro pre c suf s hx rfl ih
    have hp := pre_len hx
    simp only [spec_l02Parts.l0, pre_lt hx, if_true, pre_w hx hs]
    exact Ev.pos (by rw [List.length_replicate]; omega) (ih _ (by simp [List.replicate_succ']))
def moveL (l : List Cell) (x y : Int) : List Cell := l.map fun c => ⟨wrap64 (c.f0 + x), wrap64 (c.f1 + y)⟩
theorem moveL_len (l : List Cell) (x y : Int) : (moveL l x y).length = l.length := by simp [moveL]
theorem specMove_ev (l : List Cell) (x y : Int) (hl : l.length ≤ 1048576) : Ev (fun k => spec_l02Move.f k l x y) (moveL l x y) := by
  have hs : small l := by unfold small; omega
  unfold spec_l02Move.f
  have := loop_list l (fun k i (s : List Cell) => spec_l02Move.l0 k l x y s i) (fun pre suf s => s ++ moveL suf x y) (fun pre s => s.length = pre.length) ?_ ?_ [] rfl
  · simpa using this
  · intro s _
    simp only [spec_l02Move.l0, len_lt, if_false]
    exact Ev.of_eq (Ev.now _) (by simp [moveL])
  · intro pre c suf s hx hi ih
    have hp := pre_len hx
    simp only [spec_l02Move.l0, pre_lt hx, pre_0, if_true, at_pre hx, pre_w hx hs]
    refine Ev.pos (by omega) (Ev.of_eq (ih _ (by simp [hi])) ?_)
    simp [moveL]
theorem implMoved_ev (l : List Cell) (x y : Int) (hl : l.length ≤ 1048576) : Ev (fun k => impl_moved.f k l x y) (moveL l x y) := by
  have hs : small l := by unfold small; omega
  unfold impl_moved.f
  refine Ev.pos (by omega) (Ev.pos (by omega) ?_)
  have := loop_list l (fun k i (s : List Cell) => impl_moved.l0 k x y s l (l.length : Int) i) (fun pre suf s => s ++ moveL suf x y) (fun pre s => s.length = pre.length) ?_ ?_ [] rfl
  · simpa using this
  · intro s _
    simp only [impl_moved.l0, len_lt, if_false]
    exact Ev.of_eq (Ev.now _) (by simp [moveL])
  · intro pre c suf s hx hi ih
    have hp := pre_len hx
    simp only [impl_moved.l0, pre_lt hx, pre_0, if_true, at_pre hx, pre_w hx hs]
    refine Ev.pos (by omega) (Ev.of_eq (ih _ (by simp [hi])) ?_)
    simp [moveL]
def normalL (l : List Cell) : List Cell := moveL l (wrap64 (-(leastOf l).1)) (wrap64 (-(leastOf l).2))
theorem normalL_len (l : List Cell) : (normalL l).length = l.length := moveL_len _ _ _
theorem specNormal_ev (l : List Cell) (hl : l.length ≤ 1048576) (h0 : 0 < l.length) : Ev (fun k => spec_l02Normal.f k l) (normalL l) := by
  unfold spec_l02Normal.f
  refine Ev.bind (specLeast_ev l (by unfold small; omega) h0) (Ev.bind (specMove_ev l _ _ hl) (Ev.now _))
theorem implNormal_ev (l : List Cell) (hl : l.length ≤ 1048576) (h0 : 0 < l.length) : Ev (fun k => impl_normal.f k l) (normalL l) := by
  unfold impl_normal.f
  refine Ev.bind (implCorner_ev l (by unfold small; omega) h0) (Ev.bind (implMoved_ev l _ _ hl) (Ev.now _))
def hasI (s : List Int) (i : Int) : Bool := decide (i ∈ s)
theorem specHas_ev (s : List Int) (i : Int) (hs : small s) : Ev (fun k => spec_l01Has.f k s i) (hasI s i) := by
  unfold spec_l01Has.f
  refine loop_list s (fun k j (_ : Unit) => spec_l01Has.l0 k s i j) (fun pre suf _ => hasI suf i) (fun _ _ => True) ?_ ?_ () trivial
  · intro _ _
    simp only [spec_l01Has.l0, len_lt, if_false]
    exact Ev.of_eq (Ev.now _) (by simp [hasI])
  · intro pre c suf _ hx _ ih
    simp only [spec_l01Has.l0, pre_lt hx, pre_0, if_true, at_preI hx, pre_w hx hs]
    by_cases hc : c = i
    · exact Ev.pos hc (Ev.of_eq (Ev.now _) (by simp [hasI, hc]))
    · refine Ev.neg hc (Ev.of_eq (ih () trivial) ?_)
      have : ¬ i = c := fun e => hc e.symm
      simp [hasI, this]
def idxI : List Int → Int → Int → Int
  | [], _, _ => -1
  | a :: r, c, i => if c = a then i else idxI r c (i + 1)
theorem idxI_mem : ∀ (s : List Int) (c i : Int), 0 ≤ i → (idxI s c i ≥ 0 ↔ c ∈ s)
  | [], c, i, _ => by simp [idxI]
  | a :: r, c, i, hi => by
    unfold idxI
    by_cases h : c = a
    · rw [if_pos h]; simp [h, hi]
    · rw [if_neg h, idxI_mem r c (i + 1) (by omega)]; simp [h]
theorem implHas_ev (s : List Int) (i : Int) (hs : small s) : Ev (fun k => slices_Contains_int64_int64.f k s i) (hasI s i) := by
  unfold slices_Contains_int64_int64.f slices_Index_int64_int64.f
  have := loop_list s (fun k j (_ : Unit) => slices_Index_int64_int64.l0 k s i (s.length : Int) j) (fun pre suf _ => idxI suf i (pre.length : Int)) (fun _ _ => True) ?_ ?_ () trivial
  · refine Ev.bind this (Ev.of_eq (Ev.now _) ?_)
    have h := idxI_mem s i 0 (Int.le_refl _)
    unfold hasI
    rw [Bool.eq_iff_iff, decide_eq_true_eq, decide_eq_true_eq]
    exact h
  · intro _ _
    simp only [slices_Index_int64_int64.l0, len_lt, if_false]
    exact Ev.of_eq (Ev.now _) (by simp [idxI])
  · intro pre c suf _ hx _ ih
    simp only [slices_Index_int64_int64.l0, pre_lt hx, pre_0, if_true, at_preI hx, pre_w hx hs, idxI]
    refine Ev.if_ (fun _ => Ev.now _) (fun _ => Ev.of_eq (ih () trivial) ?_)
    simp
def risesF (n : Int) : Option Int → List Int → Bool
  | _, [] => true
  | p, c :: r => decide (0 ≤ c ∧ c ≤ n - 1) && (match p with | none => true | some q => decide (q < c)) && risesF n (some c) r
theorem specRises_ev (l : List Int) (n : Int) (h0 : 0 ≤ n) (h1 : n ≤ 1048576) (hs : small l) : Ev (fun k => spec_l01Rises.f k l n) (risesF n none l) := by
  unfold spec_l01Rises.f
  have e0 : wrap64 (n - 1) = n - 1 := w64 (by omega) (by omega)
  refine loop_list l (fun k i (_ : Unit) => spec_l01Rises.l0 k l n i) (fun pre suf _ => risesF n pre.getLast? suf) (fun _ _ => True) ?_ ?_ () trivial
  · intro _ _
    simp only [spec_l01Rises.l0, len_lt, if_false]
    exact Ev.of_eq (Ev.now _) (by simp [risesF])
  · intro pre c suf _ hx _ ih
    simp only [spec_l01Rises.l0, pre_lt hx, pre_0, if_true, at_preI hx, in_eq, Option.bind_some, pre_w hx hs, e0]
    by_cases hc : 0 ≤ c ∧ c ≤ n - 1
    · simp only [hc, and_self, decide_true, if_true]
      rcases List.eq_nil_or_concat pre with rfl | ⟨L, b, rfl⟩
      · refine Ev.neg (by simp) (Ev.of_eq (ih () trivial) ?_)
        simp [risesF, hc]
      · rw [List.concat_eq_append] at hx ih ⊢
        have hx2 : l = L ++ b :: (c :: suf) := by rw [hx]; simp
        have e1 : wrap64 (((L ++ [b]).length : Int) - 1) = (L.length : Int) := by
          unfold small at hs
          rw [hx2] at hs
          simp only [List.length_append, List.length_cons, List.length_nil] at hs ⊢
          rw [w64 (by omega) (by omega)]; omega
        refine Ev.pos (by simp <;> omega) ?_
        simp only [e1, pre_0, if_true, pre_lt hx2, at_preI hx2]
        by_cases hl : b < c
        · refine Ev.neg (by omega) (Ev.of_eq (ih () trivial) ?_)
          simp [risesF, hc, hl]
        · refine Ev.pos (by omega) (Ev.of_eq (Ev.now _) ?_)
          simp [risesF, hc, hl]
    · simp only [hc, decide_false, Bool.false_eq_true, if_false]
      refine Ev.of_eq (Ev.now _) ?_
      simp [risesF, hc]
theorem implIncreasing_ev (l : List Int) (n : Int) (h0 : 0 ≤ n) (h1 : n ≤ 1048576) (hs : small l) : Ev (fun k => impl_isIncreasing.f k l n) (risesF n none l) := by
  unfold impl_isIncreasing.f
  have e0 : wrap64 (n - 1) = n - 1 := w64 (by omega) (by omega)
  refine loop_list l (fun k i (_ : Unit) => impl_isIncreasing.l0 k l n l (l.length : Int) i) (fun pre suf _ => risesF n pre.getLast? suf) (fun _ _ => True) ?_ ?_ () trivial
  · intro _ _
    simp only [impl_isIncreasing.l0, len_lt, if_false]
    exact Ev.of_eq (Ev.now _) (by simp [risesF])
  · intro pre c suf _ hx _ ih
    simp only [impl_isIncreasing.l0, pre_lt hx, pre_0, if_true, at_preI hx, within_eq, Option.bind_some, pre_w hx hs, e0]
    by_cases hc : 0 ≤ c ∧ c ≤ n - 1
    · simp only [hc, and_self, decide_true, if_true]
      rcases List.eq_nil_or_concat pre with rfl | ⟨L, b, rfl⟩
      · refine Ev.neg (by simp) (Ev.of_eq (ih () trivial) ?_)
        simp [risesF, hc]
      · rw [List.concat_eq_append] at hx ih ⊢
        have hx2 : l = L ++ b :: (c :: suf) := by rw [hx]; simp
        have e1 : wrap64 (((L ++ [b]).length : Int) - 1) = (L.length : Int) := by
          unfold small at hs
          rw [hx2] at hs
          simp only [List.length_append, List.length_cons, List.length_nil] at hs ⊢
          rw [w64 (by omega) (by omega)]; omega
        refine Ev.pos (by simp <;> omega) ?_
        simp only [e1, pre_0, if_true, pre_lt hx2, at_preI hx2]
        by_cases hl : b < c
        · refine Ev.neg (by omega) (Ev.of_eq (ih () trivial) ?_)
          simp [risesF, hc, hl]
        · refine Ev.pos (by omega) (Ev.of_eq (Ev.now _) ?_)
          simp [risesF, hc, hl]
    · simp only [hc, decide_false, Bool.false_eq_true, if_false]
      refine Ev.of_eq (Ev.now _) ?_
      simp [risesF, hc]
def codeOf (l : List Cell) (s : List Int) : Int := if regionB l = true then (if risesF (l.length : Int) none s = true then 0 else 2) else 1
theorem specCode_ev (l : List Cell) (s : List Int) (hl : l.length ≤ 1048576) (hs : small s) : Ev (fun k => spec_l10Code.f k l s) (codeOf l s) := by
  unfold spec_l10Code.f codeOf
  refine Ev.bind (specIsRegion_ev l (by unfold small; omega)) (Ev.if_ (fun _ => ?_) (fun _ => Ev.now _))
  exact Ev.bind (specRises_ev s _ (by omega) (by omega) hs) (Ev.if_ (fun _ => Ev.now _) (fun _ => Ev.now _))
theorem implCode_ev (l : List Cell) (s : List Int) (hl : l.length ≤ 1048576) (hs : small s) : Ev (fun k => impl_setCode.f k l s) (codeOf l s) := by
  unfold impl_setCode.f codeOf
  refine Ev.bind (implIsRegion_ev l (by unfold small; omega)) (Ev.if_ (fun _ => ?_) (fun _ => Ev.now _))
  exact Ev.bind (implIncreasing_ev s _ (by omega) (by omega) hs) (Ev.if_ (fun _ => Ev.now _) (fun _ => Ev.now _))
theorem risesF_spec (n : Int) : ∀ (s : List Int) (p : Option Int), risesF n p s = true → (∀ i ∈ s, 0 ≤ i ∧ i < n) ∧ (∀ q, p = some q → ∀ i ∈ s, q < i) ∧ s.Pairwise (· < ·)
  | [], _, _ => ⟨fun i h => by simp at h, fun _ _ i h => by simp at h, List.Pairwise.nil⟩
  | a :: r, p, h => by
    simp only [risesF, Bool.and_eq_true, decide_eq_true_eq] at h
    obtain ⟨h1, h2, h3⟩ := risesF_spec n r (some a) h.2
    have h4 := h2 a rfl
    refine ⟨fun i hi => ?_, fun q hq i hi => ?_, List.pairwise_cons.2 ⟨h4, h3⟩⟩
    · rcases List.mem_cons.1 hi with rfl | hi
      · omega
      · exact h1 i hi
    · subst hq
      have h5 : q < a := by simpa using h.1.2
      rcases List.mem_cons.1 hi with rfl | hi
      · exact h5
      · have := h4 i hi; omega
theorem codeOf_zero {l : List Cell} {s : List Int} (h : codeOf l s = 0) : regionB l = true ∧ (∀ i ∈ s, 0 ≤ i ∧ i < (l.length : Int)) ∧ s.Pairwise (· < ·) := by
  unfold codeOf at h
  by_cases hr : regionB l = true
  · rw [if_pos hr] at h
    by_cases hs : risesF (l.length : Int) none s = true
    · obtain ⟨h1, _, h3⟩ := risesF_spec _ s none hs
      exact ⟨hr, h1, h3⟩
    · rw [if_neg hs] at h; omega
  · rw [if_neg hr] at h; omega
theorem rising_len : ∀ (s : List Int) (a n : Int), (∀ i ∈ s, a ≤ i ∧ i < n) → s.Pairwise (· < ·) → a ≤ n → (s.length : Int) ≤ n - a ∧ ((s.length : Int) = n - a ↔ ∀ i, a ≤ i → i < n → i ∈ s)
  | [], a, n, _, _, han => by
    refine ⟨by simp; omega, fun h i h1 h2 => by simp at h; omega, fun h => ?_⟩
    by_cases e : a < n
    · simpa using h a (Int.le_refl _) e
    · simp; omega
  | c :: r, a, n, h1, h2, han => by
    obtain ⟨h3, h4⟩ := List.pairwise_cons.1 h2
    have hc := h1 c List.mem_cons_self
    obtain ⟨h5, h6⟩ := rising_len r (c + 1) n (fun i hi => ⟨by have := h3 i hi; omega, (h1 i (List.mem_cons_of_mem _ hi)).2⟩) h4 (by omega)
    rw [List.length_cons]
    refine ⟨by omega, fun h i hi hi' => ?_, fun h => ?_⟩
    · have hca : c = a := by omega
      by_cases e : i = c
      · exact e ▸ List.mem_cons_self
      · exact List.mem_cons_of_mem _ (h6.1 (by omega) i (by omega) hi')
    · have hca : c = a := by
        have := h a (Int.le_refl _) (by omega)
        rcases List.mem_cons.1 this with e | e
        · exact e.symm
        · have := h3 a e; omega
      have := h6.2 fun i hi hi' => by
        rcases List.mem_cons.1 (h i (by omega) hi') with e | e
        · omega
        · exact e
      omega
def cellsAt (l : List Cell) (s : List Int) : List Cell := s.map fun i => rd_T59 l i
def setCells (l : List Cell) (s : List Int) : List Cell × Int := if codeOf l s = 0 then (cellsAt l s, 0) else ([], codeOf l s)
def restF (s : List Int) : Int → List Cell → List Cell
  | _, [] => []
  | i, c :: r => if hasI s i = true then restF s (i + 1) r else c :: restF s (i + 1) r
theorem restF_len (s : List Int) : ∀ (r : List Cell) (i : Int), (restF s i r).length ≤ r.length
  | [], _ => Nat.le_refl _
  | c :: r, i => by
    have := restF_len s r (i + 1)
    unfold restF
    split <;> simp only [List.length_cons] <;> omega
theorem restF_nil (s : List Int) : ∀ (r : List Cell) (i : Int), restF s i r = [] ↔ ∀ j, i ≤ j → j < i + (r.length : Int) → j ∈ s
  | [], i => by simp [restF]; omega
  | c :: r, i => by
    unfold restF
    by_cases h : hasI s i = true
    · rw [if_pos h, restF_nil s r (i + 1), List.length_cons]
      have hi : i ∈ s := by simpa [hasI] using h
      constructor
      · intro h1 j h2 h3
        by_cases e : j = i
        · exact e ▸ hi
        · exact h1 j (by omega) (by omega)
      · intro h1 j h2 h3
        exact h1 j (by omega) (by omega)
    · rw [if_neg h]
      have hi : i ∉ s := by simpa [hasI] using h
      constructor
      · intro h1; simp at h1
      · intro h1; exact absurd (h1 i (Int.le_refl _) (by rw [List.length_cons]; omega)) hi
theorem specRest_ev (l : List Cell) (s : List Int) (hl : l.length ≤ 1048576) (hs : small s) : Ev (fun k => spec_l10Rest.f k l s) (restF s 0 l) := by
  have hsl : small l := by unfold small; omega
  unfold spec_l10Rest.f
  have := loop_list l (fun k i (q : List Cell) => spec_l10Rest.l0 k l s q i) (fun pre suf q => q ++ restF s (pre.length : Int) suf) (fun pre q => q.length ≤ pre.length) ?_ ?_ [] (Nat.le_refl _)
  · simpa using this
  · intro q _
    simp only [spec_l10Rest.l0, len_lt, if_false]
    exact Ev.of_eq (Ev.now _) (by simp [restF])
  · intro pre c suf q hx hi ih
    have hp := pre_len hx
    simp only [spec_l10Rest.l0, pre_lt hx, pre_0, if_true, at_pre hx, pre_w hx hsl]
    refine Ev.bind (specHas_ev s _ hs) ?_
    by_cases h : hasI s (pre.length : Int) = true
    · refine Ev.pos h (Ev.of_eq (ih q (by simp; omega)) ?_)
      simp [restF, h]
    · refine Ev.neg h (Ev.pos (by omega) (Ev.of_eq (ih _ (by simp; omega)) ?_))
      simp [restF, h]
theorem implWithout_ev (l : List Cell) (s : List Int) (hl : l.length ≤ 1048576) (hs : small s) : Ev (fun k => impl_without.f k l s) (restF s 0 l) := by
  have hsl : small l := by unfold small; omega
  unfold impl_without.f
  have := loop_list l (fun k i (q : List Cell) => impl_without.l0 k s q l (l.length : Int) i) (fun pre suf q => q ++ restF s (pre.length : Int) suf) (fun pre q => q.length ≤ pre.length) ?_ ?_ [] (Nat.le_refl _)
  · simpa using this
  · intro q _
    simp only [impl_without.l0, len_lt, if_false]
    exact Ev.of_eq (Ev.now _) (by simp [restF])
  · intro pre c suf q hx hi ih
    have hp := pre_len hx
    simp only [impl_without.l0, pre_lt hx, pre_0, if_true, at_pre hx, pre_w hx hsl]
    refine Ev.bind (implHas_ev s _ hs) ?_
    by_cases h : hasI s (pre.length : Int) = true
    · refine Ev.pos h (Ev.of_eq (ih q (by simp; omega)) ?_)
      simp [restF, h]
    · refine Ev.neg h (Ev.pos (by omega) (Ev.of_eq (ih _ (by simp; omega)) ?_))
      simp [restF, h]
def cutR (l : List Cell) (s : List Int) : List Cell × Int := if codeOf l s = 0 then (if s.length = l.length then ([], 5) else (normalL (restF s 0 l), 0)) else ([], codeOf l s)
theorem rest_empty {l : List Cell} {s : List Int} (h : codeOf l s = 0) : restF s 0 l = [] ↔ s.length = l.length := by
  obtain ⟨h1, h2, h3⟩ := codeOf_zero h
  obtain ⟨h4, h5⟩ := rising_len s 0 (l.length : Int) h2 h3 (by omega)
  rw [restF_nil]
  constructor
  · intro h6
    have := h5.2 fun i hi hi' => h6 i hi (by omega)
    omega
  · intro h6 j hj hj'
    exact h5.1 (by omega) j hj (by omega)
theorem implCut_ev (l : List Cell) (s : List Int) (hl : l.length ≤ 1048576) (hs : s.length ≤ 1048576) : Ev (fun k => impl_CutRegion.f k l s) (cutR l s) := by
  have hss : small s := by unfold small; omega
  unfold impl_CutRegion.f cutR
  refine Ev.bind (implCode_ev l s hl hss) ?_
  by_cases h : codeOf l s = 0
  · rw [if_pos h]
    refine Ev.pos h (Ev.bind (implWithout_ev l s hl hss) ?_)
    have hr := restF_len s l 0
    by_cases he : s.length = l.length
    · rw [if_pos he]
      have := (rest_empty h).2 he
      exact Ev.pos (by rw [this]; rfl) (Ev.now _)
    · rw [if_neg he]
      have hn : restF s 0 l ≠ [] := fun e => he ((rest_empty h).1 e)
      have hp := List.length_pos_iff.2 hn
      exact Ev.neg (by omega) (Ev.bind (implNormal_ev _ (by omega) hp) (Ev.now _))
  · rw [if_neg h]
    exact Ev.neg h (Ev.now _)
def Rep (n : Nat) (o : List Int) : Prop := ∀ j : Nat, j < n → 0 ≤ rd o (j : Int) → ∃ i : Nat, rd o (j : Int) = (i : Int) ∧ i < n ∧ rd o (i : Int) = (i : Int)
theorem rep_step {nb : Cell → List Cell} {l : List Cell} {o : List Int} {i : Nat} (hl : o.length = l.length) (hi : i < l.length) (h : Rep l.length o) : Rep l.length (if rd o (i : Int) ≥ 0 then o else bfs nb l (i : Int) l.length (o.set i (i : Int)) [(i : Int)]) := by
  by_cases hg : rd o (i : Int) ≥ 0
  · rw [if_pos hg]; exact h
  · rw [if_neg hg]
    obtain ⟨h4, _⟩ := step_fine hl hi hg
    have st (j : Nat) := bfs_stable (nb := nb) (i := (i : Int)) (by omega) (j : Int) (by omega) l.length _ _ h4
    have e1 (j : Nat) : rd (o.set i (i : Int)) (j : Int) = if j = i then (i : Int) else rd o (j : Int) := by
      rw [rd_set _ _ _ _ (by omega), Int.toNat_natCast]
    have ei : rd (bfs nb l (i : Int) l.length (o.set i (i : Int)) [(i : Int)]) (i : Int) = (i : Int) := by
      have h5 : rd (o.set i (i : Int)) (i : Int) = (i : Int) := by rw [e1 i, if_pos rfl]
      rw [(st i).1 (by omega)]
      exact h5
    intro j hj hp
    by_cases hm : 0 ≤ rd (o.set i (i : Int)) (j : Int)
    · have e2 := (st j).1 hm
      rw [e1 j] at e2 hm
      by_cases hji : j = i
      · rw [if_pos hji] at e2
        exact ⟨i, e2, hi, ei⟩
      · rw [if_neg hji] at e2 hm
        obtain ⟨m, h6, h7, h8⟩ := h j hj hm
        refine ⟨m, e2.trans h6, h7, ?_⟩
        have e3 : rd (o.set i (i : Int)) (m : Int) = (m : Int) := by
          rw [e1 m]
          by_cases hmi : m = i
          · rw [if_pos hmi, hmi]
          · rw [if_neg hmi]; exact h8
        rw [(st m).1 (by omega)]
        exact e3
    · rcases (st j).2 with h6 | h6
      · omega
      · exact ⟨i, h6, hi, ei⟩
theorem partsF_rep {nb : Cell → List Cell} {l : List Cell} : ∀ (r pre : List Cell) (o : List Int), l = pre ++ r → o.length = l.length → (∀ j : Nat, j < pre.length → 0 ≤ rd o (j : Int)) → Rep l.length o → Rep l.length (partsF nb l (pre.length : Int) r o)
  | [], pre, o, h, hl, hd, hr => hr
  | c :: r, pre, o, h, hl, hd, hr => by
    have hp : pre.length < l.length := by rw [h]; simp
    obtain ⟨h1, h2⟩ := step_next (nb := nb) (l := l) (o := o) (i := pre.length) hl hp hd
    have := partsF_rep (nb := nb) r (pre ++ [c]) _ (by rw [h]; simp) h1 (by simpa using h2) (rep_step (nb := nb) hl hp hr)
    rw [List.length_append] at this
    exact this
theorem partsR_rep (nb : Cell → List Cell) (l : List Cell) (j : Nat) (hj : j < l.length) : ∃ i : Nat, rd (partsR nb l) (j : Int) = (i : Int) ∧ i < l.length ∧ rd (partsR nb l) (i : Int) = (i : Int) := by
  have h0 : Rep l.length (List.replicate l.length (-1 : Int)) := fun j hj hp => by rw [rd_rep hj] at hp; omega
  have h1 : Rep l.length (partsR nb l) := partsF_rep l [] _ rfl (by simp) (fun j hj => by simp at hj) h0
  refine h1 j hj ?_
  have h2 := partsR_pos nb l
  have hl := partsR_len nb l
  unfold rd
  rw [List.getD_eq_getElem?_getD, Int.toNat_natCast, List.getElem?_eq_getElem (by omega)]
  exact h2 _ (List.getElem_mem _)
theorem rd_getElem (o : List Int) (j : Nat) (hj : j < o.length) : rd o (j : Int) = o[j] := by
  unfold rd
  rw [List.getD_eq_getElem?_getD, Int.toNat_natCast, List.getElem?_eq_getElem hj]; rfl
def countsF (n : Nat) (P : List Int) : List Int := (List.range n).map fun (i : Nat) => ((P.count (i : Int) : Nat) : Int)
def sizesP (P : List Int) : List Int := (countsF P.length P).filter fun x => !(x == 0)
def selfS (P : List Int) (is : List Nat) : List Int := (is.filter fun (i : Nat) => rd P (i : Int) == (i : Int)).map fun (i : Nat) => ((P.count (i : Int) : Nat) : Int)
theorem sizes_self (nb : Cell → List Cell) (l : List Cell) : sizesP (partsR nb l) = selfS (partsR nb l) (List.range l.length) := by
  unfold sizesP countsF selfS
  rw [partsR_len, List.filter_map]
  congr 1
  refine List.filter_congr fun i hi => ?_
  have hi' : i < l.length := List.mem_range.1 hi
  show (!((((partsR nb l).count (i : Int) : Nat) : Int) == 0)) = _
  rw [Bool.eq_iff_iff]
  simp only [Bool.not_eq_true', beq_eq_false_iff_ne, ne_eq, beq_iff_eq]
  constructor
  · intro h
    have hpos : 0 < (partsR nb l).count (i : Int) := by omega
    obtain ⟨j, hj, e⟩ := List.getElem_of_mem (List.count_pos_iff.1 hpos)
    rw [partsR_len] at hj
    obtain ⟨m, h1, h2, h3⟩ := partsR_rep nb l j hj
    rw [rd_getElem _ j (by rw [partsR_len]; exact hj), e] at h1
    have : m = i := by omega
    rw [this] at h3
    exact h3
  · intro h
    rw [rd_getElem _ i (by rw [partsR_len]; exact hi')] at h
    have : (i : Int) ∈ partsR nb l := by
      have := List.getElem_mem (l := partsR nb l) (n := i) (by rw [partsR_len]; exact hi')
      rwa [h] at this
    have := List.count_pos_iff.2 this
    omega
theorem specSizes_l (P : List Int) (hP : P.length ≤ 1048576) (i : Int) (acc : List Int) (hacc : acc.length ≤ 1048576) {r : List Int} (hc : Ev (fun k => spec_l10Parts.l0 k P (acc ++ [((P.count i : Nat) : Int)]) (wrap64 (i + 1))) r) :
    Ev (fun k => spec_l10Parts.l1 k P acc i 0 0) r := by
  have hs : small P := by unfold small; omega
  refine loop_list P (fun k j (s : Int) => spec_l10Parts.l1 k P acc i s j) (fun _ _ _ => r) (fun pre s => s = ((pre.count i : Nat) : Int)) ?_ ?_ 0 (by simp)
  · rintro s rfl
    simp only [spec_l10Parts.l1, len_lt, if_false]
    exact Ev.pos (by omega) hc
  · rintro pre c suf s hx rfl ih
    have hp := pre_len hx
    have hle : pre.count i ≤ pre.length := List.count_le_length
    simp only [spec_l10Parts.l1, pre_lt hx, pre_0, if_true, at_preI hx, pre_w hx hs]
    by_cases e : c = i
    · refine Ev.pos e (ih _ ?_)
      rw [w64 (by omega) (by omega), List.count_append, e]
      simp
    · refine Ev.neg e (ih _ ?_)
      rw [List.count_append, List.count_singleton, if_neg (by simpa using e)]; simp
theorem specSizes_ev (P : List Int) (hP : P.length ≤ 1048576) : Ev (fun k => spec_l10Parts.l0 k P [] 0) (selfS P (List.range P.length)) := by
  have key : ∀ (q i : Nat) (acc : List Int), i + q = P.length → acc.length ≤ i → Ev (fun k => spec_l10Parts.l0 k P acc (i : Int)) (acc ++ selfS P (List.range' i q)) := by
    intro q
    induction q with
    | zero =>
      intro i acc hi ha
      refine Ev.succ ?_
      simp only [spec_l10Parts.l0]
      exact Ev.neg (by omega) (Ev.of_eq (Ev.now _) (by simp [selfS]))
    | succ q ih =>
      intro i acc hi ha
      refine Ev.succ ?_
      simp only [spec_l10Parts.l0]
      have ew : wrap64 ((i : Int) + 1) = ((i + 1 : Nat) : Int) := by rw [w64 (by omega) (by omega)]; omega
      refine Ev.pos (by omega) (Ev.pos (by omega) ?_)
      by_cases e : rd P (i : Int) = (i : Int)
      · refine Ev.pos e (specSizes_l P hP (i : Int) acc (by omega) ?_)
        rw [ew]
        refine Ev.of_eq (ih (i + 1) _ (by omega) (by simp; omega)) ?_
        simp [selfS, List.range'_succ, e]
      · refine Ev.neg e ?_
        rw [ew]
        refine Ev.of_eq (ih (i + 1) acc (by omega) (by omega)) ?_
        simp [selfS, List.range'_succ, e]
  have := key P.length 0 [] (by omega) (by simp)
  rw [← List.range_eq_range'] at this
  simpa using this
theorem countsF_rd (n : Nat) (P : List Int) (j : Nat) (hj : j < n) : rd (countsF n P) (j : Int) = ((P.count (j : Int) : Nat) : Int) := by
  rw [rd_getElem _ j (by simpa [countsF] using hj)]
  simp [countsF]
theorem countsF_snoc (n : Nat) (P : List Int) (j : Nat) (hj : j < n) : (countsF n P).set j (((P.count (j : Int) : Nat) : Int) + 1) = countsF n (P ++ [(j : Int)]) := by
  apply List.ext_getElem
  · simp [countsF]
  · intro t h1 h2
    simp only [countsF, List.length_set, List.length_map, List.length_range] at h1
    rw [List.getElem_set]
    simp only [countsF, List.getElem_map, List.getElem_range, List.count_append, List.count_singleton]
    by_cases e : j = t
    · subst e; simp
    · have : ¬ (j : Int) = (t : Int) := by omega
      simp [e, this]
theorem implSizes_ev (n : Nat) (hn : n ≤ 1048576) (P : List Int) (hl : P.length = n) (hP : ∀ x ∈ P, 0 ≤ x ∧ x < (n : Int)) : Ev (fun k => impl_RestParts.l0 k (List.replicate n 0) P (P.length : Int) 0) (sizesP P, 0) := by
  have hs : small P := by unfold small; omega
  have h0 : List.replicate n (0 : Int) = countsF n [] := by
    apply List.ext_getElem
    · simp [countsF]
    · intro t h1 h2
      simp [countsF]
  rw [h0]
  refine loop_list P (fun k j (s : List Int) => impl_RestParts.l0 k s P (P.length : Int) j) (fun _ _ _ => (sizesP P, 0)) (fun pre s => s = countsF n pre) ?_ ?_ (countsF n []) rfl
  · rintro s rfl
    have hcl : (countsF n P).length = n := by simp [countsF]
    simp only [impl_RestParts.l0, len_lt, if_false]
    unfold slices_DeleteFunc_int64_int64__impl_RestParts_1.f
    rw [if_pos (by omega)]
    refine Ev.of_eq (Ev.now _) ?_
    unfold sizesP
    rw [hl]
  · rintro pre c suf s hx rfl ih
    have hp := pre_len hx
    have hc : c ∈ P := by rw [hx]; simp
    obtain ⟨m, rfl⟩ : ∃ m : Nat, c = (m : Int) := ⟨c.toNat, by have := hP c hc; omega⟩
    have hm := (hP _ hc).2
    have hcl : (countsF n pre).length = n := by simp [countsF]
    have hle : pre.count (m : Int) ≤ pre.length := List.count_le_length
    simp only [impl_RestParts.l0, pre_lt hx, pre_0, if_true, at_preI hx, pre_w hx hs]
    refine Ev.pos (by omega) (Ev.pos (by omega) (ih _ ?_))
    rw [Int.toNat_natCast, countsF_rd n pre m (by omega), w64 (by omega) (by omega)]
    exact countsF_snoc n pre m (by omega)
def restP (l : List Cell) (s : List Int) : List Int × Int := if codeOf l s = 0 then (sizesP (partsR aroundC (restF s 0 l)), 0) else ([], codeOf l s)
theorem sizesP_len (P : List Int) : (sizesP P).length ≤ P.length := by
  unfold sizesP
  refine Nat.le_trans (List.length_filter_le _ _) ?_
  simp [countsF]
theorem restP_len (l : List Cell) (s : List Int) : (restP l s).1.length ≤ l.length := by
  unfold restP
  split
  · have h1 := sizesP_len (partsR aroundC (restF s 0 l))
    rw [partsR_len] at h1
    have h2 := restF_len s l 0
    show (sizesP _).length ≤ _
    omega
  · simp
theorem specRestP_ev (l : List Cell) (s : List Int) (hl : l.length ≤ 1048576) (hs : s.length ≤ 1048576) : Ev (fun k => spec_RestParts.f k l s) (restP l s) := by
  unfold spec_RestParts.f restP
  have hr := restF_len s l 0
  refine Ev.bind (specCode_ev l s hl (by unfold small; omega)) (Ev.if_ (fun h => ?_) (fun _ => Ev.now _))
  refine Ev.bind (specRest_ev l s hl (by unfold small; omega)) (Ev.bind ?_ (Ev.now _))
  unfold spec_l10Parts.f
  refine Ev.bind (ps_ev _ (by omega)) ?_
  have h1 := specSizes_ev (partsR aroundC (restF s 0 l)) (by rw [partsR_len]; omega)
  rw [partsR_len, ← sizes_self] at h1
  exact h1
theorem restF_sub (s : List Int) : ∀ (r : List Cell) (i : Int), (restF s i r).Sublist r
  | [], i => List.Sublist.refl _
  | c :: r, i => by
    unfold restF
    split
    · exact (restF_sub s r (i + 1)).cons c
    · exact (restF_sub s r (i + 1)).cons_cons c
theorem implRestP_ev (l : List Cell) (s : List Int) (hl : l.length ≤ 1048576) (hs : s.length ≤ 1048576) : Ev (fun k => impl_RestParts.f k l s) (restP l s) := by
  unfold impl_RestParts.f restP
  have hr := restF_len s l 0
  refine Ev.bind (implCode_ev l s hl (by unfold small; omega)) (Ev.if_ (fun h => ?_) (fun _ => Ev.now _))
  obtain ⟨h1, _⟩ := codeOf_zero h
  have hsh : shapeB l = true := by unfold regionB at h1; simp only [Bool.and_eq_true] at h1; exact h1.1
  obtain ⟨g1, g2, g3, g4⟩ := shapeB_iff.1 hsh
  have hsub := restF_sub s l 0
  have hnd : l.Nodup := g2.imp fun {a b} hab e => by
    subst e
    unfold ltC at hab
    omega
  refine Ev.bind (implWithout_ev l s hl (by unfold small; omega)) (Ev.pos (by omega) (Ev.pos (by omega) (Ev.bind (pa_ev _ (by omega) (hnd.sublist hsub) (List.all_eq_true.2 fun c hc => wfC_ok (g1 c (hsub.mem hc)))) ?_)))
  have hP : ∀ x ∈ partsR aroundC (restF s 0 l), 0 ≤ x ∧ x < ((restF s 0 l).length : Int) := fun x hx => by
    obtain ⟨j, hj, e⟩ := List.getElem_of_mem hx
    have hj' : j < (restF s 0 l).length := by rwa [partsR_len] at hj
    obtain ⟨m, h5, h6, _⟩ := partsR_rep aroundC (restF s 0 l) j hj'
    rw [rd_getElem _ j hj, e] at h5
    omega
  have h5 := implSizes_ev (restF s 0 l).length (by omega) (partsR aroundC (restF s 0 l)) (partsR_len _ _) hP
  rw [Int.toNat_natCast]
  exact h5
def shiftC (a b : Int) (c : Cell) : Cell := ⟨c.f0 - a, c.f1 - b⟩
theorem normalL_shift {l : List Cell} (h0 : l ≠ []) (ho : ∀ c ∈ l, okC c) : normalL l = l.map (shiftC (leastOf l).1 (leastOf l).2) := by
  have hb := least_ok h0 ho
  unfold normalL moveL
  refine List.map_congr_left fun c hc => ?_
  have h := ho c hc
  unfold okC ok1 at h
  unfold ok1 at hb
  unfold shiftC
  rw [w64 (n := -(leastOf l).1) (by omega) (by omega), w64 (n := -(leastOf l).2) (by omega) (by omega), w64 (by omega) (by omega), w64 (by omega) (by omega)]
  simp only [S59.mk.injEq]
  omega
theorem visit_map {l l2 : List Cell} {g : Cell → Cell} {i : Int} : ∀ (ds : List Cell) (s : List Int × List Int), (∀ d ∈ ds, idxC l2 (g d) = idxC l d) → visit l2 i (ds.map g) s = visit l i ds s
  | [], s, _ => rfl
  | d :: r, s, h => by
    have e : visit1 l2 i s (g d) = visit1 l i s d := by unfold visit1; rw [h d List.mem_cons_self]
    show visit l2 i (r.map g) (visit1 l2 i s (g d)) = visit l i r (visit1 l i s d)
    rw [e]
    exact visit_map r _ (fun d hd => h d (List.mem_cons_of_mem _ hd))
theorem rd_map {l : List Cell} {f : Cell → Cell} {j : Int} (h0 : 0 ≤ j) (h1 : j < (l.length : Int)) : rd_T59 (l.map f) j = f (rd_T59 l j) ∧ rd_T59 l j ∈ l := by
  obtain ⟨n, rfl⟩ : ∃ n : Nat, j = (n : Int) := ⟨j.toNat, by omega⟩
  have hn : n < l.length := by omega
  have e : l = l.take n ++ l[n] :: l.drop (n + 1) := by rw [List.getElem_cons_drop, List.take_append_drop]
  have e2 := at_pre e
  rw [List.length_take, Nat.min_eq_left (by omega)] at e2
  have e3 : l.map f = (l.take n).map f ++ f l[n] :: (l.drop (n + 1)).map f := by rw [← List.map_cons, ← List.map_append, List.getElem_cons_drop, List.take_append_drop]
  have e4 := at_pre e3
  rw [List.length_map, List.length_take, Nat.min_eq_left (by omega)] at e4
  exact ⟨by rw [e4, e2], by rw [e2]; exact List.getElem_mem hn⟩
theorem bfs_map {nb : Cell → List Cell} {l : List Cell} {f g : Cell → Cell} {i : Int} (hi : 0 ≤ i) (h1 : ∀ c ∈ l, nb (f c) = (nb c).map g) (h2 : ∀ c ∈ l, ∀ d ∈ nb c, idxC (l.map f) (g d) = idxC l d) : ∀ (n : Nat) (o q : List Int), Fine l o q → bfs nb (l.map f) i n o q = bfs nb l i n o q
  | 0, o, q, _ => rfl
  | n + 1, o, [], _ => rfl
  | n + 1, o, c :: q, h => by
    have hr := h.rng c List.mem_cons_self
    obtain ⟨e1, e2⟩ := rd_map (f := f) hr.1 hr.2
    have h' : Fine l o q := ⟨h.len, fun j hj => h.rng j (List.mem_cons_of_mem _ hj)⟩
    unfold bfs
    rw [e1, h1 _ e2, visit_map _ _ (h2 _ e2)]
    exact bfs_map hi h1 h2 n _ _ (visit_fine hi (nb (rd_T59 l c)) (s := (o, q)) h').1
theorem partsF_map {nb : Cell → List Cell} {l : List Cell} {f g : Cell → Cell} (h1 : ∀ c ∈ l, nb (f c) = (nb c).map g) (h2 : ∀ c ∈ l, ∀ d ∈ nb c, idxC (l.map f) (g d) = idxC l d) : ∀ (r pre : List Cell) (o : List Int), l = pre ++ r → o.length = l.length → (∀ j : Nat, j < pre.length → 0 ≤ rd o (j : Int)) → partsF nb (l.map f) (pre.length : Int) (r.map f) o = partsF nb l (pre.length : Int) r o
  | [], pre, o, _, _, _ => rfl
  | c :: r, pre, o, h, hl, hd => by
    have hp : pre.length < l.length := by rw [h]; simp
    obtain ⟨h3, h4⟩ := step_next (nb := nb) (l := l) (o := o) (i := pre.length) hl hp hd
    have ih := partsF_map h1 h2 r (pre ++ [c]) _ (by rw [h]; simp) h3 (by simpa using h4)
    rw [List.length_append] at ih
    have ee : ((pre.length + [c].length : Nat) : Int) = (pre.length : Int) + 1 := by simp
    rw [ee] at ih
    rw [List.map_cons, partsF, partsF, List.length_map, Int.toNat_natCast]
    by_cases hg : rd o (pre.length : Int) ≥ 0
    · rw [if_pos hg] at ih
      rw [if_pos hg, if_pos hg]
      exact ih
    · rw [if_neg hg] at ih
      rw [if_neg hg, if_neg hg]
      obtain ⟨h5, _⟩ := step_fine hl hp hg
      rw [bfs_map (by omega) h1 h2 l.length _ _ h5]
      exact ih
theorem partsR_map {nb : Cell → List Cell} {l : List Cell} {f g : Cell → Cell} (h1 : ∀ c ∈ l, nb (f c) = (nb c).map g) (h2 : ∀ c ∈ l, ∀ d ∈ nb c, idxC (l.map f) (g d) = idxC l d) : partsR nb (l.map f) = partsR nb l := by
  unfold partsR
  rw [List.length_map]
  exact partsF_map h1 h2 l [] _ rfl (by simp) (fun j hj => by simp at hj)
theorem idxF_inj {f : Cell → Cell} (hf : ∀ a b, f a = f b → a = b) (d : Cell) : ∀ (l : List Cell) (i : Int), idxF (l.map f) (f d) i = idxF l d i
  | [], i => rfl
  | a :: r, i => by
    rw [List.map_cons, idxF, idxF, idxF_inj hf d r (i + 1)]
    have e : sameC (f a) (f d) = sameC a d := by
      rw [Bool.eq_iff_iff, sameC_iff, sameC_iff]
      exact ⟨fun h => hf _ _ h, fun h => by rw [h]⟩
    rw [e]
theorem shift_inj (a b : Int) (c d : Cell) (h : shiftC a b c = shiftC a b d) : c = d := by
  obtain ⟨c0, c1⟩ := c
  obtain ⟨d0, d1⟩ := d
  unfold shiftC at h
  simp only [S59.mk.injEq] at h ⊢
  omega
theorem around_shift {a b : Int} {c : Cell} (ha : ok1 a) (hb : ok1 b) (hc : okC c) : aroundC (shiftC a b c) = (aroundC c).map (shiftC a b) := by
  unfold okC ok1 at *
  have w (n : Int) (h0 : -3000 ≤ n) (h1 : n ≤ 3000) : wrap64 n = n := w64 (by omega) (by omega)
  simp only [aroundC, shiftC, List.map_cons, List.map_nil]
  rw [w (c.f1 - b - 1) (by omega) (by omega), w (c.f0 - a - 1) (by omega) (by omega), w (c.f0 - a + 1) (by omega) (by omega), w (c.f1 - b + 1) (by omega) (by omega), w (c.f1 - 1) (by omega) (by omega), w (c.f0 - 1) (by omega) (by omega), w (c.f0 + 1) (by omega) (by omega), w (c.f1 + 1) (by omega) (by omega)]
  have e1 : c.f1 - b - 1 = c.f1 - 1 - b := by omega
  have e2 : c.f0 - a - 1 = c.f0 - 1 - a := by omega
  have e3 : c.f0 - a + 1 = c.f0 + 1 - a := by omega
  have e4 : c.f1 - b + 1 = c.f1 + 1 - b := by omega
  rw [e1, e2, e3, e4]
theorem parts_shift {l : List Cell} (ho : ∀ c ∈ l, okC c) {a b : Int} (ha : ok1 a) (hb : ok1 b) : partsR aroundC (l.map (shiftC a b)) = partsR aroundC l :=
  partsR_map (f := shiftC a b) (g := shiftC a b) (fun c hc => around_shift ha hb (ho c hc)) (fun c _ d _ => idxF_inj (shift_inj a b) d l 0)
theorem parts_normal {l : List Cell} (h0 : l ≠ []) (ho : ∀ c ∈ l, okC c) : partsR aroundC (normalL l) = partsR aroundC l := by
  rw [normalL_shift h0 ho]
  have hb := least_ok h0 ho
  exact parts_shift ho hb.1 hb.2
theorem likeC_ev (a : List Cell) (hs : small a) : Ev (fun k => laws_likeCells.f k a a) true := by
  unfold laws_likeCells.f
  refine Ev.pos rfl ?_
  refine loop_list a (fun k i (_ : Unit) => laws_likeCells.l0 k a a i) (fun _ _ _ => true) (fun _ _ => True) ?_ ?_ () trivial
  · intro _ _
    simp only [laws_likeCells.l0, len_lt, if_false]
    exact Ev.now _
  · intro pre d suf _ hx _ ih
    simp only [laws_likeCells.l0, pre_lt hx, pre_0, if_true, at_pre hx, pre_w hx hs]
    exact Ev.neg (by simp) (ih () trivial)
theorem likeI_ev (a : List Int) (hs : small a) : Ev (fun k => laws_likeInts.f k a a) true := by
  unfold laws_likeInts.f
  refine Ev.pos rfl ?_
  refine loop_list a (fun k i (_ : Unit) => laws_likeInts.l0 k a a i) (fun _ _ _ => true) (fun _ _ => True) ?_ ?_ () trivial
  · intro _ _
    simp only [laws_likeInts.l0, len_lt, if_false]
    exact Ev.now _
  · intro pre d suf _ hx _ ih
    simp only [laws_likeInts.l0, pre_lt hx, pre_0, if_true, pre_w hx hs]
    exact ih () trivial
theorem rest_count : ∀ (r : List Cell) (i : Int) (S s : List Int), (∀ j, i ≤ j → (j ∈ S ↔ j ∈ s)) → (∀ j ∈ s, i ≤ j ∧ j < i + (r.length : Int)) → s.Pairwise (· < ·) → (restF S i r).length + s.length = r.length
  | [], i, S, s, h, hb, hp => by
    cases s with
    | nil => simp [restF]
    | cons a t => have := hb a List.mem_cons_self; simp at this; omega
  | c :: r, i, S, s, h, hb, hp => by
    unfold restF hasI
    by_cases hm : i ∈ s
    · rw [if_pos (by simpa using (h i (by omega)).2 hm)]
      obtain ⟨a, t, rfl⟩ : ∃ a t, s = a :: t := by cases s with | nil => simp at hm | cons a t => exact ⟨a, t, rfl⟩
      obtain ⟨h1, h2⟩ := List.pairwise_cons.1 hp
      have ha := hb a List.mem_cons_self
      have e : a = i := by
        rcases List.mem_cons.1 hm with e | e
        · exact e.symm
        · have := h1 i e; omega
      subst e
      have := rest_count r (a + 1) S t (fun j hj => by
        rw [h j (by omega), List.mem_cons]
        exact ⟨fun g => g.resolve_left (by omega), .inr⟩) (fun j hj => by
        have g1 := h1 j hj
        have g2 := hb j (List.mem_cons_of_mem _ hj)
        rw [List.length_cons] at g2
        omega) h2
      simp only [List.length_cons]
      omega
    · rw [if_neg (by simpa using fun g => hm ((h i (by omega)).1 g))]
      have := rest_count r (i + 1) S s (fun j hj => h j (by omega)) (fun j hj => by
        have g2 := hb j hj
        rw [List.length_cons] at g2
        have : j ≠ i := fun e => hm (e ▸ hj)
        omega) hp
      simp only [List.length_cons]
      omega
theorem rest_lenS {l : List Cell} {s : List Int} (h : codeOf l s = 0) : (restF s 0 l).length + s.length = l.length := by
  obtain ⟨h1, h2, h3⟩ := codeOf_zero h
  exact rest_count l 0 s s (fun j _ => Iff.rfl) (fun j hj => by have := h2 j hj; omega) h3
theorem region_normal {l : List Cell} (h : regionB l = true) : normalL l = l := by
  unfold regionB at h
  simp only [Bool.and_eq_true, decide_eq_true_eq] at h
  obtain ⟨hs, e1, e2, _⟩ := h
  have hok := (shapeB_iff.1 hs).1
  unfold normalL moveL
  rw [e1, e2]
  have : ∀ c ∈ l, (⟨wrap64 (c.f0 + wrap64 (-0)), wrap64 (c.f1 + wrap64 (-0))⟩ : Cell) = c := fun c hc => by
    have := hok c hc
    unfold okC ok1 at this
    rw [w64 (n := (-0 : Int)) (by omega) (by omega), w64 (by omega) (by omega), w64 (by omega) (by omega)]
    simp
  calc l.map _ = l.map id := List.map_congr_left this
    _ = l := List.map_id l
theorem sum_one (m : Int) (h0 : 0 ≤ m) : ∀ (n : Nat), ((List.range n).map fun (i : Nat) => (if m = (i : Int) then (1 : Int) else 0)).sum = if m < (n : Int) then 1 else 0
  | 0 => by simp; omega
  | n + 1 => by
    rw [List.range_succ, List.map_append, List.sum_append, sum_one m h0 n]
    simp only [List.map_cons, List.map_nil, List.sum_cons, List.sum_nil]
    split <;> split <;> split <;> omega
theorem sum_two {f g : Nat → Int} : ∀ (l : List Nat), (l.map fun i => f i + g i).sum = (l.map f).sum + (l.map g).sum
  | [] => rfl
  | a :: r => by simp only [List.map_cons, List.sum_cons, sum_two r]; omega
theorem sum_counts (n : Nat) : ∀ (P : List Int), (∀ x ∈ P, 0 ≤ x ∧ x < (n : Int)) → (countsF n P).sum = (P.length : Int)
  | [], _ => by
    unfold countsF
    have : ((List.range n).map fun (i : Nat) => (((([] : List Int).count (i : Int)) : Nat) : Int)) = (List.range n).map fun _ => (0 : Int) := List.map_congr_left fun i _ => by simp
    rw [this]
    have key : ∀ l : List Nat, (l.map fun _ => (0 : Int)).sum = 0 := fun l => by induction l with | nil => rfl | cons a r ih => simp [ih]
    rw [key]; rfl
  | m :: P, h => by
    have ih := sum_counts n P fun x hx => h x (List.mem_cons_of_mem _ hx)
    have hm := h m List.mem_cons_self
    unfold countsF at ih ⊢
    have e : ((List.range n).map fun (i : Nat) => ((((m :: P).count (i : Int)) : Nat) : Int)) = (List.range n).map fun (i : Nat) => ((P.count (i : Int) : Nat) : Int) + (if m = (i : Int) then (1 : Int) else 0) := by
      refine List.map_congr_left fun i _ => ?_
      rw [List.count_cons]
      by_cases g : m = (i : Int)
      · simp [g]
      · have : (m == (i : Int)) = false := beq_eq_false_iff_ne.2 g
        simp [g]
    rw [e, sum_two, ih, sum_one m hm.1, if_pos hm.2, List.length_cons]
    omega
theorem sum_filter : ∀ (l : List Int), (l.filter fun x => !(x == 0)).sum = l.sum
  | [] => rfl
  | a :: r => by
    rw [List.filter_cons]
    by_cases h : a = 0
    · subst h; simp [sum_filter r]
    · have : (!(a == 0)) = true := by simp [h]
      rw [if_pos this, List.sum_cons, List.sum_cons, sum_filter r]
theorem sizes_pos (P : List Int) : ∀ x ∈ sizesP P, 0 ≤ x := by
  intro x hx
  unfold sizesP countsF at hx
  have := (List.mem_filter.1 hx).1
  obtain ⟨i, _, rfl⟩ := List.mem_map.1 this
  omega
theorem sizes_sum (nb : Cell → List Cell) (l : List Cell) : (sizesP (partsR nb l)).sum = (l.length : Int) := by
  unfold sizesP
  rw [sum_filter, sum_counts, partsR_len]
  intro x hx
  rw [partsR_len]
  obtain ⟨j, hj, e⟩ := List.getElem_of_mem hx
  have hj' : j < l.length := by rwa [partsR_len] at hj
  obtain ⟨m, h5, h6, _⟩ := partsR_rep nb l j hj'
  rw [rd_getElem _ j hj, e] at h5
  omega
theorem sum_ev (l : List Int) (hp : ∀ x ∈ l, 0 ≤ x) (hs : l.sum ≤ 1000000000000) (hl : small l) : Ev (fun k => laws_sum.f k l) l.sum := by
  unfold laws_sum.f
  have key : ∀ r : List Int, (∀ x ∈ r, 0 ≤ x) → 0 ≤ r.sum := fun r => by
    induction r with
    | nil => intro _; simp
    | cons a r ih => intro h; have := ih fun x hx => h x (List.mem_cons_of_mem _ hx); have := h a List.mem_cons_self; simp; omega
  refine loop_list l (fun k i (s : Int) => laws_sum.l0 k l s i) (fun _ _ _ => l.sum) (fun pre s => s = pre.sum) ?_ ?_ 0 rfl
  · rintro s rfl
    simp only [laws_sum.l0, len_lt, if_false]
    exact Ev.now _
  · rintro pre c suf s hx rfl ih
    have e : l.sum = pre.sum + (c + suf.sum) := by rw [hx]; simp
    have h1 := key pre fun x hm => hp x (by rw [hx]; simp [hm])
    have h2 := key suf fun x hm => hp x (by rw [hx]; simp [hm])
    have h3 := hp c (by rw [hx]; simp)
    simp only [laws_sum.l0, pre_lt hx, pre_0, if_true, at_preI hx, pre_w hx hl]
    refine ih _ ?_
    rw [w64 (by omega) (by omega)]; simp
theorem sizes_one (nb : Cell → List Cell) (l : List Cell) (h0 : l ≠ []) : ((sizesP (partsR nb l)).length = 1) ↔ oneB (partsR nb l) = true := by
  have hp := List.length_pos_iff.2 h0
  obtain ⟨i0, e0, hi0, _⟩ := partsR_rep nb l 0 hp
  have hst := partsR_rep nb l
  have z : rd (partsR nb l) ((0 : Nat) : Int) = 0 := by
    obtain ⟨c, r, hcr⟩ : ∃ c r, l = c :: r := by cases l with | nil => exact absurd rfl h0 | cons c r => exact ⟨c, r, rfl⟩
    obtain ⟨hf, _⟩ := first_fine l h0
    have hfl : (first nb l).length = l.length := (bfs_fine (nb := nb) (i := 0) (by omega) l.length _ _ hf).1
    have e : partsR nb l = partsF nb l 1 r (first nb l) := by
      unfold partsR
      have : ∀ (o : List Int), rd o 0 < 0 → partsF nb l 0 (c :: r) o = partsF nb l 1 r (bfs nb l 0 l.length (o.set 0 0) [0]) := by
        intro o ho
        rw [partsF, if_neg (by omega)]
        rfl
      rw [show partsF nb l 0 l (List.replicate l.length (-1)) = partsF nb l 0 (c :: r) (List.replicate l.length (-1)) from by rw [← hcr]]
      rw [this _ (by have := rd_rep (n := l.length) (j := 0) hp; rw [Int.natCast_zero] at this; omega)]
      rfl
    have h6 := (bfs_stable (nb := nb) (i := 0) (by omega) ((0 : Nat) : Int) (by omega) l.length _ _ hf).1 (by
      rw [rd_set _ _ _ _ (by simpa using hp), Int.toNat_natCast, if_pos rfl]; omega)
    rw [rd_set _ _ _ _ (by simpa using hp), Int.toNat_natCast, if_pos rfl] at h6
    have h7 : rd (first nb l) ((0 : Nat) : Int) = 0 := h6
    rw [e]
    have h8 := partsF_stable (nb := nb) ((0 : Nat) : Int) (by omega) r [c] (first nb l) hcr hfl (by omega)
    exact h8.trans h7
  rw [sizes_self]
  unfold selfS
  rw [List.length_map]
  have hmem : 0 ∈ (List.range l.length).filter (fun (i : Nat) => rd (partsR nb l) (i : Int) == (i : Int)) := by
    rw [List.mem_filter]
    exact ⟨List.mem_range.2 hp, by simpa using z⟩
  rw [oneB_rd, partsR_len]
  constructor
  · intro h j hj
    obtain ⟨m, h1, h2, h3⟩ := hst j hj
    have hm : m ∈ (List.range l.length).filter (fun (i : Nat) => rd (partsR nb l) (i : Int) == (i : Int)) := by
      rw [List.mem_filter]
      exact ⟨List.mem_range.2 h2, by simpa using h3⟩
    obtain ⟨a, ha⟩ := List.length_eq_one_iff.1 h
    rw [ha] at hmem hm
    simp only [List.mem_singleton] at hmem hm
    rw [h1]; omega
  · intro h
    have e : (List.range l.length).filter (fun (i : Nat) => rd (partsR nb l) (i : Int) == (i : Int)) = [0] := by
      obtain ⟨n, hn⟩ : ∃ n, l.length = n + 1 := ⟨l.length - 1, by omega⟩
      rw [hn, List.range_succ_eq_map, List.filter_cons, if_pos (by simpa using z)]
      congr 1
      rw [List.filter_eq_nil_iff]
      intro i hi
      obtain ⟨j, hj, rfl⟩ := List.mem_map.1 hi
      have := h (j + 1) (by have := List.mem_range.1 hj; omega)
      simp only [Nat.succ_eq_add_one, this, beq_iff_eq]
      omega
    rw [e]; rfl
end Go.Proofs.Ytabdmdkoffpppaa.L
end
section
namespace Go.Proofs.Ytabdmdkoffpppaa.L
open Go.RowKit Go.Proofs.YtabdmdkoffpppaaW.PrintWords Go.Proofs.YtabdmdkoffpppaaW.PrintLast Go.Proofs.YtabdmdkoffpppaaW.PrintMore Go.Proofs.Ytabdmdkoffpppaa.F
set_option linter.unusedVariables false
set_option linter.unusedSimpArgs false
structure Src (cs : List Int) (a s : Int) : Prop where
  at0 : 0 ≤ a
  at1 : a ≤ (cs.length : Int)
  sd0 : 0 ≤ s
  sd1 : s < 2147483647
  len : cs.length ≤ 1000000000000000000
  byte : ∀ x ∈ cs, 0 ≤ x ∧ x ≤ 255
theorem rd_byte {cs : List Int} {a s : Int} (h : Src cs a s) (i : Int) (h0 : 0 ≤ i) (h1 : i < (cs.length : Int)) : 0 ≤ rd cs i ∧ rd cs i ≤ 255 := by
  unfold rd
  obtain ⟨n, rfl⟩ : ∃ n : Nat, i = (n : Int) := ⟨i.toNat, by omega⟩
  have hn : n < cs.length := by omega
  have e : cs.getD (n : Int).toNat 0 = cs[n] := by simp [List.getD, hn]
  rw [e]
  exact h.byte _ (List.getElem_mem hn)
theorem next_ex {cs : List Int} {a s : Int} (h : Src cs a s) (n : Int) (hn : n ≤ 1000000000000) : ∃ v a' s', spec_l01Next.f cs a s n = some (v, a', s') ∧ Src cs a' s' ∧ 0 ≤ v ∧ (1 ≤ n → v < n) := by
  have ⟨h0, h1, h2, h3, h4, h5⟩ := h
  unfold spec_l01Next.f
  by_cases hn1 : n ≤ 1
  · rw [if_pos hn1]
    exact ⟨_, _, _, rfl, h, by omega, by omega⟩
  · rw [if_neg hn1]
    have ew : wrap64 ((wrap64 (s * 48271)) + 29) = s * 48271 + 29 := by rw [w64 (n := s * 48271) (by omega) (by omega), w64 (by omega) (by omega)]
    have em : Int.tmod (s * 48271 + 29) 2147483647 = (s * 48271 + 29) % 2147483647 := Int.tmod_eq_emod_of_nonneg (by omega)
    have hs0 : 0 ≤ (s * 48271 + 29) % 2147483647 := Int.emod_nonneg _ (by omega)
    have hs1 : (s * 48271 + 29) % 2147483647 < 2147483647 := Int.emod_lt_of_pos _ (by omega)
    rw [ew, em]
    generalize (s * 48271 + 29) % 2147483647 = s' at hs0 hs1 ⊢
    have et : Int.tdiv s' 31 = s' / 31 := Int.tdiv_eq_ediv_of_nonneg hs0
    rw [et, w64 (n := s' / 31) (by omega) (by omega)]
    have tm (x : Int) (hx : 0 ≤ x) : 0 ≤ Int.tmod x n ∧ Int.tmod x n < n := by
      rw [Int.tmod_eq_emod_of_nonneg hx]
      exact ⟨Int.emod_nonneg _ (by omega), Int.emod_lt_of_pos _ (by omega)⟩
    by_cases ha : a < (cs.length : Int)
    · have ea : wrap64 (a + 1) = a + 1 := w64 (by omega) (by omega)
      have hr := rd_byte h a h0 ha
      have e1 : wrap64 (rd cs a) = rd cs a := w64 (by omega) (by omega)
      have e2 : wrap64 (a + 1 - 1) = a := by rw [w64 (by omega) (by omega)]; omega
      have e3 : wrap64 (s' / 31 + rd cs a) = s' / 31 + rd cs a := w64 (by omega) (by omega)
      have hS : Src cs (a + 1) s' := ⟨by omega, by omega, hs0, hs1, h4, h5⟩
      rw [if_pos ha, if_pos h0, ea, e1, e2, e1, e3, if_pos h0, if_pos ha, if_neg (by omega : ¬ n = 0)]
      repeat' split
      all_goals first
        | exact ⟨_, _, _, rfl, hS, (tm _ (by omega)).1, fun _ => (tm _ (by omega)).2⟩
        | omega
    · have hS : Src cs a s' := ⟨by omega, by omega, hs0, hs1, h4, h5⟩
      rw [if_neg ha, if_neg (by omega : ¬ n = 0)]
      have := tm (s' / 31) (by omega)
      exact ⟨_, _, _, rfl, hS, this.1, fun _ => this.2⟩
def Ex {α : Type} (g : Nat → Option α) (P : α → Prop) : Prop := ∃ r, Ev g r ∧ P r
theorem Ex.now {α : Type} {P : α → Prop} {r : α} (h : P r) : Ex (fun _ => some r) P := ⟨r, Ev.now _, h⟩
theorem Ex.mono {α : Type} {g : Nat → Option α} {P Q : α → Prop} (h : Ex g P) (hi : ∀ r, P r → Q r) : Ex g Q := by
  obtain ⟨r, h1, h2⟩ := h
  exact ⟨r, h1, hi r h2⟩
theorem Ex.bind {α β : Type} {g : Nat → Option α} {f : Nat → α → Option β} {P : α → Prop} {Q : β → Prop} (h : Ex g P) (k : ∀ a, P a → Ex (fun n => f n a) Q) : Ex (fun n => (g n).bind (f n)) Q := by
  obtain ⟨a, h1, h2⟩ := h
  obtain ⟨b, h3, h4⟩ := k a h2
  exact ⟨b, Ev.bind h1 h3, h4⟩
theorem Ex.bindE {α β : Type} {g : Nat → Option α} {f : Nat → α → Option β} {a : α} {Q : β → Prop} (h : Ev g a) (k : Ex (fun n => f n a) Q) : Ex (fun n => (g n).bind (f n)) Q := by
  obtain ⟨b, h3, h4⟩ := k
  exact ⟨b, Ev.bind h h3, h4⟩
theorem Ex.bind0 {α β : Type} {o : Option α} {f : Nat → α → Option β} {a : α} {Q : β → Prop} (h : o = some a) (k : Ex (fun n => f n a) Q) : Ex (fun n => o.bind (f n)) Q := by
  subst h
  exact k
theorem Ex.pos {α : Type} {c : Prop} [Decidable c] {f g : Nat → Option α} {P : α → Prop} (h : c) (e : Ex f P) : Ex (fun k => if c then f k else g k) P := by
  obtain ⟨r, h1, h2⟩ := e
  exact ⟨r, Ev.pos h h1, h2⟩
theorem Ex.neg {α : Type} {c : Prop} [Decidable c] {f g : Nat → Option α} {P : α → Prop} (h : ¬ c) (e : Ex g P) : Ex (fun k => if c then f k else g k) P := by
  obtain ⟨r, h1, h2⟩ := e
  exact ⟨r, Ev.neg h h1, h2⟩
theorem Ex.if_ {α : Type} {c : Prop} [Decidable c] {f g : Nat → Option α} {P : α → Prop} (h : c → Ex f P) (h' : ¬ c → Ex g P) : Ex (fun k => if c then f k else g k) P := by
  by_cases hc : c
  · exact Ex.pos hc (h hc)
  · exact Ex.neg hc (h' hc)
end Go.Proofs.Ytabdmdkoffpppaa.L
end
