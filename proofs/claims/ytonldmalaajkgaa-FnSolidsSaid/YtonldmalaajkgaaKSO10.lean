/- The row of FnSolids, with what it needs: text 11 of 13. -/
import Derived.Test.YtonldmalaajkgaaKSO9
import Derived.ChangeArms
import Derived.ChangeSame
import Derived.Deep.Fields
import Derived.Deep.Slices
import Derived.Deep.Strs
import Derived.WideShapes
set_option maxHeartbeats 8000000
set_option maxRecDepth 100000
section
namespace Go.Proofs.Ytonldmalaajkgaa.F
open Go.RowKit Go.Proofs.YtonldmalaajkgaaW.PrintWords Go.Proofs.YtonldmalaajkgaaW.PrintLast Go.Proofs.YtonldmalaajkgaaW.PrintMore
attribute [local go_sem] max2_int min2_int max_two min_two max_three min_three max_four min_four
set_option linter.unusedVariables false
set_option linter.unusedSimpArgs false
theorem laws_FnSolids.calls (k : Nat) (A0 : Option Addr) (c0 : Nat) (l0 : List Int) (r : Bool) (w : World) (hr0 : Kd.C (Kd.int .u8) w A0 l0.length l0) (hc0 : l0.length ≤ c0) (h : laws_FnSolids.f k l0 = some r) :
  Calls Try.prog 6 #[.slice A0 l0.length c0] w fun e w' => e = .returned (.bool r) ∧ Below w.heap.size w w' := by
 have HR0 := aM hr0
 have HC0 := aM hc0
 clear hr0 hc0
 have HB := aM (Below.refl w.heap.size w)
 have H : ((laws_big.f l0).bind fun t680 => (if t680 = true then (some true) else ((spec_DrawCubeForm.f k l0).bind fun bt681 => ((impl_CubeForm.f k bt681.1 bt681.2).bind fun bt685 => ((spec_CubeForm.f k bt681.1 bt681.2).bind fun bt689 => ((spec_DrawLeastForm.f k l0).bind fun bt693 => ((impl_LeastForm.f k bt693.1 bt693.2).bind fun bt697 => ((spec_LeastForm.f k bt693.1 bt693.2).bind fun bt701 => ((impl_IsSolid.f k bt681.1).bind fun bt705 => ((spec_IsSolid.f k bt681.1).bind fun bt707 => (if bt685.2 = bt689.2 then ((laws_likeCubes.f k bt685.1 bt689.1).bind fun t709 => (if t709 = true then (if bt697.2 = bt701.2 then ((laws_likeCubes.f k bt697.1 bt701.1).bind fun t710 => (if t710 = true then (if (bt705.1 != bt707.1) = true then (laws_FnSolids.j0 k bt681.1 bt685.1 bt685.2 bt705.2 true) else (laws_FnSolids.j0 k bt681.1 bt685.1 bt685.2 bt705.2 (bt705.2 != bt707.2))) else (laws_FnSolids.j0 k bt681.1 bt685.1 bt685.2 bt705.2 true))) else (laws_FnSolids.j0 k bt681.1 bt685.1 bt685.2 bt705.2 true)) else (laws_FnSolids.j0 k bt681.1 bt685.1 bt685.2 bt705.2 true))) else (laws_FnSolids.j0 k bt681.1 bt685.1 bt685.2 bt705.2 true)))))))))))) = some r := h
 clear h
 replace H := Option.bind_eq_some_iff.mp H
 obtain ⟨t680, A20, H⟩ := H
 replace H : (if t680 = true then (some true) else ((spec_DrawCubeForm.f k l0).bind fun bt681 => ((impl_CubeForm.f k bt681.1 bt681.2).bind fun bt685 => ((spec_CubeForm.f k bt681.1 bt681.2).bind fun bt689 => ((spec_DrawLeastForm.f k l0).bind fun bt693 => ((impl_LeastForm.f k bt693.1 bt693.2).bind fun bt697 => ((spec_LeastForm.f k bt693.1 bt693.2).bind fun bt701 => ((impl_IsSolid.f k bt681.1).bind fun bt705 => ((spec_IsSolid.f k bt681.1).bind fun bt707 => (if bt685.2 = bt689.2 then ((laws_likeCubes.f k bt685.1 bt689.1).bind fun t709 => (if t709 = true then (if bt697.2 = bt701.2 then ((laws_likeCubes.f k bt697.1 bt701.1).bind fun t710 => (if t710 = true then (if (bt705.1 != bt707.1) = true then (laws_FnSolids.j0 k bt681.1 bt685.1 bt685.2 bt705.2 true) else (laws_FnSolids.j0 k bt681.1 bt685.1 bt685.2 bt705.2 (bt705.2 != bt707.2))) else (laws_FnSolids.j0 k bt681.1 bt685.1 bt685.2 bt705.2 true))) else (laws_FnSolids.j0 k bt681.1 bt685.1 bt685.2 bt705.2 true)) else (laws_FnSolids.j0 k bt681.1 bt685.1 bt685.2 bt705.2 true))) else (laws_FnSolids.j0 k bt681.1 bt685.1 bt685.2 bt705.2 true))))))))))) = some r := H
 have A2 := aM A20
 clear A20
 by_cases c3 : t680 = true
 ·subst c3
  have H1 : (some true) = some r := by rw [if_pos rfl] at H; exact H
  clear H
  have H := H1
  clear H1
  obtain rfl := Option.some.inj H
  go_enter Try.func6, Try.ntmps6
  go_wp2_with (first | ((with_reducible refine gate_callee (f := 9) rfl ?_); refine goesL_ (some 30) rfl rfl Try.func9 (by kernel_rfl) rfl #[.slice A0 l0.length c0] rfl zm ?_; (with_reducible refine (laws_big.calls _ _ l0 true _ ?side1 ?side2 A2.out).mono ?_); (case side1 => repeat (first | exact HR0.out | (with_reducible refine Kd.C_alloc ?_ _) | (with_reducible refine Kd.C_drewN ?_ _) | (with_reducible refine Kd.C_drew ?_))); (case side2 => exact HC0.out); rintro e w' ⟨rfl, ⟨nd, rfl⟩⟩; refine ⟨_, rfl, ?_⟩))
  go_ret
  exact ⟨zw, zb⟩
 replace c3 := Bool.eq_false_iff.mpr c3
 subst c3
 have H1 : ((spec_DrawCubeForm.f k l0).bind fun bt681 => ((impl_CubeForm.f k bt681.1 bt681.2).bind fun bt685 => ((spec_CubeForm.f k bt681.1 bt681.2).bind fun bt689 => ((spec_DrawLeastForm.f k l0).bind fun bt693 => ((impl_LeastForm.f k bt693.1 bt693.2).bind fun bt697 => ((spec_LeastForm.f k bt693.1 bt693.2).bind fun bt701 => ((impl_IsSolid.f k bt681.1).bind fun bt705 => ((spec_IsSolid.f k bt681.1).bind fun bt707 => (if bt685.2 = bt689.2 then ((laws_likeCubes.f k bt685.1 bt689.1).bind fun t709 => (if t709 = true then (if bt697.2 = bt701.2 then ((laws_likeCubes.f k bt697.1 bt701.1).bind fun t710 => (if t710 = true then (if (bt705.1 != bt707.1) = true then (laws_FnSolids.j0 k bt681.1 bt685.1 bt685.2 bt705.2 true) else (laws_FnSolids.j0 k bt681.1 bt685.1 bt685.2 bt705.2 (bt705.2 != bt707.2))) else (laws_FnSolids.j0 k bt681.1 bt685.1 bt685.2 bt705.2 true))) else (laws_FnSolids.j0 k bt681.1 bt685.1 bt685.2 bt705.2 true)) else (laws_FnSolids.j0 k bt681.1 bt685.1 bt685.2 bt705.2 true))) else (laws_FnSolids.j0 k bt681.1 bt685.1 bt685.2 bt705.2 true)))))))))) = some r := by rw [if_neg (show ¬ (false = true) by decide)] at H; exact H
 clear H
 have H := H1
 clear H1
 replace H := Option.bind_eq_some_iff.mp H
 obtain ⟨⟨t681, t682⟩, A40, H⟩ := H
 replace H : ((impl_CubeForm.f k t681 t682).bind fun bt685 => ((spec_CubeForm.f k t681 t682).bind fun bt689 => ((spec_DrawLeastForm.f k l0).bind fun bt693 => ((impl_LeastForm.f k bt693.1 bt693.2).bind fun bt697 => ((spec_LeastForm.f k bt693.1 bt693.2).bind fun bt701 => ((impl_IsSolid.f k t681).bind fun bt705 => ((spec_IsSolid.f k t681).bind fun bt707 => (if bt685.2 = bt689.2 then ((laws_likeCubes.f k bt685.1 bt689.1).bind fun t709 => (if t709 = true then (if bt697.2 = bt701.2 then ((laws_likeCubes.f k bt697.1 bt701.1).bind fun t710 => (if t710 = true then (if (bt705.1 != bt707.1) = true then (laws_FnSolids.j0 k t681 bt685.1 bt685.2 bt705.2 true) else (laws_FnSolids.j0 k t681 bt685.1 bt685.2 bt705.2 (bt705.2 != bt707.2))) else (laws_FnSolids.j0 k t681 bt685.1 bt685.2 bt705.2 true))) else (laws_FnSolids.j0 k t681 bt685.1 bt685.2 bt705.2 true)) else (laws_FnSolids.j0 k t681 bt685.1 bt685.2 bt705.2 true))) else (laws_FnSolids.j0 k t681 bt685.1 bt685.2 bt705.2 true))))))))) = some r := H
 have A4 := aM A40
 clear A40
 replace H := Option.bind_eq_some_iff.mp H
 obtain ⟨⟨t685, t686⟩, A50, H⟩ := H
 replace H : ((spec_CubeForm.f k t681 t682).bind fun bt689 => ((spec_DrawLeastForm.f k l0).bind fun bt693 => ((impl_LeastForm.f k bt693.1 bt693.2).bind fun bt697 => ((spec_LeastForm.f k bt693.1 bt693.2).bind fun bt701 => ((impl_IsSolid.f k t681).bind fun bt705 => ((spec_IsSolid.f k t681).bind fun bt707 => (if t686 = bt689.2 then ((laws_likeCubes.f k t685 bt689.1).bind fun t709 => (if t709 = true then (if bt697.2 = bt701.2 then ((laws_likeCubes.f k bt697.1 bt701.1).bind fun t710 => (if t710 = true then (if (bt705.1 != bt707.1) = true then (laws_FnSolids.j0 k t681 t685 t686 bt705.2 true) else (laws_FnSolids.j0 k t681 t685 t686 bt705.2 (bt705.2 != bt707.2))) else (laws_FnSolids.j0 k t681 t685 t686 bt705.2 true))) else (laws_FnSolids.j0 k t681 t685 t686 bt705.2 true)) else (laws_FnSolids.j0 k t681 t685 t686 bt705.2 true))) else (laws_FnSolids.j0 k t681 t685 t686 bt705.2 true)))))))) = some r := H
 have A5 := aM A50
 clear A50
 replace H := Option.bind_eq_some_iff.mp H
 obtain ⟨⟨t689, t690⟩, A60, H⟩ := H
 replace H : ((spec_DrawLeastForm.f k l0).bind fun bt693 => ((impl_LeastForm.f k bt693.1 bt693.2).bind fun bt697 => ((spec_LeastForm.f k bt693.1 bt693.2).bind fun bt701 => ((impl_IsSolid.f k t681).bind fun bt705 => ((spec_IsSolid.f k t681).bind fun bt707 => (if t686 = t690 then ((laws_likeCubes.f k t685 t689).bind fun t709 => (if t709 = true then (if bt697.2 = bt701.2 then ((laws_likeCubes.f k bt697.1 bt701.1).bind fun t710 => (if t710 = true then (if (bt705.1 != bt707.1) = true then (laws_FnSolids.j0 k t681 t685 t686 bt705.2 true) else (laws_FnSolids.j0 k t681 t685 t686 bt705.2 (bt705.2 != bt707.2))) else (laws_FnSolids.j0 k t681 t685 t686 bt705.2 true))) else (laws_FnSolids.j0 k t681 t685 t686 bt705.2 true)) else (laws_FnSolids.j0 k t681 t685 t686 bt705.2 true))) else (laws_FnSolids.j0 k t681 t685 t686 bt705.2 true))))))) = some r := H
 have A6 := aM A60
 clear A60
 replace H := Option.bind_eq_some_iff.mp H
 obtain ⟨⟨t693, t694⟩, A70, H⟩ := H
 replace H : ((impl_LeastForm.f k t693 t694).bind fun bt697 => ((spec_LeastForm.f k t693 t694).bind fun bt701 => ((impl_IsSolid.f k t681).bind fun bt705 => ((spec_IsSolid.f k t681).bind fun bt707 => (if t686 = t690 then ((laws_likeCubes.f k t685 t689).bind fun t709 => (if t709 = true then (if bt697.2 = bt701.2 then ((laws_likeCubes.f k bt697.1 bt701.1).bind fun t710 => (if t710 = true then (if (bt705.1 != bt707.1) = true then (laws_FnSolids.j0 k t681 t685 t686 bt705.2 true) else (laws_FnSolids.j0 k t681 t685 t686 bt705.2 (bt705.2 != bt707.2))) else (laws_FnSolids.j0 k t681 t685 t686 bt705.2 true))) else (laws_FnSolids.j0 k t681 t685 t686 bt705.2 true)) else (laws_FnSolids.j0 k t681 t685 t686 bt705.2 true))) else (laws_FnSolids.j0 k t681 t685 t686 bt705.2 true)))))) = some r := H
 have A7 := aM A70
 clear A70
 replace H := Option.bind_eq_some_iff.mp H
 obtain ⟨⟨t697, t698⟩, A80, H⟩ := H
 replace H : ((spec_LeastForm.f k t693 t694).bind fun bt701 => ((impl_IsSolid.f k t681).bind fun bt705 => ((spec_IsSolid.f k t681).bind fun bt707 => (if t686 = t690 then ((laws_likeCubes.f k t685 t689).bind fun t709 => (if t709 = true then (if t698 = bt701.2 then ((laws_likeCubes.f k t697 bt701.1).bind fun t710 => (if t710 = true then (if (bt705.1 != bt707.1) = true then (laws_FnSolids.j0 k t681 t685 t686 bt705.2 true) else (laws_FnSolids.j0 k t681 t685 t686 bt705.2 (bt705.2 != bt707.2))) else (laws_FnSolids.j0 k t681 t685 t686 bt705.2 true))) else (laws_FnSolids.j0 k t681 t685 t686 bt705.2 true)) else (laws_FnSolids.j0 k t681 t685 t686 bt705.2 true))) else (laws_FnSolids.j0 k t681 t685 t686 bt705.2 true))))) = some r := H
 have A8 := aM A80
 clear A80
 replace H := Option.bind_eq_some_iff.mp H
 obtain ⟨⟨t701, t702⟩, A90, H⟩ := H
 replace H : ((impl_IsSolid.f k t681).bind fun bt705 => ((spec_IsSolid.f k t681).bind fun bt707 => (if t686 = t690 then ((laws_likeCubes.f k t685 t689).bind fun t709 => (if t709 = true then (if t698 = t702 then ((laws_likeCubes.f k t697 t701).bind fun t710 => (if t710 = true then (if (bt705.1 != bt707.1) = true then (laws_FnSolids.j0 k t681 t685 t686 bt705.2 true) else (laws_FnSolids.j0 k t681 t685 t686 bt705.2 (bt705.2 != bt707.2))) else (laws_FnSolids.j0 k t681 t685 t686 bt705.2 true))) else (laws_FnSolids.j0 k t681 t685 t686 bt705.2 true)) else (laws_FnSolids.j0 k t681 t685 t686 bt705.2 true))) else (laws_FnSolids.j0 k t681 t685 t686 bt705.2 true)))) = some r := H
 have A9 := aM A90
 clear A90
 replace H := Option.bind_eq_some_iff.mp H
 obtain ⟨⟨t705, t706⟩, A100, H⟩ := H
 replace H : ((spec_IsSolid.f k t681).bind fun bt707 => (if t686 = t690 then ((laws_likeCubes.f k t685 t689).bind fun t709 => (if t709 = true then (if t698 = t702 then ((laws_likeCubes.f k t697 t701).bind fun t710 => (if t710 = true then (if (t705 != bt707.1) = true then (laws_FnSolids.j0 k t681 t685 t686 t706 true) else (laws_FnSolids.j0 k t681 t685 t686 t706 (t706 != bt707.2))) else (laws_FnSolids.j0 k t681 t685 t686 t706 true))) else (laws_FnSolids.j0 k t681 t685 t686 t706 true)) else (laws_FnSolids.j0 k t681 t685 t686 t706 true))) else (laws_FnSolids.j0 k t681 t685 t686 t706 true))) = some r := H
 have A10 := aM A100
 clear A100
 replace H := Option.bind_eq_some_iff.mp H
 obtain ⟨⟨t707, t708⟩, A110, H⟩ := H
 replace H : (if t686 = t690 then ((laws_likeCubes.f k t685 t689).bind fun t709 => (if t709 = true then (if t698 = t702 then ((laws_likeCubes.f k t697 t701).bind fun t710 => (if t710 = true then (if (t705 != t707) = true then (laws_FnSolids.j0 k t681 t685 t686 t706 true) else (laws_FnSolids.j0 k t681 t685 t686 t706 (t706 != t708))) else (laws_FnSolids.j0 k t681 t685 t686 t706 true))) else (laws_FnSolids.j0 k t681 t685 t686 t706 true)) else (laws_FnSolids.j0 k t681 t685 t686 t706 true))) else (laws_FnSolids.j0 k t681 t685 t686 t706 true)) = some r := H
 have A11 := aM A110
 clear A110
 have HC12 := aM H
 clear H
 go_enter Try.func6, Try.ntmps6
 go_upto_region 11 with (first | ((with_reducible refine gate_callee (f := 9) rfl ?_); refine goesL_ (some 30) rfl rfl Try.func9 (by kernel_rfl) rfl #[.slice A0 l0.length c0] rfl zm ?_; (with_reducible refine (laws_big.calls _ _ l0 false _ ?side1 ?side2 A2.out).mono ?_); (case side1 => repeat (first | exact HR0.out | (with_reducible refine Kd.C_alloc ?_ _) | (with_reducible refine Kd.C_drewN ?_ _) | (with_reducible refine Kd.C_drew ?_))); (case side2 => exact HC0.out); rintro e w' ⟨rfl, ⟨nd, rfl⟩⟩; refine ⟨_, rfl, ?_⟩) | ((with_reducible refine gate_callee (f := 16) rfl ?_); refine goesL_ (some 33) rfl rfl Try.func16 (by kernel_rfl) rfl #[.slice A0 l0.length c0] rfl zm ?_; (with_reducible refine (spec_DrawCubeForm.calls k _ _ l0 t681 t682 _ ?side1 ?side2 A4.out).mono ?_); (case side1 => repeat (first | exact HR0.out | (with_reducible refine Kd.C_alloc ?_ _) | (with_reducible refine Kd.C_drewN ?_ _) | (with_reducible refine Kd.C_drew ?_))); (case side2 => exact HC0.out); rintro e w13 ⟨v683, rfl, ho0, hb⟩; refine ⟨_, rfl, ?_⟩; have n0_ := aM (Kd.R_lower ho0 (below_size zb)); have n1_ := aM (below_step zb hb); clear HB; have HO684 := n0_; have HB := n1_; clear n0_ n1_; (try clear hb); (try clear hb2); (try clear hk); (try clear hi); (try clear ho0); obtain ⟨Ao14, co14, eo14⟩ := Kd.R_slice HO684.out; subst eo14) | ((with_reducible refine gate_callee (f := 17) rfl ?_); refine goesL_ (some 39) rfl rfl Try.func17 (by kernel_rfl) rfl #[.slice Ao14 t681.length co14, .int .i64 t682] rfl zm ?_; (with_reducible refine (impl_CubeForm.calls k _ _ t681 t682 t685 t686 _ ?side1 ?side2 A5.out).mono ?_); (case side1 => exact zc HO684.out); (case side2 => exact (Kd.R_reads' HO684.out).2.1); rintro e w15 ⟨v687, rfl, ho0, hb⟩; refine ⟨_, rfl, ?_⟩; have n0_ := aM (Kd.R_elder' (mR_ HO684.out) (Kd.R_base ho0) hb); have n1_ := aM (Kd.R_lower (Kd.R_new' ho0 (Kd.R_lt (mR_ HO684.out))) (below_size zb)); have n2_ := aM (below_step zb hb); clear HO684 HB; have HO684 := n0_; have HO688 := n1_; have HB := n2_; clear n0_ n1_ n2_; (try clear hb); (try clear hb2); (try clear hk); (try clear hi); (try clear ho0)) | ((with_reducible refine gate_callee (f := 18) rfl ?_); refine goesL_ (some 45) rfl rfl Try.func18 (by kernel_rfl) rfl #[.slice Ao14 t681.length co14, .int .i64 t682] rfl zm ?_; (with_reducible refine (spec_CubeForm.calls k _ _ t681 t682 t689 t690 _ ?side1 ?side2 A6.out).mono ?_); (case side1 => exact zc HO684.out); (case side2 => exact (Kd.R_reads' HO684.out).2.1); rintro e w16 ⟨v691, rfl, ho0, hb⟩; refine ⟨_, rfl, ?_⟩; have n0_ := aM (Kd.R_elder' (mR_ HO684.out) (Kd.R_base ho0) hb); have n1_ := aM (Kd.R_elder' (mR_ HO688.out) (Kd.R_base ho0) hb); have n2_ := aM (Kd.R_lower (Kd.R_new' (Kd.R_new' ho0 (Kd.R_lt (mR_ HO684.out))) (Kd.R_lt (mR_ HO688.out))) (below_size zb)); have n3_ := aM (below_step zb hb); clear HO684 HO688 HB; have HO684 := n0_; have HO688 := n1_; have HO692 := n2_; have HB := n3_; clear n0_ n1_ n2_ n3_; (try clear hb); (try clear hb2); (try clear hk); (try clear hi); (try clear ho0)) | ((with_reducible refine gate_callee (f := 19) rfl ?_); refine goesL_ (some 50) rfl rfl Try.func19 (by kernel_rfl) rfl #[.slice A0 l0.length c0] rfl zm ?_; (with_reducible refine (spec_DrawLeastForm.calls k _ _ l0 t693 t694 _ ?side1 ?side2 A7.out).mono ?_); (case side1 => repeat (first | exact (Kd.C_below HR0.out HB.out) | (with_reducible refine Kd.C_alloc ?_ _) | (with_reducible refine Kd.C_drewN ?_ _) | (with_reducible refine Kd.C_drew ?_))); (case side2 => exact HC0.out); rintro e w17 ⟨v695, rfl, ho0, hb⟩; refine ⟨_, rfl, ?_⟩; have n0_ := aM (Kd.R_elder' (mR_ HO684.out) (Kd.R_base ho0) hb); have n1_ := aM (Kd.R_elder' (mR_ HO688.out) (Kd.R_base ho0) hb); have n2_ := aM (Kd.R_elder' (mR_ HO692.out) (Kd.R_base ho0) hb); have n3_ := aM (Kd.R_lower (Kd.R_new' (Kd.R_new' (Kd.R_new' ho0 (Kd.R_lt (mR_ HO684.out))) (Kd.R_lt (mR_ HO688.out))) (Kd.R_lt (mR_ HO692.out))) (below_size zb)); have n4_ := aM (below_step zb hb); clear HO684 HO688 HO692 HB; have HO684 := n0_; have HO688 := n1_; have HO692 := n2_; have HO696 := n3_; have HB := n4_; clear n0_ n1_ n2_ n3_ n4_; (try clear hb); (try clear hb2); (try clear hk); (try clear hi); (try clear ho0); obtain ⟨Ao18, co18, eo18⟩ := Kd.R_slice HO696.out; subst eo18) | ((with_reducible refine gate_callee (f := 20) rfl ?_); refine goesL_ (some 56) rfl rfl Try.func20 (by kernel_rfl) rfl #[.slice Ao18 t693.length co18, .bool t694] rfl zm ?_; (with_reducible refine (impl_LeastForm.calls k _ _ t693 t694 t697 t698 _ ?side1 ?side2 A8.out).mono ?_); (case side1 => exact zc HO696.out); (case side2 => exact (Kd.R_reads' HO696.out).2.1); rintro e w19 ⟨v699, rfl, ho0, hb⟩; refine ⟨_, rfl, ?_⟩; have n0_ := aM (Kd.R_elder' (mR_ HO684.out) (Kd.R_base ho0) hb); have n1_ := aM (Kd.R_elder' (mR_ HO688.out) (Kd.R_base ho0) hb); have n2_ := aM (Kd.R_elder' (mR_ HO692.out) (Kd.R_base ho0) hb); have n3_ := aM (Kd.R_elder' (mR_ HO696.out) (Kd.R_base ho0) hb); have n4_ := aM (Kd.R_lower (Kd.R_new' (Kd.R_new' (Kd.R_new' (Kd.R_new' ho0 (Kd.R_lt (mR_ HO684.out))) (Kd.R_lt (mR_ HO688.out))) (Kd.R_lt (mR_ HO692.out))) (Kd.R_lt (mR_ HO696.out))) (below_size zb)); have n5_ := aM (below_step zb hb); clear HO684 HO688 HO692 HO696 HB; have HO684 := n0_; have HO688 := n1_; have HO692 := n2_; have HO696 := n3_; have HO700 := n4_; have HB := n5_; clear n0_ n1_ n2_ n3_ n4_ n5_; (try clear hb); (try clear hb2); (try clear hk); (try clear hi); (try clear ho0)) | ((with_reducible refine gate_callee (f := 21) rfl ?_); refine goesL_ (some 62) rfl rfl Try.func21 (by kernel_rfl) rfl #[.slice Ao18 t693.length co18, .bool t694] rfl zm ?_; (with_reducible refine (spec_LeastForm.calls k _ _ t693 t694 t701 t702 _ ?side1 ?side2 A9.out).mono ?_); (case side1 => exact zc HO696.out); (case side2 => exact (Kd.R_reads' HO696.out).2.1); rintro e w20 ⟨v703, rfl, ho0, hb⟩; refine ⟨_, rfl, ?_⟩; have n0_ := aM (Kd.R_elder' (mR_ HO684.out) (Kd.R_base ho0) hb); have n1_ := aM (Kd.R_elder' (mR_ HO688.out) (Kd.R_base ho0) hb); have n2_ := aM (Kd.R_elder' (mR_ HO692.out) (Kd.R_base ho0) hb); have n3_ := aM (Kd.R_elder' (mR_ HO696.out) (Kd.R_base ho0) hb); have n4_ := aM (Kd.R_elder' (mR_ HO700.out) (Kd.R_base ho0) hb); have n5_ := aM (Kd.R_lower (Kd.R_new' (Kd.R_new' (Kd.R_new' (Kd.R_new' (Kd.R_new' ho0 (Kd.R_lt (mR_ HO684.out))) (Kd.R_lt (mR_ HO688.out))) (Kd.R_lt (mR_ HO692.out))) (Kd.R_lt (mR_ HO696.out))) (Kd.R_lt (mR_ HO700.out))) (below_size zb)); have n6_ := aM (below_step zb hb); clear HO684 HO688 HO692 HO696 HO700 HB; have HO684 := n0_; have HO688 := n1_; have HO692 := n2_; have HO696 := n3_; have HO700 := n4_; have HO704 := n5_; have HB := n6_; clear n0_ n1_ n2_ n3_ n4_ n5_ n6_; (try clear hb); (try clear hb2); (try clear hk); (try clear hi); (try clear ho0)) | ((with_reducible refine gate_callee (f := 22) rfl ?_); refine goesL_ (some 67) rfl rfl Try.func22 (by kernel_rfl) rfl #[.slice Ao14 t681.length co14] rfl zm ?_; (with_reducible refine (impl_IsSolid.calls k _ _ t681 t705 t706 _ ?side1 ?side2 A10.out).mono ?_); (case side1 => exact zc HO684.out); (case side2 => exact (Kd.R_reads' HO684.out).2.1); rintro e w21 ⟨rfl, hb⟩; refine ⟨_, rfl, ?_⟩; have n0_ := aM (Kd.R_below (mR_ HO684.out) hb); have n1_ := aM (Kd.R_below (mR_ HO688.out) hb); have n2_ := aM (Kd.R_below (mR_ HO692.out) hb); have n3_ := aM (Kd.R_below (mR_ HO696.out) hb); have n4_ := aM (Kd.R_below (mR_ HO700.out) hb); have n5_ := aM (Kd.R_below (mR_ HO704.out) hb); have n6_ := aM (below_step zb hb); clear HO684 HO688 HO692 HO696 HO700 HO704 HB; have HO684 := n0_; have HO688 := n1_; have HO692 := n2_; have HO696 := n3_; have HO700 := n4_; have HO704 := n5_; have HB := n6_; clear n0_ n1_ n2_ n3_ n4_ n5_ n6_; (try clear hb); (try clear hb2); (try clear hk); (try clear hi)) | ((with_reducible refine gate_callee (f := 23) rfl ?_); refine goesL_ (some 72) rfl rfl Try.func23 (by kernel_rfl) rfl #[.slice Ao14 t681.length co14] rfl zm ?_; (with_reducible refine (spec_IsSolid.calls k _ _ t681 t707 t708 _ ?side1 ?side2 A11.out).mono ?_); (case side1 => exact zc HO684.out); (case side2 => exact (Kd.R_reads' HO684.out).2.1); rintro e w22 ⟨rfl, hb⟩; refine ⟨_, rfl, ?_⟩; have n0_ := aM (Kd.R_below (mR_ HO684.out) hb); have n1_ := aM (Kd.R_below (mR_ HO688.out) hb); have n2_ := aM (Kd.R_below (mR_ HO692.out) hb); have n3_ := aM (Kd.R_below (mR_ HO696.out) hb); have n4_ := aM (Kd.R_below (mR_ HO700.out) hb); have n5_ := aM (Kd.R_below (mR_ HO704.out) hb); have n6_ := aM (below_step zb hb); clear HO684 HO688 HO692 HO696 HO700 HO704 HB; have HO684 := n0_; have HO688 := n1_; have HO692 := n2_; have HO696 := n3_; have HO700 := n4_; have HO704 := n5_; have HB := n6_; clear n0_ n1_ n2_ n3_ n4_ n5_ n6_; (try clear hb); (try clear hb2); (try clear hk); (try clear hi)))
 (try simp only [Act.put, xA, xB, xC])
 go_cut [104] (fun v104 wc => ∃ (kq : Nat) (x104_11 : Bool), v104 = .bool x104_11 ∧ Aside0 (laws_FnSolids.j0 kq t681 t685 t686 t706 x104_11 = some r) ∧ Aside0 (kq ≤ k) ∧ Aside0 (Kd.R k63 63 wc w.heap.size (fun k_ => some k_ ≠ (v687 : Value).ownBlock) (.slice Ao14 t681.length co14) t681) ∧ Aside0 (Kd.R k63 63 wc w.heap.size (fun k_ => some k_ ≠ ((.slice Ao14 t681.length co14) : Value).ownBlock) v687 t685) ∧ Aside0 (Below w.heap.size w wc))
 case first =>
  have H := HC12.out
  clear HC12
  by_cases c23 : t686 = t690
  rotate_left
  ·rw [if_neg c23] at H
   have c23b0 : (t686 == t690) = false := beq_eq_false_iff_ne.mpr c23
   have c23b1 : (t686 != t690) = true := bne_iff_ne.mpr c23
   (first | rw [c23b0] | (simp only [i64_w, i32_w]; rw [c23b0]) | skip)
   have H' := aM H
   clear H
   go_wp2
   go_meet
   case rel => exact ⟨_, (true), zr, H', ⟨by first | omega | exact Nat.le_refl _⟩, ⟨zd7 HO684.out⟩, ⟨zd7 HO688.out⟩, ⟨zb⟩⟩
  rw [if_pos c23] at H
  have c23b0 : (t686 == t690) = true := beq_iff_eq.mpr c23
  have c23b1 : (t686 != t690) = false := bne_eq_false_iff_eq.mpr c23
  clear c23
  (first | rw [c23b0] | (simp only [i64_w, i32_w]; rw [c23b0]) | skip)
  replace H := Option.bind_eq_some_iff.mp H
  obtain ⟨t709, A240, H⟩ := H
  replace H : (if t709 = true then (if t698 = t702 then ((laws_likeCubes.f k t697 t701).bind fun t710 => (if t710 = true then (if (t705 != t707) = true then (laws_FnSolids.j0 k t681 t685 t686 t706 true) else (laws_FnSolids.j0 k t681 t685 t686 t706 (t706 != t708))) else (laws_FnSolids.j0 k t681 t685 t686 t706 true))) else (laws_FnSolids.j0 k t681 t685 t686 t706 true)) else (laws_FnSolids.j0 k t681 t685 t686 t706 true)) = some r := H
  have A24 := aM A240
  clear A240
  by_cases c25 : t709 = true
  rotate_left
  ·replace c25 := Bool.eq_false_iff.mpr c25
   subst c25
   have H1 : (laws_FnSolids.j0 k t681 t685 t686 t706 true) = some r := by rw [if_neg (show ¬ (false = true) by decide)] at H; exact H
   clear H
   have H := H1
   clear H1
   have H' := aM H
   clear H
   obtain ⟨Ao44, co44, eo44⟩ := Kd.R_slice HO688.out
   subst eo44
   obtain ⟨Ao45, co45, eo45⟩ := Kd.R_slice HO692.out
   subst eo45
   go_wp2_with (first | (go_at_call 24; (with_reducible refine (laws_likeCubes.calls k _ _ t685 _ _ t689 false _ ?side1 ?side2 ?side3 ?side4 A24.out).mono ?_); (case side1 => exact zc HO688.out); (case side2 => exact (Kd.R_reads' HO688.out).2.1); (case side3 => exact zc HO692.out); (case side4 => exact (Kd.R_reads' HO692.out).2.1); rintro e w' ⟨rfl, ⟨nd, rfl⟩⟩))
   go_meet
   case rel => exact ⟨_, (true), zr, H', ⟨by first | omega | exact Nat.le_refl _⟩, ⟨zd7 HO684.out⟩, ⟨zd7 HO688.out⟩, ⟨zb⟩⟩
  subst c25
  have H1 : (if t698 = t702 then ((laws_likeCubes.f k t697 t701).bind fun t710 => (if t710 = true then (if (t705 != t707) = true then (laws_FnSolids.j0 k t681 t685 t686 t706 true) else (laws_FnSolids.j0 k t681 t685 t686 t706 (t706 != t708))) else (laws_FnSolids.j0 k t681 t685 t686 t706 true))) else (laws_FnSolids.j0 k t681 t685 t686 t706 true)) = some r := by rw [if_pos rfl] at H; exact H
  clear H
  have H := H1
  clear H1
  by_cases c26 : t698 = t702
  rotate_left
  ·rw [if_neg c26] at H
   have c26b0 : (t698 == t702) = false := beq_eq_false_iff_ne.mpr c26
   have c26b1 : (t698 != t702) = true := bne_iff_ne.mpr c26
   have H' := aM H
   clear H
   obtain ⟨Ao42, co42, eo42⟩ := Kd.R_slice HO688.out
   subst eo42
   obtain ⟨Ao43, co43, eo43⟩ := Kd.R_slice HO692.out
   subst eo43
   go_wp2_with (first | (go_at_call 24; (with_reducible refine (laws_likeCubes.calls k _ _ t685 _ _ t689 true _ ?side1 ?side2 ?side3 ?side4 A24.out).mono ?_); (case side1 => exact zc HO688.out); (case side2 => exact (Kd.R_reads' HO688.out).2.1); (case side3 => exact zc HO692.out); (case side4 => exact (Kd.R_reads' HO692.out).2.1); rintro e w' ⟨rfl, ⟨nd, rfl⟩⟩))
   go_meet
   case rel => exact ⟨_, (true), zr, H', ⟨by first | omega | exact Nat.le_refl _⟩, ⟨zd7 HO684.out⟩, ⟨zd7 HO688.out⟩, ⟨zb⟩⟩
  rw [if_pos c26] at H
  have c26b0 : (t698 == t702) = true := beq_iff_eq.mpr c26
  have c26b1 : (t698 != t702) = false := bne_eq_false_iff_eq.mpr c26
  clear c26
  replace H := Option.bind_eq_some_iff.mp H
  obtain ⟨t710, A270, H⟩ := H
  replace H : (if t710 = true then (if (t705 != t707) = true then (laws_FnSolids.j0 k t681 t685 t686 t706 true) else (laws_FnSolids.j0 k t681 t685 t686 t706 (t706 != t708))) else (laws_FnSolids.j0 k t681 t685 t686 t706 true)) = some r := H
  have A27 := aM A270
  clear A270
  by_cases c28 : t710 = true
  rotate_left
  ·replace c28 := Bool.eq_false_iff.mpr c28
   subst c28
   have H1 : (laws_FnSolids.j0 k t681 t685 t686 t706 true) = some r := by rw [if_neg (show ¬ (false = true) by decide)] at H; exact H
   clear H
   have H := H1
   clear H1
   have H' := aM H
   clear H
   obtain ⟨Ao38, co38, eo38⟩ := Kd.R_slice HO688.out
   subst eo38
   obtain ⟨Ao39, co39, eo39⟩ := Kd.R_slice HO692.out
   subst eo39
   go_wp2_with (first | (go_at_call 24; (with_reducible refine (laws_likeCubes.calls k _ _ t685 _ _ t689 true _ ?side1 ?side2 ?side3 ?side4 A24.out).mono ?_); (case side1 => exact zc HO688.out); (case side2 => exact (Kd.R_reads' HO688.out).2.1); (case side3 => exact zc HO692.out); (case side4 => exact (Kd.R_reads' HO692.out).2.1); rintro e w' ⟨rfl, ⟨nd, rfl⟩⟩; obtain ⟨Ao40, co40, eo40⟩ := Kd.R_slice HO700.out; subst eo40; obtain ⟨Ao41, co41, eo41⟩ := Kd.R_slice HO704.out; subst eo41) | (go_at_call 24; (with_reducible refine (laws_likeCubes.calls k _ _ t697 _ _ t701 false _ ?side1 ?side2 ?side3 ?side4 A27.out).mono ?_); (case side1 => exact zc HO700.out); (case side2 => exact (Kd.R_reads' HO700.out).2.1); (case side3 => exact zc HO704.out); (case side4 => exact (Kd.R_reads' HO704.out).2.1); rintro e w' ⟨rfl, ⟨nd, rfl⟩⟩))
   go_meet
   case rel => exact ⟨_, (true), zr, H', ⟨by first | omega | exact Nat.le_refl _⟩, ⟨zd7 HO684.out⟩, ⟨zd7 HO688.out⟩, ⟨zb⟩⟩
  subst c28
  have H1 : (if (t705 != t707) = true then (laws_FnSolids.j0 k t681 t685 t686 t706 true) else (laws_FnSolids.j0 k t681 t685 t686 t706 (t706 != t708))) = some r := by rw [if_pos rfl] at H; exact H
  clear H
  have H := H1
  clear H1
  by_cases c29 : (t705 != t707) = true
  rotate_left
  ·rw [if_neg c29] at H
   have c29b0 : (t705 != t707) = false := by simpa using c29
   (try (have c29b1 : decide (t705 = t707) = true := by simpa using c29))
   (try (have c29b2 : (t705 == t707) = true := by simpa using c29))
   clear c29
   have H' := aM H
   clear H
   obtain ⟨Ao34, co34, eo34⟩ := Kd.R_slice HO688.out
   subst eo34
   obtain ⟨Ao35, co35, eo35⟩ := Kd.R_slice HO692.out
   subst eo35
   go_wp2_with (first | (go_at_call 24; (with_reducible refine (laws_likeCubes.calls k _ _ t685 _ _ t689 true _ ?side1 ?side2 ?side3 ?side4 A24.out).mono ?_); (case side1 => exact zc HO688.out); (case side2 => exact (Kd.R_reads' HO688.out).2.1); (case side3 => exact zc HO692.out); (case side4 => exact (Kd.R_reads' HO692.out).2.1); rintro e w' ⟨rfl, ⟨nd, rfl⟩⟩; obtain ⟨Ao36, co36, eo36⟩ := Kd.R_slice HO700.out; subst eo36; obtain ⟨Ao37, co37, eo37⟩ := Kd.R_slice HO704.out; subst eo37) | (go_at_call 24; (with_reducible refine (laws_likeCubes.calls k _ _ t697 _ _ t701 true _ ?side1 ?side2 ?side3 ?side4 A27.out).mono ?_); (case side1 => exact zc HO700.out); (case side2 => exact (Kd.R_reads' HO700.out).2.1); (case side3 => exact zc HO704.out); (case side4 => exact (Kd.R_reads' HO704.out).2.1); rintro e w' ⟨rfl, ⟨nd, rfl⟩⟩))
   go_meet
   case rel => exact ⟨_, ((t706 != t708)), zr, H', ⟨by first | omega | exact Nat.le_refl _⟩, ⟨zd7 HO684.out⟩, ⟨zd7 HO688.out⟩, ⟨zb⟩⟩
  rw [if_pos c29] at H
  have c29b0 : (t705 != t707) = true := c29
  (try (have c29b1 : decide (t705 = t707) = false := by simpa using c29))
  (try (have c29b2 : (t705 == t707) = false := by simpa using c29))
  (try (have c29b3 : ¬ (t705 = t707) := by simpa using c29))
  clear c29
  have H' := aM H
  clear H
  obtain ⟨Ao30, co30, eo30⟩ := Kd.R_slice HO688.out
  subst eo30
  obtain ⟨Ao31, co31, eo31⟩ := Kd.R_slice HO692.out
  subst eo31
  go_wp2_with (first | (go_at_call 24; (with_reducible refine (laws_likeCubes.calls k _ _ t685 _ _ t689 true _ ?side1 ?side2 ?side3 ?side4 A24.out).mono ?_); (case side1 => exact zc HO688.out); (case side2 => exact (Kd.R_reads' HO688.out).2.1); (case side3 => exact zc HO692.out); (case side4 => exact (Kd.R_reads' HO692.out).2.1); rintro e w' ⟨rfl, ⟨nd, rfl⟩⟩; obtain ⟨Ao32, co32, eo32⟩ := Kd.R_slice HO700.out; subst eo32; obtain ⟨Ao33, co33, eo33⟩ := Kd.R_slice HO704.out; subst eo33) | (go_at_call 24; (with_reducible refine (laws_likeCubes.calls k _ _ t697 _ _ t701 true _ ?side1 ?side2 ?side3 ?side4 A27.out).mono ?_); (case side1 => exact zc HO700.out); (case side2 => exact (Kd.R_reads' HO700.out).2.1); (case side3 => exact zc HO704.out); (case side4 => exact (Kd.R_reads' HO704.out).2.1); rintro e w' ⟨rfl, ⟨nd, rfl⟩⟩))
  go_meet
  case rel => exact ⟨_, (true), zr, H', ⟨by first | omega | exact Nat.le_refl _⟩, ⟨zd7 HO684.out⟩, ⟨zd7 HO688.out⟩, ⟨zb⟩⟩
 case rest =>
  clear HC12
  try clear c1
  try clear c2
  try clear p2
  try clear c3
  try clear c6
  try clear c9
  try clear c16
  try clear c17
  try clear c18
  try clear c19
  try clear c20
  try clear c21
  try clear c22
  try clear c23
  try clear c23b0
  try clear c23b1
  try clear c25
  try clear c26
  try clear c26b0
  try clear c26b1
  try clear c28
  try clear c29
  try clear c29b0
  try clear c29b1
  try clear c29b2
  obtain ⟨kq, x104_11, rfl, HA, HJ11, HO_3, HO_5, HB⟩ := hcut
  cases kq with
  | zero => exact absurd HA.out (by simp [laws_FnSolids.j0])
  | succ kj11 =>
   have H := HA.out
   clear HA
   simp only [laws_FnSolids.j0] at H
   by_cases c46 : x104_11 = true
   ·subst c46
    have H1 : (some false) = some r := by rw [if_pos rfl] at H; exact H
    clear H
    have H := H1
    clear H1
    obtain rfl := Option.some.inj H
    go_wp2
    go_ret
    exact ⟨zw, zb⟩
   replace c46 := Bool.eq_false_iff.mpr c46
   subst c46
   have H1 : (if t686 = 0 then ((impl_LeastForm.f kj11 t681 true).bind fun bt711 => ((impl_LeastForm.f kj11 t685 true).bind fun bt715 => ((impl_IsSolid.f kj11 t685).bind fun bt719 => ((impl_FaceCount.f kj11 t681).bind fun bt721 => ((impl_FaceCount.f kj11 t685).bind fun bt723 => (if bt711.2 = 0 then (if bt715.2 = 0 then (if bt721.2 = 0 then (if bt723.2 = 0 then ((laws_likeCubes.f kj11 bt711.1 bt715.1).bind fun t725 => (if t725 = true then (if bt719.1 = true then (if (bt719.2 == t706) = true then (some (bt721.1 == bt723.1)) else (some false)) else (some false)) else (some false))) else (some false)) else (some false)) else (some false)) else (some false))))))) else (some true)) = some r := by rw [if_neg (show ¬ (false = true) by decide)] at H; exact H
   clear H
   have H := H1
   clear H1
   by_cases c47 : t686 = 0
   rotate_left
   ·rw [if_neg c47] at H
    have c47b0 : (t686 == 0) = false := beq_eq_false_iff_ne.mpr c47
    have c47b1 : (t686 != 0) = true := bne_iff_ne.mpr c47
    obtain rfl := Option.some.inj H
    go_wp2
    go_ret
    exact ⟨zw, zb⟩
   rw [if_pos c47] at H
   have c47b0 : (t686 == 0) = true := beq_iff_eq.mpr c47
   have c47b1 : (t686 != 0) = false := bne_eq_false_iff_eq.mpr c47
   clear c47
   replace H := Option.bind_eq_some_iff.mp H
   obtain ⟨⟨t711, t712⟩, A480, H⟩ := H
   replace H : ((impl_LeastForm.f kj11 t685 true).bind fun bt715 => ((impl_IsSolid.f kj11 t685).bind fun bt719 => ((impl_FaceCount.f kj11 t681).bind fun bt721 => ((impl_FaceCount.f kj11 t685).bind fun bt723 => (if t712 = 0 then (if bt715.2 = 0 then (if bt721.2 = 0 then (if bt723.2 = 0 then ((laws_likeCubes.f kj11 t711 bt715.1).bind fun t725 => (if t725 = true then (if bt719.1 = true then (if (bt719.2 == t706) = true then (some (bt721.1 == bt723.1)) else (some false)) else (some false)) else (some false))) else (some false)) else (some false)) else (some false)) else (some false)))))) = some r := H
   have A48 := aM A480
   clear A480
   replace H := Option.bind_eq_some_iff.mp H
   obtain ⟨⟨t715, t716⟩, A490, H⟩ := H
   replace H : ((impl_IsSolid.f kj11 t685).bind fun bt719 => ((impl_FaceCount.f kj11 t681).bind fun bt721 => ((impl_FaceCount.f kj11 t685).bind fun bt723 => (if t712 = 0 then (if t716 = 0 then (if bt721.2 = 0 then (if bt723.2 = 0 then ((laws_likeCubes.f kj11 t711 t715).bind fun t725 => (if t725 = true then (if bt719.1 = true then (if (bt719.2 == t706) = true then (some (bt721.1 == bt723.1)) else (some false)) else (some false)) else (some false))) else (some false)) else (some false)) else (some false)) else (some false))))) = some r := H
   have A49 := aM A490
   clear A490
   replace H := Option.bind_eq_some_iff.mp H
   obtain ⟨⟨t719, t720⟩, A500, H⟩ := H
   replace H : ((impl_FaceCount.f kj11 t681).bind fun bt721 => ((impl_FaceCount.f kj11 t685).bind fun bt723 => (if t712 = 0 then (if t716 = 0 then (if bt721.2 = 0 then (if bt723.2 = 0 then ((laws_likeCubes.f kj11 t711 t715).bind fun t725 => (if t725 = true then (if t719 = true then (if (t720 == t706) = true then (some (bt721.1 == bt723.1)) else (some false)) else (some false)) else (some false))) else (some false)) else (some false)) else (some false)) else (some false)))) = some r := H
   have A50 := aM A500
   clear A500
   replace H := Option.bind_eq_some_iff.mp H
   obtain ⟨⟨t721, t722⟩, A510, H⟩ := H
   replace H : ((impl_FaceCount.f kj11 t685).bind fun bt723 => (if t712 = 0 then (if t716 = 0 then (if t722 = 0 then (if bt723.2 = 0 then ((laws_likeCubes.f kj11 t711 t715).bind fun t725 => (if t725 = true then (if t719 = true then (if (t720 == t706) = true then (some (t721 == bt723.1)) else (some false)) else (some false)) else (some false))) else (some false)) else (some false)) else (some false)) else (some false))) = some r := H
   have A51 := aM A510
   clear A510
   replace H := Option.bind_eq_some_iff.mp H
   obtain ⟨⟨t723, t724⟩, A520, H⟩ := H
   replace H : (if t712 = 0 then (if t716 = 0 then (if t722 = 0 then (if t724 = 0 then ((laws_likeCubes.f kj11 t711 t715).bind fun t725 => (if t725 = true then (if t719 = true then (if (t720 == t706) = true then (some (t721 == t723)) else (some false)) else (some false)) else (some false))) else (some false)) else (some false)) else (some false)) else (some false)) = some r := H
   have A52 := aM A520
   clear A520
   by_cases c53 : t712 = 0
   rotate_left
   ·rw [if_neg c53] at H
    have c53b0 : (t712 == 0) = false := beq_eq_false_iff_ne.mpr c53
    have c53b1 : (t712 != 0) = true := bne_iff_ne.mpr c53
    obtain rfl := Option.some.inj H
    go_wp2_with (first | ((with_reducible refine gate_callee (f := 20) rfl ?_); refine goesL_ (some 109) rfl rfl Try.func20 (by kernel_rfl) rfl #[.slice Ao14 t681.length co14, .bool true] rfl zm ?_; (with_reducible refine (impl_LeastForm.calls kj11 _ _ t681 true t711 t712 _ ?side1 ?side2 A48.out).mono ?_); (case side1 => exact zc HO_3.out); (case side2 => exact (Kd.R_reads' HO_3.out).2.1); rintro e w111 ⟨v713, rfl, ho0, hb⟩; refine ⟨_, rfl, ?_⟩; have n0_ := aM (Kd.R_elder' (mR_ HO_3.out) (Kd.R_base ho0) hb); have n1_ := aM (Kd.R_elder' (mR_ HO_5.out) (Kd.R_base ho0) hb); have n2_ := aM (Kd.R_lower (Kd.R_new' (Kd.R_new' ho0 (Kd.R_lt (mR_ HO_3.out))) (Kd.R_lt (mR_ HO_5.out))) (below_size zb)); have n3_ := aM (below_step zb hb); clear HO_3 HO_5 HB; have HO_3 := n0_; have HO_5 := n1_; have HO714 := n2_; have HB := n3_; clear n0_ n1_ n2_ n3_; (try clear hb); (try clear hb2); (try clear hk); (try clear hi); (try clear ho0); obtain ⟨Ao112, co112, eo112⟩ := Kd.R_slice HO_5.out; subst eo112) | ((with_reducible refine gate_callee (f := 20) rfl ?_); refine goesL_ (some 114) rfl rfl Try.func20 (by kernel_rfl) rfl #[.slice Ao112 t685.length co112, .bool true] rfl zm ?_; (with_reducible refine (impl_LeastForm.calls kj11 _ _ t685 true t715 t716 _ ?side1 ?side2 A49.out).mono ?_); (case side1 => exact zc HO_5.out); (case side2 => exact (Kd.R_reads' HO_5.out).2.1); rintro e w113 ⟨v717, rfl, ho0, hb⟩; refine ⟨_, rfl, ?_⟩; have n0_ := aM (Kd.R_elder' (mR_ HO_3.out) (Kd.R_base ho0) hb); have n1_ := aM (Kd.R_elder' (mR_ HO_5.out) (Kd.R_base ho0) hb); have n2_ := aM (Kd.R_elder' (mR_ HO714.out) (Kd.R_base ho0) hb); have n3_ := aM (Kd.R_lower (Kd.R_new' (Kd.R_new' (Kd.R_new' ho0 (Kd.R_lt (mR_ HO_3.out))) (Kd.R_lt (mR_ HO_5.out))) (Kd.R_lt (mR_ HO714.out))) (below_size zb)); have n4_ := aM (below_step zb hb); clear HO_3 HO_5 HO714 HB; have HO_3 := n0_; have HO_5 := n1_; have HO714 := n2_; have HO718 := n3_; have HB := n4_; clear n0_ n1_ n2_ n3_ n4_; (try clear hb); (try clear hb2); (try clear hk); (try clear hi); (try clear ho0)) | ((with_reducible refine gate_callee (f := 22) rfl ?_); refine goesL_ (some 119) rfl rfl Try.func22 (by kernel_rfl) rfl #[.slice Ao112 t685.length co112] rfl zm ?_; (with_reducible refine (impl_IsSolid.calls kj11 _ _ t685 t719 t720 _ ?side1 ?side2 A50.out).mono ?_); (case side1 => exact zc HO_5.out); (case side2 => exact (Kd.R_reads' HO_5.out).2.1); rintro e w114 ⟨rfl, hb⟩; refine ⟨_, rfl, ?_⟩; have n0_ := aM (Kd.R_below (mR_ HO_3.out) hb); have n1_ := aM (Kd.R_below (mR_ HO_5.out) hb); have n2_ := aM (Kd.R_below (mR_ HO714.out) hb); have n3_ := aM (Kd.R_below (mR_ HO718.out) hb); have n4_ := aM (below_step zb hb); clear HO_3 HO_5 HO714 HO718 HB; have HO_3 := n0_; have HO_5 := n1_; have HO714 := n2_; have HO718 := n3_; have HB := n4_; clear n0_ n1_ n2_ n3_ n4_; (try clear hb); (try clear hb2); (try clear hk); (try clear hi)) | ((with_reducible refine gate_callee (f := 25) rfl ?_); refine goesL_ (some 124) rfl rfl Try.func25 (by kernel_rfl) rfl #[.slice Ao14 t681.length co14] rfl zm ?_; (with_reducible refine (impl_FaceCount.calls kj11 _ _ t681 t721 t722 _ ?side1 ?side2 A51.out).mono ?_); (case side1 => exact zc HO_3.out); (case side2 => exact (Kd.R_reads' HO_3.out).2.1); rintro e w115 ⟨rfl, hb⟩; refine ⟨_, rfl, ?_⟩; have n0_ := aM (Kd.R_below (mR_ HO_3.out) hb); have n1_ := aM (Kd.R_below (mR_ HO_5.out) hb); have n2_ := aM (Kd.R_below (mR_ HO714.out) hb); have n3_ := aM (Kd.R_below (mR_ HO718.out) hb); have n4_ := aM (below_step zb hb); clear HO_3 HO_5 HO714 HO718 HB; have HO_3 := n0_; have HO_5 := n1_; have HO714 := n2_; have HO718 := n3_; have HB := n4_; clear n0_ n1_ n2_ n3_ n4_; (try clear hb); (try clear hb2); (try clear hk); (try clear hi)) | ((with_reducible refine gate_callee (f := 25) rfl ?_); refine goesL_ (some 129) rfl rfl Try.func25 (by kernel_rfl) rfl #[.slice Ao112 t685.length co112] rfl zm ?_; (with_reducible refine (impl_FaceCount.calls kj11 _ _ t685 t723 t724 _ ?side1 ?side2 A52.out).mono ?_); (case side1 => exact zc HO_5.out); (case side2 => exact (Kd.R_reads' HO_5.out).2.1); rintro e w116 ⟨rfl, hb⟩; refine ⟨_, rfl, ?_⟩; have n0_ := aM (Kd.R_below (mR_ HO_3.out) hb); have n1_ := aM (Kd.R_below (mR_ HO_5.out) hb); have n2_ := aM (Kd.R_below (mR_ HO714.out) hb); have n3_ := aM (Kd.R_below (mR_ HO718.out) hb); have n4_ := aM (below_step zb hb); clear HO_3 HO_5 HO714 HO718 HB; have HO_3 := n0_; have HO_5 := n1_; have HO714 := n2_; have HO718 := n3_; have HB := n4_; clear n0_ n1_ n2_ n3_ n4_; (try clear hb); (try clear hb2); (try clear hk); (try clear hi)))
    go_ret
    exact ⟨zw, zb⟩
   rw [if_pos c53] at H
   have c53b0 : (t712 == 0) = true := beq_iff_eq.mpr c53
   have c53b1 : (t712 != 0) = false := bne_eq_false_iff_eq.mpr c53
   clear c53
   by_cases c54 : t716 = 0
   rotate_left
   ·rw [if_neg c54] at H
    have c54b0 : (t716 == 0) = false := beq_eq_false_iff_ne.mpr c54
    have c54b1 : (t716 != 0) = true := bne_iff_ne.mpr c54
    obtain rfl := Option.some.inj H
    go_wp2_with (first | ((with_reducible refine gate_callee (f := 20) rfl ?_); refine goesL_ (some 109) rfl rfl Try.func20 (by kernel_rfl) rfl #[.slice Ao14 t681.length co14, .bool true] rfl zm ?_; (with_reducible refine (impl_LeastForm.calls kj11 _ _ t681 true t711 t712 _ ?side1 ?side2 A48.out).mono ?_); (case side1 => exact zc HO_3.out); (case side2 => exact (Kd.R_reads' HO_3.out).2.1); rintro e w105 ⟨v713, rfl, ho0, hb⟩; refine ⟨_, rfl, ?_⟩; have n0_ := aM (Kd.R_elder' (mR_ HO_3.out) (Kd.R_base ho0) hb); have n1_ := aM (Kd.R_elder' (mR_ HO_5.out) (Kd.R_base ho0) hb); have n2_ := aM (Kd.R_lower (Kd.R_new' (Kd.R_new' ho0 (Kd.R_lt (mR_ HO_3.out))) (Kd.R_lt (mR_ HO_5.out))) (below_size zb)); have n3_ := aM (below_step zb hb); clear HO_3 HO_5 HB; have HO_3 := n0_; have HO_5 := n1_; have HO714 := n2_; have HB := n3_; clear n0_ n1_ n2_ n3_; (try clear hb); (try clear hb2); (try clear hk); (try clear hi); (try clear ho0); obtain ⟨Ao106, co106, eo106⟩ := Kd.R_slice HO_5.out; subst eo106) | ((with_reducible refine gate_callee (f := 20) rfl ?_); refine goesL_ (some 114) rfl rfl Try.func20 (by kernel_rfl) rfl #[.slice Ao106 t685.length co106, .bool true] rfl zm ?_; (with_reducible refine (impl_LeastForm.calls kj11 _ _ t685 true t715 t716 _ ?side1 ?side2 A49.out).mono ?_); (case side1 => exact zc HO_5.out); (case side2 => exact (Kd.R_reads' HO_5.out).2.1); rintro e w107 ⟨v717, rfl, ho0, hb⟩; refine ⟨_, rfl, ?_⟩; have n0_ := aM (Kd.R_elder' (mR_ HO_3.out) (Kd.R_base ho0) hb); have n1_ := aM (Kd.R_elder' (mR_ HO_5.out) (Kd.R_base ho0) hb); have n2_ := aM (Kd.R_elder' (mR_ HO714.out) (Kd.R_base ho0) hb); have n3_ := aM (Kd.R_lower (Kd.R_new' (Kd.R_new' (Kd.R_new' ho0 (Kd.R_lt (mR_ HO_3.out))) (Kd.R_lt (mR_ HO_5.out))) (Kd.R_lt (mR_ HO714.out))) (below_size zb)); have n4_ := aM (below_step zb hb); clear HO_3 HO_5 HO714 HB; have HO_3 := n0_; have HO_5 := n1_; have HO714 := n2_; have HO718 := n3_; have HB := n4_; clear n0_ n1_ n2_ n3_ n4_; (try clear hb); (try clear hb2); (try clear hk); (try clear hi); (try clear ho0)) | ((with_reducible refine gate_callee (f := 22) rfl ?_); refine goesL_ (some 119) rfl rfl Try.func22 (by kernel_rfl) rfl #[.slice Ao106 t685.length co106] rfl zm ?_; (with_reducible refine (impl_IsSolid.calls kj11 _ _ t685 t719 t720 _ ?side1 ?side2 A50.out).mono ?_); (case side1 => exact zc HO_5.out); (case side2 => exact (Kd.R_reads' HO_5.out).2.1); rintro e w108 ⟨rfl, hb⟩; refine ⟨_, rfl, ?_⟩; have n0_ := aM (Kd.R_below (mR_ HO_3.out) hb); have n1_ := aM (Kd.R_below (mR_ HO_5.out) hb); have n2_ := aM (Kd.R_below (mR_ HO714.out) hb); have n3_ := aM (Kd.R_below (mR_ HO718.out) hb); have n4_ := aM (below_step zb hb); clear HO_3 HO_5 HO714 HO718 HB; have HO_3 := n0_; have HO_5 := n1_; have HO714 := n2_; have HO718 := n3_; have HB := n4_; clear n0_ n1_ n2_ n3_ n4_; (try clear hb); (try clear hb2); (try clear hk); (try clear hi)) | ((with_reducible refine gate_callee (f := 25) rfl ?_); refine goesL_ (some 124) rfl rfl Try.func25 (by kernel_rfl) rfl #[.slice Ao14 t681.length co14] rfl zm ?_; (with_reducible refine (impl_FaceCount.calls kj11 _ _ t681 t721 t722 _ ?side1 ?side2 A51.out).mono ?_); (case side1 => exact zc HO_3.out); (case side2 => exact (Kd.R_reads' HO_3.out).2.1); rintro e w109 ⟨rfl, hb⟩; refine ⟨_, rfl, ?_⟩; have n0_ := aM (Kd.R_below (mR_ HO_3.out) hb); have n1_ := aM (Kd.R_below (mR_ HO_5.out) hb); have n2_ := aM (Kd.R_below (mR_ HO714.out) hb); have n3_ := aM (Kd.R_below (mR_ HO718.out) hb); have n4_ := aM (below_step zb hb); clear HO_3 HO_5 HO714 HO718 HB; have HO_3 := n0_; have HO_5 := n1_; have HO714 := n2_; have HO718 := n3_; have HB := n4_; clear n0_ n1_ n2_ n3_ n4_; (try clear hb); (try clear hb2); (try clear hk); (try clear hi)) | ((with_reducible refine gate_callee (f := 25) rfl ?_); refine goesL_ (some 129) rfl rfl Try.func25 (by kernel_rfl) rfl #[.slice Ao106 t685.length co106] rfl zm ?_; (with_reducible refine (impl_FaceCount.calls kj11 _ _ t685 t723 t724 _ ?side1 ?side2 A52.out).mono ?_); (case side1 => exact zc HO_5.out); (case side2 => exact (Kd.R_reads' HO_5.out).2.1); rintro e w110 ⟨rfl, hb⟩; refine ⟨_, rfl, ?_⟩; have n0_ := aM (Kd.R_below (mR_ HO_3.out) hb); have n1_ := aM (Kd.R_below (mR_ HO_5.out) hb); have n2_ := aM (Kd.R_below (mR_ HO714.out) hb); have n3_ := aM (Kd.R_below (mR_ HO718.out) hb); have n4_ := aM (below_step zb hb); clear HO_3 HO_5 HO714 HO718 HB; have HO_3 := n0_; have HO_5 := n1_; have HO714 := n2_; have HO718 := n3_; have HB := n4_; clear n0_ n1_ n2_ n3_ n4_; (try clear hb); (try clear hb2); (try clear hk); (try clear hi)))
    go_ret
    exact ⟨zw, zb⟩
   rw [if_pos c54] at H
   have c54b0 : (t716 == 0) = true := beq_iff_eq.mpr c54
   have c54b1 : (t716 != 0) = false := bne_eq_false_iff_eq.mpr c54
   clear c54
   by_cases c55 : t722 = 0
   rotate_left
   ·rw [if_neg c55] at H
    have c55b0 : (t722 == 0) = false := beq_eq_false_iff_ne.mpr c55
    have c55b1 : (t722 != 0) = true := bne_iff_ne.mpr c55
    obtain rfl := Option.some.inj H
    go_wp2_with (first | ((with_reducible refine gate_callee (f := 20) rfl ?_); refine goesL_ (some 109) rfl rfl Try.func20 (by kernel_rfl) rfl #[.slice Ao14 t681.length co14, .bool true] rfl zm ?_; (with_reducible refine (impl_LeastForm.calls kj11 _ _ t681 true t711 t712 _ ?side1 ?side2 A48.out).mono ?_); (case side1 => exact zc HO_3.out); (case side2 => exact (Kd.R_reads' HO_3.out).2.1); rintro e w99 ⟨v713, rfl, ho0, hb⟩; refine ⟨_, rfl, ?_⟩; have n0_ := aM (Kd.R_elder' (mR_ HO_3.out) (Kd.R_base ho0) hb); have n1_ := aM (Kd.R_elder' (mR_ HO_5.out) (Kd.R_base ho0) hb); have n2_ := aM (Kd.R_lower (Kd.R_new' (Kd.R_new' ho0 (Kd.R_lt (mR_ HO_3.out))) (Kd.R_lt (mR_ HO_5.out))) (below_size zb)); have n3_ := aM (below_step zb hb); clear HO_3 HO_5 HB; have HO_3 := n0_; have HO_5 := n1_; have HO714 := n2_; have HB := n3_; clear n0_ n1_ n2_ n3_; (try clear hb); (try clear hb2); (try clear hk); (try clear hi); (try clear ho0); obtain ⟨Ao100, co100, eo100⟩ := Kd.R_slice HO_5.out; subst eo100) | ((with_reducible refine gate_callee (f := 20) rfl ?_); refine goesL_ (some 114) rfl rfl Try.func20 (by kernel_rfl) rfl #[.slice Ao100 t685.length co100, .bool true] rfl zm ?_; (with_reducible refine (impl_LeastForm.calls kj11 _ _ t685 true t715 t716 _ ?side1 ?side2 A49.out).mono ?_); (case side1 => exact zc HO_5.out); (case side2 => exact (Kd.R_reads' HO_5.out).2.1); rintro e w101 ⟨v717, rfl, ho0, hb⟩; refine ⟨_, rfl, ?_⟩; have n0_ := aM (Kd.R_elder' (mR_ HO_3.out) (Kd.R_base ho0) hb); have n1_ := aM (Kd.R_elder' (mR_ HO_5.out) (Kd.R_base ho0) hb); have n2_ := aM (Kd.R_elder' (mR_ HO714.out) (Kd.R_base ho0) hb); have n3_ := aM (Kd.R_lower (Kd.R_new' (Kd.R_new' (Kd.R_new' ho0 (Kd.R_lt (mR_ HO_3.out))) (Kd.R_lt (mR_ HO_5.out))) (Kd.R_lt (mR_ HO714.out))) (below_size zb)); have n4_ := aM (below_step zb hb); clear HO_3 HO_5 HO714 HB; have HO_3 := n0_; have HO_5 := n1_; have HO714 := n2_; have HO718 := n3_; have HB := n4_; clear n0_ n1_ n2_ n3_ n4_; (try clear hb); (try clear hb2); (try clear hk); (try clear hi); (try clear ho0)) | ((with_reducible refine gate_callee (f := 22) rfl ?_); refine goesL_ (some 119) rfl rfl Try.func22 (by kernel_rfl) rfl #[.slice Ao100 t685.length co100] rfl zm ?_; (with_reducible refine (impl_IsSolid.calls kj11 _ _ t685 t719 t720 _ ?side1 ?side2 A50.out).mono ?_); (case side1 => exact zc HO_5.out); (case side2 => exact (Kd.R_reads' HO_5.out).2.1); rintro e w102 ⟨rfl, hb⟩; refine ⟨_, rfl, ?_⟩; have n0_ := aM (Kd.R_below (mR_ HO_3.out) hb); have n1_ := aM (Kd.R_below (mR_ HO_5.out) hb); have n2_ := aM (Kd.R_below (mR_ HO714.out) hb); have n3_ := aM (Kd.R_below (mR_ HO718.out) hb); have n4_ := aM (below_step zb hb); clear HO_3 HO_5 HO714 HO718 HB; have HO_3 := n0_; have HO_5 := n1_; have HO714 := n2_; have HO718 := n3_; have HB := n4_; clear n0_ n1_ n2_ n3_ n4_; (try clear hb); (try clear hb2); (try clear hk); (try clear hi)) | ((with_reducible refine gate_callee (f := 25) rfl ?_); refine goesL_ (some 124) rfl rfl Try.func25 (by kernel_rfl) rfl #[.slice Ao14 t681.length co14] rfl zm ?_; (with_reducible refine (impl_FaceCount.calls kj11 _ _ t681 t721 t722 _ ?side1 ?side2 A51.out).mono ?_); (case side1 => exact zc HO_3.out); (case side2 => exact (Kd.R_reads' HO_3.out).2.1); rintro e w103 ⟨rfl, hb⟩; refine ⟨_, rfl, ?_⟩; have n0_ := aM (Kd.R_below (mR_ HO_3.out) hb); have n1_ := aM (Kd.R_below (mR_ HO_5.out) hb); have n2_ := aM (Kd.R_below (mR_ HO714.out) hb); have n3_ := aM (Kd.R_below (mR_ HO718.out) hb); have n4_ := aM (below_step zb hb); clear HO_3 HO_5 HO714 HO718 HB; have HO_3 := n0_; have HO_5 := n1_; have HO714 := n2_; have HO718 := n3_; have HB := n4_; clear n0_ n1_ n2_ n3_ n4_; (try clear hb); (try clear hb2); (try clear hk); (try clear hi)) | ((with_reducible refine gate_callee (f := 25) rfl ?_); refine goesL_ (some 129) rfl rfl Try.func25 (by kernel_rfl) rfl #[.slice Ao100 t685.length co100] rfl zm ?_; (with_reducible refine (impl_FaceCount.calls kj11 _ _ t685 t723 t724 _ ?side1 ?side2 A52.out).mono ?_); (case side1 => exact zc HO_5.out); (case side2 => exact (Kd.R_reads' HO_5.out).2.1); rintro e w104 ⟨rfl, hb⟩; refine ⟨_, rfl, ?_⟩; have n0_ := aM (Kd.R_below (mR_ HO_3.out) hb); have n1_ := aM (Kd.R_below (mR_ HO_5.out) hb); have n2_ := aM (Kd.R_below (mR_ HO714.out) hb); have n3_ := aM (Kd.R_below (mR_ HO718.out) hb); have n4_ := aM (below_step zb hb); clear HO_3 HO_5 HO714 HO718 HB; have HO_3 := n0_; have HO_5 := n1_; have HO714 := n2_; have HO718 := n3_; have HB := n4_; clear n0_ n1_ n2_ n3_ n4_; (try clear hb); (try clear hb2); (try clear hk); (try clear hi)))
    go_ret
    exact ⟨zw, zb⟩
   rw [if_pos c55] at H
   have c55b0 : (t722 == 0) = true := beq_iff_eq.mpr c55
   have c55b1 : (t722 != 0) = false := bne_eq_false_iff_eq.mpr c55
   clear c55
   by_cases c56 : t724 = 0
   rotate_left
   ·rw [if_neg c56] at H
    have c56b0 : (t724 == 0) = false := beq_eq_false_iff_ne.mpr c56
    have c56b1 : (t724 != 0) = true := bne_iff_ne.mpr c56
    obtain rfl := Option.some.inj H
    go_wp2_with (first | ((with_reducible refine gate_callee (f := 20) rfl ?_); refine goesL_ (some 109) rfl rfl Try.func20 (by kernel_rfl) rfl #[.slice Ao14 t681.length co14, .bool true] rfl zm ?_; (with_reducible refine (impl_LeastForm.calls kj11 _ _ t681 true t711 t712 _ ?side1 ?side2 A48.out).mono ?_); (case side1 => exact zc HO_3.out); (case side2 => exact (Kd.R_reads' HO_3.out).2.1); rintro e w93 ⟨v713, rfl, ho0, hb⟩; refine ⟨_, rfl, ?_⟩; have n0_ := aM (Kd.R_elder' (mR_ HO_3.out) (Kd.R_base ho0) hb); have n1_ := aM (Kd.R_elder' (mR_ HO_5.out) (Kd.R_base ho0) hb); have n2_ := aM (Kd.R_lower (Kd.R_new' (Kd.R_new' ho0 (Kd.R_lt (mR_ HO_3.out))) (Kd.R_lt (mR_ HO_5.out))) (below_size zb)); have n3_ := aM (below_step zb hb); clear HO_3 HO_5 HB; have HO_3 := n0_; have HO_5 := n1_; have HO714 := n2_; have HB := n3_; clear n0_ n1_ n2_ n3_; (try clear hb); (try clear hb2); (try clear hk); (try clear hi); (try clear ho0); obtain ⟨Ao94, co94, eo94⟩ := Kd.R_slice HO_5.out; subst eo94) | ((with_reducible refine gate_callee (f := 20) rfl ?_); refine goesL_ (some 114) rfl rfl Try.func20 (by kernel_rfl) rfl #[.slice Ao94 t685.length co94, .bool true] rfl zm ?_; (with_reducible refine (impl_LeastForm.calls kj11 _ _ t685 true t715 t716 _ ?side1 ?side2 A49.out).mono ?_); (case side1 => exact zc HO_5.out); (case side2 => exact (Kd.R_reads' HO_5.out).2.1); rintro e w95 ⟨v717, rfl, ho0, hb⟩; refine ⟨_, rfl, ?_⟩; have n0_ := aM (Kd.R_elder' (mR_ HO_3.out) (Kd.R_base ho0) hb); have n1_ := aM (Kd.R_elder' (mR_ HO_5.out) (Kd.R_base ho0) hb); have n2_ := aM (Kd.R_elder' (mR_ HO714.out) (Kd.R_base ho0) hb); have n3_ := aM (Kd.R_lower (Kd.R_new' (Kd.R_new' (Kd.R_new' ho0 (Kd.R_lt (mR_ HO_3.out))) (Kd.R_lt (mR_ HO_5.out))) (Kd.R_lt (mR_ HO714.out))) (below_size zb)); have n4_ := aM (below_step zb hb); clear HO_3 HO_5 HO714 HB; have HO_3 := n0_; have HO_5 := n1_; have HO714 := n2_; have HO718 := n3_; have HB := n4_; clear n0_ n1_ n2_ n3_ n4_; (try clear hb); (try clear hb2); (try clear hk); (try clear hi); (try clear ho0)) | ((with_reducible refine gate_callee (f := 22) rfl ?_); refine goesL_ (some 119) rfl rfl Try.func22 (by kernel_rfl) rfl #[.slice Ao94 t685.length co94] rfl zm ?_; (with_reducible refine (impl_IsSolid.calls kj11 _ _ t685 t719 t720 _ ?side1 ?side2 A50.out).mono ?_); (case side1 => exact zc HO_5.out); (case side2 => exact (Kd.R_reads' HO_5.out).2.1); rintro e w96 ⟨rfl, hb⟩; refine ⟨_, rfl, ?_⟩; have n0_ := aM (Kd.R_below (mR_ HO_3.out) hb); have n1_ := aM (Kd.R_below (mR_ HO_5.out) hb); have n2_ := aM (Kd.R_below (mR_ HO714.out) hb); have n3_ := aM (Kd.R_below (mR_ HO718.out) hb); have n4_ := aM (below_step zb hb); clear HO_3 HO_5 HO714 HO718 HB; have HO_3 := n0_; have HO_5 := n1_; have HO714 := n2_; have HO718 := n3_; have HB := n4_; clear n0_ n1_ n2_ n3_ n4_; (try clear hb); (try clear hb2); (try clear hk); (try clear hi)) | ((with_reducible refine gate_callee (f := 25) rfl ?_); refine goesL_ (some 124) rfl rfl Try.func25 (by kernel_rfl) rfl #[.slice Ao14 t681.length co14] rfl zm ?_; (with_reducible refine (impl_FaceCount.calls kj11 _ _ t681 t721 t722 _ ?side1 ?side2 A51.out).mono ?_); (case side1 => exact zc HO_3.out); (case side2 => exact (Kd.R_reads' HO_3.out).2.1); rintro e w97 ⟨rfl, hb⟩; refine ⟨_, rfl, ?_⟩; have n0_ := aM (Kd.R_below (mR_ HO_3.out) hb); have n1_ := aM (Kd.R_below (mR_ HO_5.out) hb); have n2_ := aM (Kd.R_below (mR_ HO714.out) hb); have n3_ := aM (Kd.R_below (mR_ HO718.out) hb); have n4_ := aM (below_step zb hb); clear HO_3 HO_5 HO714 HO718 HB; have HO_3 := n0_; have HO_5 := n1_; have HO714 := n2_; have HO718 := n3_; have HB := n4_; clear n0_ n1_ n2_ n3_ n4_; (try clear hb); (try clear hb2); (try clear hk); (try clear hi)) | ((with_reducible refine gate_callee (f := 25) rfl ?_); refine goesL_ (some 129) rfl rfl Try.func25 (by kernel_rfl) rfl #[.slice Ao94 t685.length co94] rfl zm ?_; (with_reducible refine (impl_FaceCount.calls kj11 _ _ t685 t723 t724 _ ?side1 ?side2 A52.out).mono ?_); (case side1 => exact zc HO_5.out); (case side2 => exact (Kd.R_reads' HO_5.out).2.1); rintro e w98 ⟨rfl, hb⟩; refine ⟨_, rfl, ?_⟩; have n0_ := aM (Kd.R_below (mR_ HO_3.out) hb); have n1_ := aM (Kd.R_below (mR_ HO_5.out) hb); have n2_ := aM (Kd.R_below (mR_ HO714.out) hb); have n3_ := aM (Kd.R_below (mR_ HO718.out) hb); have n4_ := aM (below_step zb hb); clear HO_3 HO_5 HO714 HO718 HB; have HO_3 := n0_; have HO_5 := n1_; have HO714 := n2_; have HO718 := n3_; have HB := n4_; clear n0_ n1_ n2_ n3_ n4_; (try clear hb); (try clear hb2); (try clear hk); (try clear hi)))
    go_ret
    exact ⟨zw, zb⟩
   rw [if_pos c56] at H
   have c56b0 : (t724 == 0) = true := beq_iff_eq.mpr c56
   have c56b1 : (t724 != 0) = false := bne_eq_false_iff_eq.mpr c56
   clear c56
   replace H := Option.bind_eq_some_iff.mp H
   obtain ⟨t725, A570, H⟩ := H
   replace H : (if t725 = true then (if t719 = true then (if (t720 == t706) = true then (some (t721 == t723)) else (some false)) else (some false)) else (some false)) = some r := H
   have A57 := aM A570
   clear A570
   by_cases c58 : t725 = true
   rotate_left
   ·replace c58 := Bool.eq_false_iff.mpr c58
    subst c58
    have H1 : (some false) = some r := by rw [if_neg (show ¬ (false = true) by decide)] at H; exact H
    clear H
    have H := H1
    clear H1
    obtain rfl := Option.some.inj H
    go_wp2_with (first | ((with_reducible refine gate_callee (f := 20) rfl ?_); refine goesL_ (some 109) rfl rfl Try.func20 (by kernel_rfl) rfl #[.slice Ao14 t681.length co14, .bool true] rfl zm ?_; (with_reducible refine (impl_LeastForm.calls kj11 _ _ t681 true t711 t712 _ ?side1 ?side2 A48.out).mono ?_); (case side1 => exact zc HO_3.out); (case side2 => exact (Kd.R_reads' HO_3.out).2.1); rintro e w85 ⟨v713, rfl, ho0, hb⟩; refine ⟨_, rfl, ?_⟩; have n0_ := aM (Kd.R_elder' (mR_ HO_3.out) (Kd.R_base ho0) hb); have n1_ := aM (Kd.R_elder' (mR_ HO_5.out) (Kd.R_base ho0) hb); have n2_ := aM (Kd.R_lower (Kd.R_new' (Kd.R_new' ho0 (Kd.R_lt (mR_ HO_3.out))) (Kd.R_lt (mR_ HO_5.out))) (below_size zb)); have n3_ := aM (below_step zb hb); clear HO_3 HO_5 HB; have HO_3 := n0_; have HO_5 := n1_; have HO714 := n2_; have HB := n3_; clear n0_ n1_ n2_ n3_; (try clear hb); (try clear hb2); (try clear hk); (try clear hi); (try clear ho0); obtain ⟨Ao86, co86, eo86⟩ := Kd.R_slice HO_5.out; subst eo86) | ((with_reducible refine gate_callee (f := 20) rfl ?_); refine goesL_ (some 114) rfl rfl Try.func20 (by kernel_rfl) rfl #[.slice Ao86 t685.length co86, .bool true] rfl zm ?_; (with_reducible refine (impl_LeastForm.calls kj11 _ _ t685 true t715 t716 _ ?side1 ?side2 A49.out).mono ?_); (case side1 => exact zc HO_5.out); (case side2 => exact (Kd.R_reads' HO_5.out).2.1); rintro e w87 ⟨v717, rfl, ho0, hb⟩; refine ⟨_, rfl, ?_⟩; have n0_ := aM (Kd.R_elder' (mR_ HO_3.out) (Kd.R_base ho0) hb); have n1_ := aM (Kd.R_elder' (mR_ HO_5.out) (Kd.R_base ho0) hb); have n2_ := aM (Kd.R_elder' (mR_ HO714.out) (Kd.R_base ho0) hb); have n3_ := aM (Kd.R_lower (Kd.R_new' (Kd.R_new' (Kd.R_new' ho0 (Kd.R_lt (mR_ HO_3.out))) (Kd.R_lt (mR_ HO_5.out))) (Kd.R_lt (mR_ HO714.out))) (below_size zb)); have n4_ := aM (below_step zb hb); clear HO_3 HO_5 HO714 HB; have HO_3 := n0_; have HO_5 := n1_; have HO714 := n2_; have HO718 := n3_; have HB := n4_; clear n0_ n1_ n2_ n3_ n4_; (try clear hb); (try clear hb2); (try clear hk); (try clear hi); (try clear ho0)) | ((with_reducible refine gate_callee (f := 22) rfl ?_); refine goesL_ (some 119) rfl rfl Try.func22 (by kernel_rfl) rfl #[.slice Ao86 t685.length co86] rfl zm ?_; (with_reducible refine (impl_IsSolid.calls kj11 _ _ t685 t719 t720 _ ?side1 ?side2 A50.out).mono ?_); (case side1 => exact zc HO_5.out); (case side2 => exact (Kd.R_reads' HO_5.out).2.1); rintro e w88 ⟨rfl, hb⟩; refine ⟨_, rfl, ?_⟩; have n0_ := aM (Kd.R_below (mR_ HO_3.out) hb); have n1_ := aM (Kd.R_below (mR_ HO_5.out) hb); have n2_ := aM (Kd.R_below (mR_ HO714.out) hb); have n3_ := aM (Kd.R_below (mR_ HO718.out) hb); have n4_ := aM (below_step zb hb); clear HO_3 HO_5 HO714 HO718 HB; have HO_3 := n0_; have HO_5 := n1_; have HO714 := n2_; have HO718 := n3_; have HB := n4_; clear n0_ n1_ n2_ n3_ n4_; (try clear hb); (try clear hb2); (try clear hk); (try clear hi)) | ((with_reducible refine gate_callee (f := 25) rfl ?_); refine goesL_ (some 124) rfl rfl Try.func25 (by kernel_rfl) rfl #[.slice Ao14 t681.length co14] rfl zm ?_; (with_reducible refine (impl_FaceCount.calls kj11 _ _ t681 t721 t722 _ ?side1 ?side2 A51.out).mono ?_); (case side1 => exact zc HO_3.out); (case side2 => exact (Kd.R_reads' HO_3.out).2.1); rintro e w89 ⟨rfl, hb⟩; refine ⟨_, rfl, ?_⟩; have n0_ := aM (Kd.R_below (mR_ HO_3.out) hb); have n1_ := aM (Kd.R_below (mR_ HO_5.out) hb); have n2_ := aM (Kd.R_below (mR_ HO714.out) hb); have n3_ := aM (Kd.R_below (mR_ HO718.out) hb); have n4_ := aM (below_step zb hb); clear HO_3 HO_5 HO714 HO718 HB; have HO_3 := n0_; have HO_5 := n1_; have HO714 := n2_; have HO718 := n3_; have HB := n4_; clear n0_ n1_ n2_ n3_ n4_; (try clear hb); (try clear hb2); (try clear hk); (try clear hi)) | ((with_reducible refine gate_callee (f := 25) rfl ?_); refine goesL_ (some 129) rfl rfl Try.func25 (by kernel_rfl) rfl #[.slice Ao86 t685.length co86] rfl zm ?_; (with_reducible refine (impl_FaceCount.calls kj11 _ _ t685 t723 t724 _ ?side1 ?side2 A52.out).mono ?_); (case side1 => exact zc HO_5.out); (case side2 => exact (Kd.R_reads' HO_5.out).2.1); rintro e w90 ⟨rfl, hb⟩; refine ⟨_, rfl, ?_⟩; have n0_ := aM (Kd.R_below (mR_ HO_3.out) hb); have n1_ := aM (Kd.R_below (mR_ HO_5.out) hb); have n2_ := aM (Kd.R_below (mR_ HO714.out) hb); have n3_ := aM (Kd.R_below (mR_ HO718.out) hb); have n4_ := aM (below_step zb hb); clear HO_3 HO_5 HO714 HO718 HB; have HO_3 := n0_; have HO_5 := n1_; have HO714 := n2_; have HO718 := n3_; have HB := n4_; clear n0_ n1_ n2_ n3_ n4_; (try clear hb); (try clear hb2); (try clear hk); (try clear hi); obtain ⟨Ao91, co91, eo91⟩ := Kd.R_slice HO714.out; subst eo91; obtain ⟨Ao92, co92, eo92⟩ := Kd.R_slice HO718.out; subst eo92) | (go_at_call 24; (with_reducible refine (laws_likeCubes.calls kj11 _ _ t711 _ _ t715 false _ ?side1 ?side2 ?side3 ?side4 A57.out).mono ?_); (case side1 => exact zc HO714.out); (case side2 => exact (Kd.R_reads' HO714.out).2.1); (case side3 => exact zc HO718.out); (case side4 => exact (Kd.R_reads' HO718.out).2.1); rintro e w' ⟨rfl, ⟨nd, rfl⟩⟩))
    go_ret
    exact ⟨zw, zb⟩
   subst c58
   have H1 : (if t719 = true then (if (t720 == t706) = true then (some (t721 == t723)) else (some false)) else (some false)) = some r := by rw [if_pos rfl] at H; exact H
   clear H
   have H := H1
   clear H1
   by_cases c59 : t719 = true
   rotate_left
   ·replace c59 := Bool.eq_false_iff.mpr c59
    subst c59
    have H1 : (some false) = some r := by rw [if_neg (show ¬ (false = true) by decide)] at H; exact H
    clear H
    have H := H1
    clear H1
    obtain rfl := Option.some.inj H
    go_wp2_with (first | ((with_reducible refine gate_callee (f := 20) rfl ?_); refine goesL_ (some 109) rfl rfl Try.func20 (by kernel_rfl) rfl #[.slice Ao14 t681.length co14, .bool true] rfl zm ?_; (with_reducible refine (impl_LeastForm.calls kj11 _ _ t681 true t711 t712 _ ?side1 ?side2 A48.out).mono ?_); (case side1 => exact zc HO_3.out); (case side2 => exact (Kd.R_reads' HO_3.out).2.1); rintro e w77 ⟨v713, rfl, ho0, hb⟩; refine ⟨_, rfl, ?_⟩; have n0_ := aM (Kd.R_elder' (mR_ HO_3.out) (Kd.R_base ho0) hb); have n1_ := aM (Kd.R_elder' (mR_ HO_5.out) (Kd.R_base ho0) hb); have n2_ := aM (Kd.R_lower (Kd.R_new' (Kd.R_new' ho0 (Kd.R_lt (mR_ HO_3.out))) (Kd.R_lt (mR_ HO_5.out))) (below_size zb)); have n3_ := aM (below_step zb hb); clear HO_3 HO_5 HB; have HO_3 := n0_; have HO_5 := n1_; have HO714 := n2_; have HB := n3_; clear n0_ n1_ n2_ n3_; (try clear hb); (try clear hb2); (try clear hk); (try clear hi); (try clear ho0); obtain ⟨Ao78, co78, eo78⟩ := Kd.R_slice HO_5.out; subst eo78) | ((with_reducible refine gate_callee (f := 20) rfl ?_); refine goesL_ (some 114) rfl rfl Try.func20 (by kernel_rfl) rfl #[.slice Ao78 t685.length co78, .bool true] rfl zm ?_; (with_reducible refine (impl_LeastForm.calls kj11 _ _ t685 true t715 t716 _ ?side1 ?side2 A49.out).mono ?_); (case side1 => exact zc HO_5.out); (case side2 => exact (Kd.R_reads' HO_5.out).2.1); rintro e w79 ⟨v717, rfl, ho0, hb⟩; refine ⟨_, rfl, ?_⟩; have n0_ := aM (Kd.R_elder' (mR_ HO_3.out) (Kd.R_base ho0) hb); have n1_ := aM (Kd.R_elder' (mR_ HO_5.out) (Kd.R_base ho0) hb); have n2_ := aM (Kd.R_elder' (mR_ HO714.out) (Kd.R_base ho0) hb); have n3_ := aM (Kd.R_lower (Kd.R_new' (Kd.R_new' (Kd.R_new' ho0 (Kd.R_lt (mR_ HO_3.out))) (Kd.R_lt (mR_ HO_5.out))) (Kd.R_lt (mR_ HO714.out))) (below_size zb)); have n4_ := aM (below_step zb hb); clear HO_3 HO_5 HO714 HB; have HO_3 := n0_; have HO_5 := n1_; have HO714 := n2_; have HO718 := n3_; have HB := n4_; clear n0_ n1_ n2_ n3_ n4_; (try clear hb); (try clear hb2); (try clear hk); (try clear hi); (try clear ho0)) | ((with_reducible refine gate_callee (f := 22) rfl ?_); refine goesL_ (some 119) rfl rfl Try.func22 (by kernel_rfl) rfl #[.slice Ao78 t685.length co78] rfl zm ?_; (with_reducible refine (impl_IsSolid.calls kj11 _ _ t685 false t720 _ ?side1 ?side2 A50.out).mono ?_); (case side1 => exact zc HO_5.out); (case side2 => exact (Kd.R_reads' HO_5.out).2.1); rintro e w80 ⟨rfl, hb⟩; refine ⟨_, rfl, ?_⟩; have n0_ := aM (Kd.R_below (mR_ HO_3.out) hb); have n1_ := aM (Kd.R_below (mR_ HO_5.out) hb); have n2_ := aM (Kd.R_below (mR_ HO714.out) hb); have n3_ := aM (Kd.R_below (mR_ HO718.out) hb); have n4_ := aM (below_step zb hb); clear HO_3 HO_5 HO714 HO718 HB; have HO_3 := n0_; have HO_5 := n1_; have HO714 := n2_; have HO718 := n3_; have HB := n4_; clear n0_ n1_ n2_ n3_ n4_; (try clear hb); (try clear hb2); (try clear hk); (try clear hi)) | ((with_reducible refine gate_callee (f := 25) rfl ?_); refine goesL_ (some 124) rfl rfl Try.func25 (by kernel_rfl) rfl #[.slice Ao14 t681.length co14] rfl zm ?_; (with_reducible refine (impl_FaceCount.calls kj11 _ _ t681 t721 t722 _ ?side1 ?side2 A51.out).mono ?_); (case side1 => exact zc HO_3.out); (case side2 => exact (Kd.R_reads' HO_3.out).2.1); rintro e w81 ⟨rfl, hb⟩; refine ⟨_, rfl, ?_⟩; have n0_ := aM (Kd.R_below (mR_ HO_3.out) hb); have n1_ := aM (Kd.R_below (mR_ HO_5.out) hb); have n2_ := aM (Kd.R_below (mR_ HO714.out) hb); have n3_ := aM (Kd.R_below (mR_ HO718.out) hb); have n4_ := aM (below_step zb hb); clear HO_3 HO_5 HO714 HO718 HB; have HO_3 := n0_; have HO_5 := n1_; have HO714 := n2_; have HO718 := n3_; have HB := n4_; clear n0_ n1_ n2_ n3_ n4_; (try clear hb); (try clear hb2); (try clear hk); (try clear hi)) | ((with_reducible refine gate_callee (f := 25) rfl ?_); refine goesL_ (some 129) rfl rfl Try.func25 (by kernel_rfl) rfl #[.slice Ao78 t685.length co78] rfl zm ?_; (with_reducible refine (impl_FaceCount.calls kj11 _ _ t685 t723 t724 _ ?side1 ?side2 A52.out).mono ?_); (case side1 => exact zc HO_5.out); (case side2 => exact (Kd.R_reads' HO_5.out).2.1); rintro e w82 ⟨rfl, hb⟩; refine ⟨_, rfl, ?_⟩; have n0_ := aM (Kd.R_below (mR_ HO_3.out) hb); have n1_ := aM (Kd.R_below (mR_ HO_5.out) hb); have n2_ := aM (Kd.R_below (mR_ HO714.out) hb); have n3_ := aM (Kd.R_below (mR_ HO718.out) hb); have n4_ := aM (below_step zb hb); clear HO_3 HO_5 HO714 HO718 HB; have HO_3 := n0_; have HO_5 := n1_; have HO714 := n2_; have HO718 := n3_; have HB := n4_; clear n0_ n1_ n2_ n3_ n4_; (try clear hb); (try clear hb2); (try clear hk); (try clear hi); obtain ⟨Ao83, co83, eo83⟩ := Kd.R_slice HO714.out; subst eo83; obtain ⟨Ao84, co84, eo84⟩ := Kd.R_slice HO718.out; subst eo84) | (go_at_call 24; (with_reducible refine (laws_likeCubes.calls kj11 _ _ t711 _ _ t715 true _ ?side1 ?side2 ?side3 ?side4 A57.out).mono ?_); (case side1 => exact zc HO714.out); (case side2 => exact (Kd.R_reads' HO714.out).2.1); (case side3 => exact zc HO718.out); (case side4 => exact (Kd.R_reads' HO718.out).2.1); rintro e w' ⟨rfl, ⟨nd, rfl⟩⟩))
    go_ret
    exact ⟨zw, zb⟩
   subst c59
   have H1 : (if (t720 == t706) = true then (some (t721 == t723)) else (some false)) = some r := by rw [if_pos rfl] at H; exact H
   clear H
   have H := H1
   clear H1
   by_cases c60 : (t720 == t706) = true
   ·rw [if_pos c60] at H
    have c60b0 : (t720 == t706) = true := c60
    (try (have c60b1 : decide (t720 = t706) = true := by simpa using c60))
    (try (have c60b2 : (t720 == t706) = true := by simpa using c60))
    clear c60
    obtain rfl := Option.some.inj H
    go_wp2_with (first | ((with_reducible refine gate_callee (f := 20) rfl ?_); refine goesL_ (some 109) rfl rfl Try.func20 (by kernel_rfl) rfl #[.slice Ao14 t681.length co14, .bool true] rfl zm ?_; (with_reducible refine (impl_LeastForm.calls kj11 _ _ t681 true t711 t712 _ ?side1 ?side2 A48.out).mono ?_); (case side1 => exact zc HO_3.out); (case side2 => exact (Kd.R_reads' HO_3.out).2.1); rintro e w61 ⟨v713, rfl, ho0, hb⟩; refine ⟨_, rfl, ?_⟩; have n0_ := aM (Kd.R_elder' (mR_ HO_3.out) (Kd.R_base ho0) hb); have n1_ := aM (Kd.R_elder' (mR_ HO_5.out) (Kd.R_base ho0) hb); have n2_ := aM (Kd.R_lower (Kd.R_new' (Kd.R_new' ho0 (Kd.R_lt (mR_ HO_3.out))) (Kd.R_lt (mR_ HO_5.out))) (below_size zb)); have n3_ := aM (below_step zb hb); clear HO_3 HO_5 HB; have HO_3 := n0_; have HO_5 := n1_; have HO714 := n2_; have HB := n3_; clear n0_ n1_ n2_ n3_; (try clear hb); (try clear hb2); (try clear hk); (try clear hi); (try clear ho0); obtain ⟨Ao62, co62, eo62⟩ := Kd.R_slice HO_5.out; subst eo62) | ((with_reducible refine gate_callee (f := 20) rfl ?_); refine goesL_ (some 114) rfl rfl Try.func20 (by kernel_rfl) rfl #[.slice Ao62 t685.length co62, .bool true] rfl zm ?_; (with_reducible refine (impl_LeastForm.calls kj11 _ _ t685 true t715 t716 _ ?side1 ?side2 A49.out).mono ?_); (case side1 => exact zc HO_5.out); (case side2 => exact (Kd.R_reads' HO_5.out).2.1); rintro e w63 ⟨v717, rfl, ho0, hb⟩; refine ⟨_, rfl, ?_⟩; have n0_ := aM (Kd.R_elder' (mR_ HO_3.out) (Kd.R_base ho0) hb); have n1_ := aM (Kd.R_elder' (mR_ HO_5.out) (Kd.R_base ho0) hb); have n2_ := aM (Kd.R_elder' (mR_ HO714.out) (Kd.R_base ho0) hb); have n3_ := aM (Kd.R_lower (Kd.R_new' (Kd.R_new' (Kd.R_new' ho0 (Kd.R_lt (mR_ HO_3.out))) (Kd.R_lt (mR_ HO_5.out))) (Kd.R_lt (mR_ HO714.out))) (below_size zb)); have n4_ := aM (below_step zb hb); clear HO_3 HO_5 HO714 HB; have HO_3 := n0_; have HO_5 := n1_; have HO714 := n2_; have HO718 := n3_; have HB := n4_; clear n0_ n1_ n2_ n3_ n4_; (try clear hb); (try clear hb2); (try clear hk); (try clear hi); (try clear ho0)) | ((with_reducible refine gate_callee (f := 22) rfl ?_); refine goesL_ (some 119) rfl rfl Try.func22 (by kernel_rfl) rfl #[.slice Ao62 t685.length co62] rfl zm ?_; (with_reducible refine (impl_IsSolid.calls kj11 _ _ t685 true t720 _ ?side1 ?side2 A50.out).mono ?_); (case side1 => exact zc HO_5.out); (case side2 => exact (Kd.R_reads' HO_5.out).2.1); rintro e w64 ⟨rfl, hb⟩; refine ⟨_, rfl, ?_⟩; have n0_ := aM (Kd.R_below (mR_ HO_3.out) hb); have n1_ := aM (Kd.R_below (mR_ HO_5.out) hb); have n2_ := aM (Kd.R_below (mR_ HO714.out) hb); have n3_ := aM (Kd.R_below (mR_ HO718.out) hb); have n4_ := aM (below_step zb hb); clear HO_3 HO_5 HO714 HO718 HB; have HO_3 := n0_; have HO_5 := n1_; have HO714 := n2_; have HO718 := n3_; have HB := n4_; clear n0_ n1_ n2_ n3_ n4_; (try clear hb); (try clear hb2); (try clear hk); (try clear hi)) | ((with_reducible refine gate_callee (f := 25) rfl ?_); refine goesL_ (some 124) rfl rfl Try.func25 (by kernel_rfl) rfl #[.slice Ao14 t681.length co14] rfl zm ?_; (with_reducible refine (impl_FaceCount.calls kj11 _ _ t681 t721 t722 _ ?side1 ?side2 A51.out).mono ?_); (case side1 => exact zc HO_3.out); (case side2 => exact (Kd.R_reads' HO_3.out).2.1); rintro e w65 ⟨rfl, hb⟩; refine ⟨_, rfl, ?_⟩; have n0_ := aM (Kd.R_below (mR_ HO_3.out) hb); have n1_ := aM (Kd.R_below (mR_ HO_5.out) hb); have n2_ := aM (Kd.R_below (mR_ HO714.out) hb); have n3_ := aM (Kd.R_below (mR_ HO718.out) hb); have n4_ := aM (below_step zb hb); clear HO_3 HO_5 HO714 HO718 HB; have HO_3 := n0_; have HO_5 := n1_; have HO714 := n2_; have HO718 := n3_; have HB := n4_; clear n0_ n1_ n2_ n3_ n4_; (try clear hb); (try clear hb2); (try clear hk); (try clear hi)) | ((with_reducible refine gate_callee (f := 25) rfl ?_); refine goesL_ (some 129) rfl rfl Try.func25 (by kernel_rfl) rfl #[.slice Ao62 t685.length co62] rfl zm ?_; (with_reducible refine (impl_FaceCount.calls kj11 _ _ t685 t723 t724 _ ?side1 ?side2 A52.out).mono ?_); (case side1 => exact zc HO_5.out); (case side2 => exact (Kd.R_reads' HO_5.out).2.1); rintro e w66 ⟨rfl, hb⟩; refine ⟨_, rfl, ?_⟩; have n0_ := aM (Kd.R_below (mR_ HO_3.out) hb); have n1_ := aM (Kd.R_below (mR_ HO_5.out) hb); have n2_ := aM (Kd.R_below (mR_ HO714.out) hb); have n3_ := aM (Kd.R_below (mR_ HO718.out) hb); have n4_ := aM (below_step zb hb); clear HO_3 HO_5 HO714 HO718 HB; have HO_3 := n0_; have HO_5 := n1_; have HO714 := n2_; have HO718 := n3_; have HB := n4_; clear n0_ n1_ n2_ n3_ n4_; (try clear hb); (try clear hb2); (try clear hk); (try clear hi); obtain ⟨Ao67, co67, eo67⟩ := Kd.R_slice HO714.out; subst eo67; obtain ⟨Ao68, co68, eo68⟩ := Kd.R_slice HO718.out; subst eo68) | (go_at_call 24; (with_reducible refine (laws_likeCubes.calls kj11 _ _ t711 _ _ t715 true _ ?side1 ?side2 ?side3 ?side4 A57.out).mono ?_); (case side1 => exact zc HO714.out); (case side2 => exact (Kd.R_reads' HO714.out).2.1); (case side3 => exact zc HO718.out); (case side4 => exact (Kd.R_reads' HO718.out).2.1); rintro e w' ⟨rfl, ⟨nd, rfl⟩⟩))
    go_ret
    exact ⟨zw, zb⟩
   rw [if_neg c60] at H
   have c60b0 : (t720 == t706) = false := by simpa using c60
   (try (have c60b1 : decide (t720 = t706) = false := by simpa using c60))
   (try (have c60b2 : (t720 == t706) = false := by simpa using c60))
   (try (have c60b3 : ¬ (t720 = t706) := by simpa using c60))
   clear c60
   obtain rfl := Option.some.inj H
   go_wp2_with (first | ((with_reducible refine gate_callee (f := 20) rfl ?_); refine goesL_ (some 109) rfl rfl Try.func20 (by kernel_rfl) rfl #[.slice Ao14 t681.length co14, .bool true] rfl zm ?_; (with_reducible refine (impl_LeastForm.calls kj11 _ _ t681 true t711 t712 _ ?side1 ?side2 A48.out).mono ?_); (case side1 => exact zc HO_3.out); (case side2 => exact (Kd.R_reads' HO_3.out).2.1); rintro e w69 ⟨v713, rfl, ho0, hb⟩; refine ⟨_, rfl, ?_⟩; have n0_ := aM (Kd.R_elder' (mR_ HO_3.out) (Kd.R_base ho0) hb); have n1_ := aM (Kd.R_elder' (mR_ HO_5.out) (Kd.R_base ho0) hb); have n2_ := aM (Kd.R_lower (Kd.R_new' (Kd.R_new' ho0 (Kd.R_lt (mR_ HO_3.out))) (Kd.R_lt (mR_ HO_5.out))) (below_size zb)); have n3_ := aM (below_step zb hb); clear HO_3 HO_5 HB; have HO_3 := n0_; have HO_5 := n1_; have HO714 := n2_; have HB := n3_; clear n0_ n1_ n2_ n3_; (try clear hb); (try clear hb2); (try clear hk); (try clear hi); (try clear ho0); obtain ⟨Ao70, co70, eo70⟩ := Kd.R_slice HO_5.out; subst eo70) | ((with_reducible refine gate_callee (f := 20) rfl ?_); refine goesL_ (some 114) rfl rfl Try.func20 (by kernel_rfl) rfl #[.slice Ao70 t685.length co70, .bool true] rfl zm ?_; (with_reducible refine (impl_LeastForm.calls kj11 _ _ t685 true t715 t716 _ ?side1 ?side2 A49.out).mono ?_); (case side1 => exact zc HO_5.out); (case side2 => exact (Kd.R_reads' HO_5.out).2.1); rintro e w71 ⟨v717, rfl, ho0, hb⟩; refine ⟨_, rfl, ?_⟩; have n0_ := aM (Kd.R_elder' (mR_ HO_3.out) (Kd.R_base ho0) hb); have n1_ := aM (Kd.R_elder' (mR_ HO_5.out) (Kd.R_base ho0) hb); have n2_ := aM (Kd.R_elder' (mR_ HO714.out) (Kd.R_base ho0) hb); have n3_ := aM (Kd.R_lower (Kd.R_new' (Kd.R_new' (Kd.R_new' ho0 (Kd.R_lt (mR_ HO_3.out))) (Kd.R_lt (mR_ HO_5.out))) (Kd.R_lt (mR_ HO714.out))) (below_size zb)); have n4_ := aM (below_step zb hb); clear HO_3 HO_5 HO714 HB; have HO_3 := n0_; have HO_5 := n1_; have HO714 := n2_; have HO718 := n3_; have HB := n4_; clear n0_ n1_ n2_ n3_ n4_; (try clear hb); (try clear hb2); (try clear hk); (try clear hi); (try clear ho0)) | ((with_reducible refine gate_callee (f := 22) rfl ?_); refine goesL_ (some 119) rfl rfl Try.func22 (by kernel_rfl) rfl #[.slice Ao70 t685.length co70] rfl zm ?_; (with_reducible refine (impl_IsSolid.calls kj11 _ _ t685 true t720 _ ?side1 ?side2 A50.out).mono ?_); (case side1 => exact zc HO_5.out); (case side2 => exact (Kd.R_reads' HO_5.out).2.1); rintro e w72 ⟨rfl, hb⟩; refine ⟨_, rfl, ?_⟩; have n0_ := aM (Kd.R_below (mR_ HO_3.out) hb); have n1_ := aM (Kd.R_below (mR_ HO_5.out) hb); have n2_ := aM (Kd.R_below (mR_ HO714.out) hb); have n3_ := aM (Kd.R_below (mR_ HO718.out) hb); have n4_ := aM (below_step zb hb); clear HO_3 HO_5 HO714 HO718 HB; have HO_3 := n0_; have HO_5 := n1_; have HO714 := n2_; have HO718 := n3_; have HB := n4_; clear n0_ n1_ n2_ n3_ n4_; (try clear hb); (try clear hb2); (try clear hk); (try clear hi)) | ((with_reducible refine gate_callee (f := 25) rfl ?_); refine goesL_ (some 124) rfl rfl Try.func25 (by kernel_rfl) rfl #[.slice Ao14 t681.length co14] rfl zm ?_; (with_reducible refine (impl_FaceCount.calls kj11 _ _ t681 t721 t722 _ ?side1 ?side2 A51.out).mono ?_); (case side1 => exact zc HO_3.out); (case side2 => exact (Kd.R_reads' HO_3.out).2.1); rintro e w73 ⟨rfl, hb⟩; refine ⟨_, rfl, ?_⟩; have n0_ := aM (Kd.R_below (mR_ HO_3.out) hb); have n1_ := aM (Kd.R_below (mR_ HO_5.out) hb); have n2_ := aM (Kd.R_below (mR_ HO714.out) hb); have n3_ := aM (Kd.R_below (mR_ HO718.out) hb); have n4_ := aM (below_step zb hb); clear HO_3 HO_5 HO714 HO718 HB; have HO_3 := n0_; have HO_5 := n1_; have HO714 := n2_; have HO718 := n3_; have HB := n4_; clear n0_ n1_ n2_ n3_ n4_; (try clear hb); (try clear hb2); (try clear hk); (try clear hi)) | ((with_reducible refine gate_callee (f := 25) rfl ?_); refine goesL_ (some 129) rfl rfl Try.func25 (by kernel_rfl) rfl #[.slice Ao70 t685.length co70] rfl zm ?_; (with_reducible refine (impl_FaceCount.calls kj11 _ _ t685 t723 t724 _ ?side1 ?side2 A52.out).mono ?_); (case side1 => exact zc HO_5.out); (case side2 => exact (Kd.R_reads' HO_5.out).2.1); rintro e w74 ⟨rfl, hb⟩; refine ⟨_, rfl, ?_⟩; have n0_ := aM (Kd.R_below (mR_ HO_3.out) hb); have n1_ := aM (Kd.R_below (mR_ HO_5.out) hb); have n2_ := aM (Kd.R_below (mR_ HO714.out) hb); have n3_ := aM (Kd.R_below (mR_ HO718.out) hb); have n4_ := aM (below_step zb hb); clear HO_3 HO_5 HO714 HO718 HB; have HO_3 := n0_; have HO_5 := n1_; have HO714 := n2_; have HO718 := n3_; have HB := n4_; clear n0_ n1_ n2_ n3_ n4_; (try clear hb); (try clear hb2); (try clear hk); (try clear hi); obtain ⟨Ao75, co75, eo75⟩ := Kd.R_slice HO714.out; subst eo75; obtain ⟨Ao76, co76, eo76⟩ := Kd.R_slice HO718.out; subst eo76) | (go_at_call 24; (with_reducible refine (laws_likeCubes.calls kj11 _ _ t711 _ _ t715 true _ ?side1 ?side2 ?side3 ?side4 A57.out).mono ?_); (case side1 => exact zc HO714.out); (case side2 => exact (Kd.R_reads' HO714.out).2.1); (case side3 => exact zc HO718.out); (case side4 => exact (Kd.R_reads' HO718.out).2.1); rintro e w' ⟨rfl, ⟨nd, rfl⟩⟩))
   go_ret
   exact ⟨zw, zb⟩
end Go.Proofs.Ytonldmalaajkgaa.F
end
section
namespace Go.Proofs.Ytonldmalaajkgaa.Open
open Go.ChangeShapes Go.WideShapes Go.Deep Go.RowKit Go.Proofs.YtonldmalaajkgaaW.PrintWords
def Opens {α : Type} (P : Program) (d : Kd α) (t : TypeId) (V : α → Prop) : Prop :=
  ∀ (H : Type) (enc : TypeId × Value → H) (w : World) (base : Nat) (spare : Nat → Bool) (held : Bool) (fuel : Nat) (cs : List Value) (x : DataW H × List MemPlace),
    DataW.trod enc P w base spare held fuel t cs = some x → ∃ a : α, d.K w a cs ∧ V a
theorem Opens.int {P : Program} {t : TypeId} {k : IntKind} (ht : P.underlying t = some (.int k)) : Opens P (Kd.int k) t (fun a => (Lit.int k a).wf = true) := by
  intro H enc w base spare held fuel cs x h
  obtain ⟨n, hcs, _, hw⟩ := DataW.trod_int ht h
  exact ⟨n, hcs, hw⟩
theorem Opens.bool {P : Program} {t : TypeId} (ht : P.underlying t = some .bool) : Opens P Kd.bool t (fun _ => True) := by
  intro H enc w base spare held fuel cs x h
  obtain ⟨b, hcs, _⟩ := DataW.trod_bool ht h
  exact ⟨b, hcs, trivial⟩
theorem Opens.slice {α : Type} [Inhabited α] {P : Program} {t e : TypeId} {d : Kd α} {V : α → Prop} (ht : P.underlying t = some (.slice e)) (hsz : P.cellsOf e = d.sz) (ho : Opens P d e V) :
    Opens P (Kd.slice e d) t (fun l => l.length ≤ 9223372036854775807 ∧ ∀ a ∈ l, V a) := by
  intro H enc w base spare held fuel cs x h
  rcases open_slice ht h with ⟨rfl, _⟩ | ⟨a, len, cap, m, n, D, Pl, rfl, hb, hl, hm, hmm, _, hi⟩
  · exact ⟨[], ⟨none, 0, rfl, Nat.le_refl _, rfl, by simp, fun hp => absurd hp (by simp)⟩, by simp, by simp⟩
  · have hlm : len ≤ m := by rw [hmm]; split <;> omega
    have hx : ∀ i, i < len → ∃ y : α, V y ∧ ∃ c : List Value, c.length = d.sz ∧ d.K w y c ∧ ∀ j u, c[j]? = some u → w.cell? (a.add (i * d.sz + j)) = some u := by
      intro i hil
      obtain ⟨cs', hc, ht'⟩ := hi i (by omega)
      obtain ⟨y, hk, hv⟩ := ho H enc w base spare held n cs' _ ht'
      obtain ⟨_, hcl, hat⟩ := World.cells?_some hc
      refine ⟨y, hv, cs', d.K_len hk, hk, fun j u hj => ?_⟩
      have hjl : j < cs'.length := (List.getElem?_eq_some_iff.1 hj).1
      have := hat j (by rw [hsz, ← d.K_len hk]; exact hjl)
      rw [Go.Deep.add_add, hsz] at this
      rw [this, hj]
    obtain ⟨f, hf⟩ := choose_lt hx
    have hlen : ((List.range len).map f).length = len := by simp
    refine ⟨(List.range len).map f, ⟨some a, cap, by rw [hlen], by rw [hlen]; exact hl, rfl, ?_, fun _ => ⟨a, rfl, fun j p hj => ?_⟩⟩, ?_⟩
    · rw [hlen]; unfold maxLen at hm; omega
    · have hjl : j < len := by
        have := (List.getElem?_eq_some_iff.1 hj).1
        rwa [hlen] at this
      have hp : f j = p := by
        rw [List.getElem?_map, List.getElem?_range hjl] at hj
        simpa using hj
      obtain ⟨_, c, h1, h2, h3⟩ := hf j hjl
      rw [hp] at h2
      exact ⟨c, h1, h2, h3⟩
    · refine ⟨by rw [hlen]; unfold maxLen at hm; omega, fun y hy => ?_⟩
      obtain ⟨i, hi', rfl⟩ := List.mem_map.1 hy
      exact (hf i (List.mem_range.1 hi')).1
theorem arg_open {α : Type} {P : Program} {t : TypeId} {d : Kd α} {V : α → Prop} (ho : Opens P d t V) {H : Type} {enc : TypeId × Value → H} {w : World} {base : Nat} {spare : Nat → Bool} {held : Bool} {v : Value} {x : DataW H} {p : List MemPlace}
    (h : DataW.Trod enc P w base spare held t v x p) : ∃ a : α, d.K w a v.cells.toList ∧ V a := by
  obtain ⟨fuel, hf⟩ := h
  exact ho _ _ _ _ _ _ _ _ _ hf
theorem slice_arg {α : Type} {d : Kd α} {e : Nat} {w : World} {l : List α} {a : Option Addr} {len cap : Nat} (h : (Kd.slice e d).K w l (Value.slice a len cap).cells.toList) : l.length = len ∧ l.length ≤ cap ∧ d.C w a l.length l := by
  obtain ⟨A, c, hcs, hl, hr⟩ := h
  simp [Value.cells] at hcs
  obtain ⟨rfl, rfl, rfl⟩ := hcs
  exact ⟨rfl, hl, hr⟩
end Go.Proofs.Ytonldmalaajkgaa.Open
end
section
namespace Go.Proofs.Ytonldmalaajkgaa.L
open Go.RowKit Go.Proofs.YtonldmalaajkgaaW.PrintWords
theorem Ev.pos {α : Type} {c : Prop} [Decidable c] {f g : Nat → Option α} {r : α} (h : c) (e : Ev f r) : Ev (fun k => if c then f k else g k) r := by
  obtain ⟨K, e⟩ := e
  exact ⟨K, fun k hk => (if_pos h).trans (e k hk)⟩
theorem Ev.neg {α : Type} {c : Prop} [Decidable c] {f g : Nat → Option α} {r : α} (h : ¬ c) (e : Ev g r) : Ev (fun k => if c then f k else g k) r := by
  obtain ⟨K, e⟩ := e
  exact ⟨K, fun k hk => (if_neg h).trans (e k hk)⟩
theorem Ev.if_ {α : Type} {c : Prop} [Decidable c] {f g : Nat → Option α} {r s : α} (h : c → Ev f r) (h' : ¬ c → Ev g s) : Ev (fun k => if c then f k else g k) (if c then r else s) := by
  by_cases hc : c
  · rw [if_pos hc]; exact Ev.pos hc (h hc)
  · rw [if_neg hc]; exact Ev.neg hc (h' hc)
theorem Ev.of_eq {α : Type} {g : Nat → Option α} {r s : α} (h : Ev g r) (e : r = s) : Ev g s := e ▸ h
theorem Ev.bind0 {α β : Type} {o : Option α} {f : Nat → α → Option β} {a : α} {r : β} (h : o = some a) (k : Ev (fun n => f n a) r) : Ev (fun n => o.bind (f n)) r := by
  subst h
  exact k
theorem Ev.succ {α : Type} {g : Nat → Option α} {r : α} (h : Ev (fun k => g (k + 1)) r) : Ev g r := by
  obtain ⟨K, h⟩ := h
  refine ⟨K + 1, fun n hn => ?_⟩
  obtain ⟨m, rfl⟩ : ∃ m, n = m + 1 := ⟨n - 1, by omega⟩
  exact h m (by omega)
theorem w64 {n : Int} (h : -9223372036854775808 ≤ n) (h' : n ≤ 9223372036854775807) : wrap64 n = n := by
  unfold wrap64
  omega
theorem getD_at {α : Type} (pre suf : List α) (c d : α) : (pre ++ c :: suf).getD (pre.length : Int).toNat d = c := by
  simp [List.getD]
end Go.Proofs.Ytonldmalaajkgaa.L
namespace Go.Proofs.Ytonldmalaajkgaa.L
open Go.RowKit Go.Proofs.YtonldmalaajkgaaW.PrintWords
theorem loop_list {α σ ρ : Type} (xs : List α) (l : Nat → Int → σ → Option ρ) (g : List α → List α → σ → ρ) (Inv : List α → σ → Prop)
    (hn : ∀ s, Inv xs s → Ev (fun k => l (k + 1) (xs.length : Int) s) (g xs [] s))
    (hs : ∀ (pre : List α) (c : α) (suf : List α) (s : σ), xs = pre ++ c :: suf → Inv pre s → (∀ s', Inv (pre ++ [c]) s' → Ev (fun k => l k ((pre.length : Int) + 1) s') (g (pre ++ [c]) suf s')) → Ev (fun k => l (k + 1) (pre.length : Int) s) (g pre (c :: suf) s)) :
    ∀ s, Inv [] s → Ev (fun k => l k 0 s) (g [] xs s) := by
  have key : ∀ (suf pre : List α), xs = pre ++ suf → ∀ s, Inv pre s → Ev (fun k => l k (pre.length : Int) s) (g pre suf s) := by
    intro suf
    induction suf with
    | nil =>
      intro pre hx s hi
      rw [List.append_nil] at hx
      subst hx
      exact Ev.succ (hn s hi)
    | cons c suf ih =>
      intro pre hx s hi
      refine Ev.succ (hs pre c suf s hx hi fun s' hi' => ?_)
      have := ih (pre ++ [c]) (by rw [hx]; simp) s' hi'
      rw [List.length_append] at this
      exact this
  intro s hi
  exact key xs [] rfl s hi
end Go.Proofs.Ytonldmalaajkgaa.L
end
section
namespace Go.Proofs.Ytonldmalaajkgaa.L
set_option linter.unusedVariables false
section
variable {α β : Type} {nb : α → List α} {l : List α} {a b c d : α}
def Rch (nb : α → List α) (l : List α) (a b : α) : Prop := ∀ S : α → Prop, S a → (∀ c d, S c → d ∈ nb c → d ∈ l → S d) → S b
theorem Rch.refl : Rch nb l a a := fun S h _ => h
theorem Rch.step (h : Rch nb l a b) (hd : d ∈ nb b) (hl : d ∈ l) : Rch nb l a d := fun S h0 h1 => h1 b d (h S h0 h1) hd hl
theorem Rch.trans (h : Rch nb l a b) (h' : Rch nb l b c) : Rch nb l a c := fun S h0 h1 => h' S (h S h0 h1) h1
theorem Rch.back (hs : ∀ c ∈ l, ∀ d ∈ l, d ∈ nb c → c ∈ nb d) (ha : a ∈ l) (h : Rch nb l a b) : b ∈ l ∧ Rch nb l b a :=
  h (fun b => b ∈ l ∧ Rch nb l b a) ⟨ha, Rch.refl⟩ fun c d ⟨hc, hca⟩ hd hl => ⟨hl, (Rch.step Rch.refl (hs c hc d hl hd) hc).trans hca⟩
def Conn (nb : α → List α) (l : List α) : Prop := ∀ a ∈ l, ∀ b ∈ l, Rch nb l a b
theorem conn_from (hs : ∀ c ∈ l, ∀ d ∈ l, d ∈ nb c → c ∈ nb d) (ha : a ∈ l) : Conn nb l ↔ ∀ b ∈ l, Rch nb l a b :=
  ⟨fun h b hb => h a ha b hb, fun h b hb c hc => (Rch.back hs ha (h b hb)).2.trans (h c hc)⟩
theorem rch_map {nb' : β → List β} {l' : List β} {φ : α → β} (hadj : ∀ c ∈ l, ∀ d ∈ l, d ∈ nb c → φ d ∈ nb' (φ c)) (hx : ∀ c ∈ l, φ c ∈ l') (ha : a ∈ l) (h : Rch nb l a b) : b ∈ l ∧ Rch nb' l' (φ a) (φ b) :=
  h (fun b => b ∈ l ∧ Rch nb' l' (φ a) (φ b)) ⟨ha, Rch.refl⟩ fun c d ⟨hc, hca⟩ hd hl => ⟨hl, hca.step (hadj c hc d hl hd) (hx d hl)⟩
theorem conn_map {nb' : β → List β} {l' : List β} {φ : α → β} (hi : ∀ c ∈ l, ∀ d ∈ l, φ c = φ d → c = d) (hadj : ∀ c ∈ l, ∀ d ∈ l, (d ∈ nb c ↔ φ d ∈ nb' (φ c))) (hx : ∀ y, y ∈ l' ↔ ∃ c ∈ l, φ c = y) : Conn nb l ↔ Conn nb' l' := by
  constructor
  · intro h a ha b hb
    obtain ⟨c, hc, rfl⟩ := (hx a).1 ha
    obtain ⟨d, hd, rfl⟩ := (hx b).1 hb
    exact (rch_map (fun c hc d hd h => (hadj c hc d hd).1 h) (fun c hc => (hx _).2 ⟨c, hc, rfl⟩) hc (h c hc d hd)).2
  · intro h a ha b hb
    have := h (φ a) ((hx _).2 ⟨a, ha, rfl⟩) (φ b) ((hx _).2 ⟨b, hb, rfl⟩)
    obtain ⟨c, hc, e, hr⟩ := this (fun y => ∃ c ∈ l, φ c = y ∧ Rch nb l a c) ⟨a, ha, rfl, Rch.refl⟩ (by
      rintro y z ⟨c, hc, rfl, hr⟩ hz hzl
      obtain ⟨d, hd, rfl⟩ := (hx z).1 hzl
      exact ⟨d, hd, rfl, hr.step ((hadj c hc d hd).2 hz) hd⟩)
    exact hi c hc b hb e ▸ hr
theorem nodup_subG : ∀ (o l : List α), o.Nodup → (∀ d ∈ o, d ∈ l) → o.length ≤ l.length
  | [], l, _, _ => Nat.zero_le _
  | a :: o, l, hn, hs => by
    obtain ⟨h1, h2⟩ := List.nodup_cons.1 hn
    obtain ⟨s, t, rfl⟩ := List.append_of_mem (hs a List.mem_cons_self)
    have := nodup_subG o (s ++ t) h2 fun c hc => by
      have h3 := hs c (List.mem_cons_of_mem _ hc)
      have h4 : c ≠ a := fun e => h1 (e ▸ hc)
      simp only [List.mem_append, List.mem_cons] at h3 ⊢
      rcases h3 with h3 | h3 | h3
      · exact .inl h3
      · exact absurd h3 h4
      · exact .inr h3
    simp only [List.length_append, List.length_cons] at this ⊢
    omega
theorem nodup_mapG {φ : α → β} : ∀ (l : List α), l.Nodup → (∀ c ∈ l, ∀ d ∈ l, φ c = φ d → c = d) → (l.map φ).Nodup
  | [], _, _ => List.nodup_nil
  | a :: r, hn, hi => by
    obtain ⟨h1, h2⟩ := List.nodup_cons.1 hn
    rw [List.map_cons, List.nodup_cons]
    refine ⟨fun h => ?_, nodup_mapG r h2 fun c hc d hd => hi c (List.mem_cons_of_mem _ hc) d (List.mem_cons_of_mem _ hd)⟩
    obtain ⟨c, hc, e⟩ := List.mem_map.1 h
    exact h1 (hi c (List.mem_cons_of_mem _ hc) a List.mem_cons_self e ▸ hc)
theorem len_mapG {φ : α → β} {A : List α} {B : List β} (ha : A.Nodup) (hb : B.Nodup) (hi : ∀ c ∈ A, ∀ d ∈ A, φ c = φ d → c = d) (h1 : ∀ c ∈ A, φ c ∈ B) (h2 : ∀ y ∈ B, ∃ c ∈ A, φ c = y) : A.length = B.length := by
  refine Nat.le_antisymm ?_ ?_
  · have := nodup_subG (A.map φ) B (nodup_mapG A ha hi) fun y hy => by
      obtain ⟨c, hc, rfl⟩ := List.mem_map.1 hy
      exact h1 c hc
    simpa using this
  · have := nodup_subG B (A.map φ) hb fun y hy => by
      obtain ⟨c, hc, rfl⟩ := h2 y hy
      exact List.mem_map.2 ⟨c, hc, rfl⟩
    simpa using this
def sumI (f : α → Int) : List α → Int
  | [] => 0
  | a :: r => f a + sumI f r
theorem sumI_perm {f : α → Int} {l l' : List α} (h : l.Perm l') : sumI f l = sumI f l' := by
  induction h with
  | nil => rfl
  | cons _ _ ih => simp only [sumI, ih]
  | swap a b l => simp only [sumI]; omega
  | trans _ _ ih1 ih2 => exact ih1.trans ih2
theorem sumI_map {f : β → Int} {g : α → Int} {φ : α → β} : ∀ (l : List α), (∀ c ∈ l, f (φ c) = g c) → sumI f (l.map φ) = sumI g l
  | [], _ => rfl
  | a :: r, h => by
    rw [List.map_cons, sumI, sumI, h a List.mem_cons_self, sumI_map r fun c hc => h c (List.mem_cons_of_mem _ hc)]
end
end Go.Proofs.Ytonldmalaajkgaa.L
end
section
namespace Go.Proofs.Ytonldmalaajkgaa.L
set_option linter.unusedVariables false
abbrev V3 := Int × Int × Int
abbrev M3 := V3 × V3 × V3
def add3 (p q : V3) : V3 := (p.1 + q.1, p.2.1 + q.2.1, p.2.2 + q.2.2)
def sub3 (p q : V3) : V3 := (p.1 - q.1, p.2.1 - q.2.1, p.2.2 - q.2.2)
def app3 (A : M3) (p : V3) : V3 := (A.1.1 * p.1 + A.2.1.1 * p.2.1 + A.2.2.1 * p.2.2, A.1.2.1 * p.1 + A.2.1.2.1 * p.2.1 + A.2.2.2.1 * p.2.2, A.1.2.2 * p.1 + A.2.1.2.2 * p.2.1 + A.2.2.2.2 * p.2.2)
def mul3 (A B : M3) : M3 := (app3 A B.1, app3 A B.2.1, app3 A B.2.2)
def one3 : M3 := ((1, 0, 0), (0, 1, 0), (0, 0, 1))
theorem app_mul3 (A B : M3) (p : V3) : app3 (mul3 A B) p = app3 A (app3 B p) := by
  obtain ⟨⟨a, b, c⟩, ⟨d, e, f⟩, ⟨g, h, i⟩⟩ := A
  obtain ⟨⟨a', b', c'⟩, ⟨d', e', f'⟩, ⟨g', h', i'⟩⟩ := B
  obtain ⟨x, y, z⟩ := p
  simp only [app3, mul3, Prod.mk.injEq, Int.add_mul, Int.mul_add, Int.mul_assoc]
  omega
theorem mul_assoc3 (A B C : M3) : mul3 (mul3 A B) C = mul3 A (mul3 B C) := by
  show (app3 (mul3 A B) C.1, app3 (mul3 A B) C.2.1, app3 (mul3 A B) C.2.2) = _
  rw [app_mul3, app_mul3, app_mul3]; rfl
theorem app_one3 (p : V3) : app3 one3 p = p := by
  obtain ⟨x, y, z⟩ := p
  simp only [app3, one3, Prod.mk.injEq]
  omega
theorem mul_one3 (A : M3) : mul3 A one3 = A := by
  obtain ⟨⟨a, b, c⟩, ⟨d, e, f⟩, ⟨g, h, i⟩⟩ := A
  simp only [app3, mul3, one3, Prod.mk.injEq]
  omega
theorem app_add3 (A : M3) (p q : V3) : app3 A (add3 p q) = add3 (app3 A p) (app3 A q) := by
  simp only [app3, add3, Prod.mk.injEq, Int.mul_add]
  omega
theorem app_sub3 (A : M3) (p q : V3) : app3 A (sub3 p q) = sub3 (app3 A p) (app3 A q) := by
  simp only [app3, sub3, Prod.mk.injEq, Int.mul_sub]
  omega
def mZ : M3 := ((0, 1, 0), (-1, 0, 0), (0, 0, 1))
def mX : M3 := ((1, 0, 0), (0, 0, 1), (0, -1, 0))
def mN : M3 := ((-1, 0, 0), (0, 1, 0), (0, 0, 1))
def m4 : M3 := ((0, 0, -1), (0, 1, 0), (1, 0, 0))
def m5 : M3 := ((0, 0, 1), (0, 1, 0), (-1, 0, 0))
def pow3 (A : M3) : Nat → M3
  | 0 => one3
  | n + 1 => mul3 (pow3 A n) A
def tilt3 (f : Nat) : M3 := if f < 4 then pow3 mX f else if f = 5 then m5 else m4
def mat3 (t : Nat) : M3 := mul3 (tilt3 (t / 4 % 6)) (mul3 (pow3 mZ (t % 4)) (if t ≥ 24 then mN else one3))
def units3 : List V3 := [(0, 0, -1), (0, -1, 0), (-1, 0, 0), (1, 0, 0), (0, 1, 0), (0, 0, 1)]
def rows3 (A : M3) : List V3 := [(A.1.1, A.2.1.1, A.2.2.1), (A.1.2.1, A.2.1.2.1, A.2.2.2.1), (A.1.2.2, A.2.1.2.2, A.2.2.2.2)]
def mats3 : List M3 := (List.range 48).map mat3
theorem mat_mem {t : Nat} (h : t < 48) : mat3 t ∈ mats3 := List.mem_map.2 ⟨t, List.mem_range.2 h, rfl⟩
theorem mats_at {A : M3} (h : A ∈ mats3) : ∃ t, t < 48 ∧ mat3 t = A := by
  obtain ⟨t, ht, e⟩ := List.mem_map.1 h
  exact ⟨t, List.mem_range.1 ht, e⟩
theorem mats_fine : ∀ A ∈ mats3, (∀ v ∈ units3, app3 A v ∈ units3) ∧ (∀ r ∈ rows3 A, r ∈ units3) := by decide +kernel
theorem mats_mul : ∀ A ∈ mats3, ∀ B ∈ mats3, mul3 A B ∈ mats3 := by decide +kernel
theorem mats_inv : ∀ A ∈ mats3, ∃ B ∈ mats3, mul3 B A = one3 := by decide +kernel
theorem mats_div {A C : M3} (ha : A ∈ mats3) (hc : C ∈ mats3) : ∃ B ∈ mats3, mul3 B A = C := by
  obtain ⟨B, hb, e⟩ := mats_inv A ha
  exact ⟨mul3 C B, mats_mul C hc B hb, by rw [mul_assoc3, e, mul_one3]⟩
def box3 (m : Int) (p : V3) : Prop := (-m ≤ p.1 ∧ p.1 ≤ m) ∧ (-m ≤ p.2.1 ∧ p.2.1 ≤ m) ∧ (-m ≤ p.2.2 ∧ p.2.2 ≤ m)
theorem row_bd {r p : V3} {m : Int} (h : r ∈ units3) (hp : box3 m p) : -m ≤ r.1 * p.1 + r.2.1 * p.2.1 + r.2.2 * p.2.2 ∧ r.1 * p.1 + r.2.1 * p.2.1 + r.2.2 * p.2.2 ≤ m := by
  unfold box3 at hp
  simp only [units3, List.mem_cons, List.not_mem_nil, or_false] at h
  rcases h with rfl | rfl | rfl | rfl | rfl | rfl <;> (simp only; omega)
theorem mats_box {A : M3} (h : A ∈ mats3) {m : Int} {p : V3} (hp : box3 m p) : box3 m (app3 A p) := by
  have hr := (mats_fine A h).2
  exact ⟨row_bd (r := (A.1.1, A.2.1.1, A.2.2.1)) (hr _ (by simp [rows3])) hp, row_bd (r := (A.1.2.1, A.2.1.2.1, A.2.2.2.1)) (hr _ (by simp [rows3])) hp, row_bd (r := (A.1.2.2, A.2.1.2.2, A.2.2.2.2)) (hr _ (by simp [rows3])) hp⟩
theorem mats_inj {A : M3} (h : A ∈ mats3) {p q : V3} (e : app3 A p = app3 A q) : p = q := by
  obtain ⟨B, _, eb⟩ := mats_inv A h
  have := congrArg (app3 B) e
  rw [← app_mul3, ← app_mul3, eb, app_one3, app_one3] at this
  exact this
def adj3 (p q : V3) : Prop := sub3 q p ∈ units3
theorem mats_adj {A : M3} (h : A ∈ mats3) {p q : V3} : adj3 p q ↔ adj3 (app3 A p) (app3 A q) := by
  unfold adj3
  rw [← app_sub3]
  constructor
  · exact (mats_fine A h).1 _
  · intro h2
    obtain ⟨B, hb, eb⟩ := mats_inv A h
    have := (mats_fine B hb).1 _ h2
    rw [← app_mul3, eb, app_one3] at this
    exact this
end Go.Proofs.Ytonldmalaajkgaa.L
end
section
namespace Go.Proofs.Ytonldmalaajkgaa.L
open Go.RowKit Go.Proofs.YtonldmalaajkgaaW.PrintWords Go.Proofs.YtonldmalaajkgaaW.PrintLast Go.Proofs.YtonldmalaajkgaaW.PrintMore Go.Proofs.Ytonldmalaajkgaa.F
set_option linter.unusedVariables false
set_option linter.unusedSimpArgs false
theorem in_eq (a b c : Int) : spec_l01In.f a b c = some (decide (b ≤ a ∧ a ≤ c)) := by
  unfold spec_l01In.f
  by_cases h : a ≥ b
  · rw [if_pos h]; simp [show b ≤ a from h]
  · rw [if_neg h]; simp [show ¬ b ≤ a from h]
theorem within_eq (a b c : Int) : impl_within.f a b c = some (decide (b ≤ a ∧ a ≤ c)) := by
  unfold impl_within.f
  by_cases h : a ≥ b
  · rw [if_pos h]; simp [show b ≤ a from h]
  · rw [if_neg h]; simp [show ¬ b ≤ a from h]
def ok1 (n : Int) : Prop := -100 ≤ n ∧ n ≤ 100
instance (n : Int) : Decidable (ok1 n) := by unfold ok1; infer_instance
theorem isCoordinate_eq (n : Int) : impl_isCoordinate.f n = some (decide (ok1 n)) := by
  unfold impl_isCoordinate.f
  rw [within_eq]
  rfl
theorem l02Cell_eq (x y : Int) : spec_l02Cell.f x y = some (decide (ok1 x ∧ ok1 y)) := by
  unfold spec_l02Cell.f
  rw [in_eq, in_eq]
  simp only [Option.bind_some]
  by_cases h : -100 ≤ x ∧ x ≤ 100
  · have h' : ok1 x := h
    simp only [h, and_self, decide_true, if_true, true_and, h', ok1]
  · have h' : ¬ ok1 x := h
    simp [h, h']
def small {α : Type} (l : List α) : Prop := l.length ≤ 4611686018427387904
theorem pre_lt {α : Type} {xs pre suf : List α} {c : α} (h : xs = pre ++ c :: suf) : ((pre.length : Int) < (xs.length : Int)) = True := by
  subst h; simp; omega
theorem pre_w {α : Type} {xs pre suf : List α} {c : α} (h : xs = pre ++ c :: suf) (hs : small xs) : wrap64 ((pre.length : Int) + 1) = (pre.length : Int) + 1 := by
  subst h
  unfold small at hs
  rw [List.length_append, List.length_cons] at hs
  exact w64 (by omega) (by omega)
theorem pre_0 {α : Type} (pre : List α) : (0 ≤ (pre.length : Int)) = True := by simp
theorem len_lt {α : Type} (xs : List α) : ((xs.length : Int) < (xs.length : Int)) = False := by simp
theorem pre_len {α : Type} {xs pre suf : List α} {c : α} (h : xs = pre ++ c :: suf) : pre.length < xs.length := by
  subst h; simp
abbrev Cube := S63
def okQ (c : Cube) : Prop := ok1 c.f0 ∧ ok1 c.f1 ∧ ok1 c.f2
instance (c : Cube) : Decidable (okQ c) := by unfold okQ; infer_instance
def ltQ (a b : Cube) : Prop := a.f2 < b.f2 ∨ a.f2 = b.f2 ∧ (a.f1 < b.f1 ∨ a.f1 = b.f1 ∧ a.f0 < b.f0)
instance (a b : Cube) : Decidable (ltQ a b) := by unfold ltQ; infer_instance
theorem ltQ_trans {a b c : Cube} (h : ltQ a b) (h' : ltQ b c) : ltQ a c := by unfold ltQ at *; omega
theorem ltQ_irrefl (a : Cube) : ¬ ltQ a a := by unfold ltQ; omega
theorem ltQ_total {a b : Cube} (h : ¬ ltQ a b) (h' : ¬ ltQ b a) : a = b := by
  obtain ⟨a0, a1, a2⟩ := a
  obtain ⟨b0, b1, b2⟩ := b
  unfold ltQ at h h'
  simp only at h h'
  simp only [S63.mk.injEq]
  omega
theorem at_preQ {xs pre suf : List Cube} {c : Cube} (h : xs = pre ++ c :: suf) : rd_T63 xs (pre.length : Int) = c := by
  subst h; exact getD_at pre suf c _
theorem less9_eq (a b : Cube) : spec_l09Less.f a.f0 a.f1 a.f2 b.f0 b.f1 b.f2 = some (decide (ltQ a b)) := by
  unfold spec_l09Less.f ltQ
  by_cases h2 : a.f2 < b.f2
  · simp [h2]
  · by_cases e2 : a.f2 = b.f2
    · by_cases h1 : a.f1 < b.f1
      · simp [e2, h1]
      · by_cases e1 : a.f1 = b.f1
        · simp [e2, e1]
        · simp [e2, h1, e1]
    · simp [h2, e2]
theorem cmpV_lt (a b : Cube) : cmpV a b < 0 ↔ ltQ a b := by
  have h := ltV a b
  unfold Go.Proofs.ltOf at h
  have h2 : (cmpV a b < 0) = (a.f2 < b.f2 ∨ a.f2 = b.f2 ∧ (a.f1 < b.f1 ∨ a.f1 = b.f1 ∧ a.f0 < b.f0)) := by
    have := congrArg (· = true) h
    simpa using this
  rw [h2]
  rfl
theorem cmpV_val (a b : Cube) : cmpV a b = if ltQ a b then -1 else if ltQ b a then 1 else 0 := by
  unfold cmpV cI ltQ
  repeat' split
  all_goals omega
theorem cmpV_ge {a b : Cube} : cmpV a b ≥ 0 ↔ ¬ ltQ a b := by
  rw [← cmpV_lt]; omega
theorem l09Cube_eq (c : Cube) : spec_l09Cube.f c.f0 c.f1 c.f2 = some (decide (okQ c)) := by
  unfold spec_l09Cube.f
  rw [l02Cell_eq, in_eq]
  simp only [Option.bind_some]
  by_cases h : ok1 c.f0 ∧ ok1 c.f1
  · rw [decide_eq_true h, if_pos rfl]
    simp only [okQ, ok1, h.1, h.2, true_and]
    have h1 := h.1
    have h2 := h.2
    unfold ok1 at h1 h2
    simp [h1, h2]
  · rw [decide_eq_false h, if_neg (by simp)]
    have : ¬ okQ c := fun h' => h ⟨h'.1, h'.2.1⟩
    rw [decide_eq_false this]
def goodFromQ : Option Cube → List Cube → Bool
  | _, [] => true
  | p, c :: r => decide (okQ c) && (match p with | none => true | some q => decide (ltQ q c)) && goodFromQ (some c) r
def solidB (l : List Cube) : Bool := goodFromQ none l && decide (1 ≤ (l.length : Int) ∧ (l.length : Int) ≤ 24)
theorem specSolid_ev (l : List Cube) (hs : small l) : Ev (fun k => spec_l09Solid.f k l) (solidB l) := by
  unfold spec_l09Solid.f
  refine loop_list l (fun k i (_ : Unit) => spec_l09Solid.l0 k l i) (fun pre suf _ => goodFromQ pre.getLast? suf && decide (1 ≤ (l.length : Int) ∧ (l.length : Int) ≤ 24)) (fun _ _ => True) ?_ ?_ () trivial
  · intro _ _
    simp only [spec_l09Solid.l0, len_lt, if_false, in_eq, Option.bind_some]
    refine Ev.of_eq (Ev.now _) ?_
    simp [goodFromQ]
  · intro pre c suf _ hx _ ih
    simp only [spec_l09Solid.l0, pre_lt hx, pre_0, if_true, at_preQ hx, l09Cube_eq, Option.bind_some, pre_w hx hs]
    by_cases hc : okQ c
    · simp only [hc, decide_true, if_true]
      rcases List.eq_nil_or_concat pre with rfl | ⟨L, b, rfl⟩
      · refine Ev.neg (by simp) (Ev.of_eq (ih () trivial) ?_)
        simp [goodFromQ, hc]
      · rw [List.concat_eq_append] at hx ih ⊢
        have hx2 : l = L ++ b :: (c :: suf) := by rw [hx]; simp
        have e1 : wrap64 (((L ++ [b]).length : Int) - 1) = (L.length : Int) := by
          unfold small at hs
          rw [hx2] at hs
          simp only [List.length_append, List.length_cons, List.length_nil] at hs ⊢
          rw [w64 (by omega) (by omega)]; omega
        refine Ev.pos (by simp <;> omega) ?_
        simp only [e1, pre_0, if_true, pre_lt hx2, at_preQ hx2, less9_eq, Option.bind_some]
        by_cases hl : ltQ b c
        · refine Ev.pos (by simpa using hl) (Ev.of_eq (ih () trivial) ?_)
          simp [goodFromQ, hc, hl]
        · refine Ev.neg (by simpa using hl) (Ev.of_eq (Ev.now _) ?_)
          simp [goodFromQ, hc, hl]
    · simp only [hc, decide_false, Bool.false_eq_true, if_false]
      refine Ev.of_eq (Ev.now _) ?_
      simp [goodFromQ, hc]
theorem implSolid_ev (l : List Cube) (hs : small l) : Ev (fun k => impl_isSolid.f k l) (solidB l) := by
  unfold impl_isSolid.f
  refine loop_list l (fun k i (_ : Unit) => impl_isSolid.l0 k l l (l.length : Int) i) (fun pre suf _ => goodFromQ pre.getLast? suf && decide (1 ≤ (l.length : Int) ∧ (l.length : Int) ≤ 24)) (fun _ _ => True) ?_ ?_ () trivial
  · intro _ _
    simp only [impl_isSolid.l0, len_lt, if_false]
    refine Ev.of_eq (Ev.if_ (fun _ => Ev.now _) (fun _ => Ev.now _)) ?_
    by_cases h : (l.length : Int) ≥ 1
    · rw [if_pos h]; simp [goodFromQ, show 1 ≤ (l.length : Int) from h]
    · rw [if_neg h]; simp [goodFromQ, show ¬ 1 ≤ (l.length : Int) from h]
  · intro pre c suf _ hx _ ih
    simp only [impl_isSolid.l0, pre_lt hx, pre_0, if_true, at_preQ hx, isCoordinate_eq, Option.bind_some, pre_w hx hs]
    by_cases h0 : ok1 c.f0
    · by_cases h1 : ok1 c.f1
      · by_cases h2 : ok1 c.f2
        · have hc : okQ c := ⟨h0, h1, h2⟩
          simp only [h0, h1, h2, decide_true, if_true]
          rcases List.eq_nil_or_concat pre with rfl | ⟨L, b, rfl⟩
          · refine Ev.neg (by simp) (Ev.of_eq (ih () trivial) ?_)
            simp [goodFromQ, hc]
          · rw [List.concat_eq_append] at hx ih ⊢
            have hx2 : l = L ++ b :: (c :: suf) := by rw [hx]; simp
            have e1 : wrap64 (((L ++ [b]).length : Int) - 1) = (L.length : Int) := by
              unfold small at hs
              rw [hx2] at hs
              simp only [List.length_append, List.length_cons, List.length_nil] at hs ⊢
              rw [w64 (by omega) (by omega)]; omega
            refine Ev.pos (by simp <;> omega) ?_
            simp only [e1, pre_0, if_true, pre_lt hx2, at_preQ hx2, cmpV_eq, Option.bind_some]
            by_cases hl : ltQ b c
            · refine Ev.neg (fun h => cmpV_ge.1 h hl) (Ev.of_eq (ih () trivial) ?_)
              simp [goodFromQ, hc, hl]
            · refine Ev.pos (cmpV_ge.2 hl) (Ev.of_eq (Ev.now _) ?_)
              simp [goodFromQ, hc, hl]
        · have hc : ¬ okQ c := fun h => h2 h.2.2
          simp only [h0, h1, h2, decide_true, if_true, decide_false, Bool.false_eq_true, if_false]
          refine Ev.of_eq (Ev.now _) ?_
          simp [goodFromQ, hc]
      · have hc : ¬ okQ c := fun h => h1 h.2.1
        simp only [h0, h1, decide_true, if_true, decide_false, Bool.false_eq_true, if_false]
        refine Ev.of_eq (Ev.now _) ?_
        simp [goodFromQ, hc]
    · have hc : ¬ okQ c := fun h => h0 h.1
      simp only [h0, decide_false, Bool.false_eq_true, if_false]
      refine Ev.of_eq (Ev.now _) ?_
      simp [goodFromQ, hc]
theorem goodFromQ_ok : ∀ (l : List Cube) (p : Option Cube), goodFromQ p l = true → ∀ c ∈ l, okQ c
  | [], _, _, c, h => by simp at h
  | a :: r, p, hg, c, h => by
    simp only [goodFromQ, Bool.and_eq_true, decide_eq_true_eq] at hg
    rcases List.mem_cons.1 h with rfl | h
    · exact hg.1.1
    · exact goodFromQ_ok r _ hg.2 c h
theorem goodFromQ_lt : ∀ (l : List Cube) (p : Option Cube), goodFromQ p l = true → (∀ q, p = some q → ∀ c ∈ l, ltQ q c) ∧ l.Pairwise ltQ
  | [], _, _ => ⟨fun _ _ c h => by simp at h, List.Pairwise.nil⟩
  | a :: r, p, hg => by
    simp only [goodFromQ, Bool.and_eq_true, decide_eq_true_eq] at hg
    obtain ⟨h1, h2⟩ := goodFromQ_lt r (some a) hg.2
    have h3 := h1 a rfl
    refine ⟨fun q hq c hc => ?_, List.pairwise_cons.2 ⟨h3, h2⟩⟩
    subst hq
    have h4 : ltQ q a := by simpa using hg.1.2
    rcases List.mem_cons.1 hc with rfl | hc
    · exact h4
    · exact ltQ_trans h4 (h3 c hc)
theorem goodFromQ_of : ∀ (l : List Cube) (p : Option Cube), (∀ c ∈ l, okQ c) → (∀ q, p = some q → ∀ c ∈ l, ltQ q c) → l.Pairwise ltQ → goodFromQ p l = true
  | [], _, _, _, _ => rfl
  | a :: r, p, h0, h1, h2 => by
    obtain ⟨h3, h4⟩ := List.pairwise_cons.1 h2
    simp only [goodFromQ, Bool.and_eq_true, decide_eq_true_eq]
    refine ⟨⟨h0 a List.mem_cons_self, ?_⟩, goodFromQ_of r (some a) (fun c hc => h0 c (List.mem_cons_of_mem _ hc)) (fun q hq c hc => by injection hq with hq; subst hq; exact h3 c hc) h4⟩
    cases p with
    | none => rfl
    | some q => simpa using h1 q rfl a List.mem_cons_self
theorem solidB_iff {l : List Cube} : solidB l = true ↔ (∀ c ∈ l, okQ c) ∧ l.Pairwise ltQ ∧ 1 ≤ l.length ∧ l.length ≤ 24 := by
  unfold solidB
  rw [Bool.and_eq_true, decide_eq_true_eq]
  constructor
  · rintro ⟨h, h'⟩
    exact ⟨goodFromQ_ok l _ h, (goodFromQ_lt l _ h).2, by omega, by omega⟩
  · rintro ⟨h1, h2, h3, h4⟩
    exact ⟨goodFromQ_of l none h1 (fun _ h => by cases h) h2, by omega, by omega⟩
theorem solid_pos {l : List Cube} (h : solidB l = true) : 0 < l.length := by have := solidB_iff.1 h; omega
def sameQ (a b : Cube) : Bool := decide (a.f0 = b.f0) && (decide (a.f1 = b.f1) && decide (a.f2 = b.f2))
theorem sameQ_iff {a b : Cube} : sameQ a b = true ↔ a = b := by
  obtain ⟨a0, a1, a2⟩ := a
  obtain ⟨b0, b1, b2⟩ := b
  simp [sameQ]
def idxFQ : List Cube → Cube → Int → Int
  | [], _, _ => -1
  | a :: r, c, i => if sameQ a c = true then i else idxFQ r c (i + 1)
def idxQ (l : List Cube) (c : Cube) : Int := idxFQ l c 0
theorem specIndexQ_ev (l : List Cube) (c : Cube) (hs : small l) : Ev (fun k => spec_l09Index.f k l c.f0 c.f1 c.f2) (idxQ l c) := by
  unfold spec_l09Index.f
  refine loop_list l (fun k i (_ : Unit) => spec_l09Index.l0 k l i c.f0 c.f1 c.f2) (fun pre suf _ => idxFQ suf c (pre.length : Int)) (fun _ _ => True) ?_ ?_ () trivial
  · intro _ _
    simp only [spec_l09Index.l0, len_lt, if_false]
    exact Ev.now _
  · intro pre d suf _ hx _ ih
    simp only [spec_l09Index.l0, pre_lt hx, pre_0, if_true, at_preQ hx, pre_w hx hs, idxFQ]
    have e : (d.f0 == c.f0 && (d.f1 == c.f1 && d.f2 == c.f2)) = sameQ d c := by simp [sameQ, BEq.beq]
    rw [e]
    refine Ev.if_ (fun _ => Ev.now _) (fun _ => Ev.of_eq (ih () trivial) ?_)
    simp
theorem implIndexQ_ev (l : List Cube) (c : Cube) (hs : small l) : Ev (fun k => impl_Cube_74.f k l c.f0 c.f1 c.f2) (idxQ l c) := by
  unfold impl_Cube_74.f
  refine loop_list l (fun k i (_ : Unit) => impl_Cube_74.l0 k l (l.length : Int) i c.f0 c.f1 c.f2) (fun pre suf _ => idxFQ suf c (pre.length : Int)) (fun _ _ => True) ?_ ?_ () trivial
  · intro _ _
    simp only [impl_Cube_74.l0, len_lt, if_false]
    exact Ev.now _
  · intro pre d suf _ hx _ ih
    simp only [impl_Cube_74.l0, pre_lt hx, pre_0, if_true, at_preQ hx, pre_w hx hs, idxFQ]
    have e : (c.f0 == d.f0 && (c.f1 == d.f1 && c.f2 == d.f2)) = sameQ d c := by
      rw [Bool.eq_iff_iff]
      simp only [sameQ, Bool.and_eq_true, beq_iff_eq, decide_eq_true_eq]
      constructor <;> (rintro ⟨h, h', h''⟩; exact ⟨h.symm, h'.symm, h''.symm⟩)
    rw [e]
    refine Ev.if_ (fun _ => Ev.now _) (fun _ => Ev.of_eq (ih () trivial) ?_)
    simp
theorem implContainsQ_ev (l : List Cube) (c : Cube) (hs : small l) : Ev (fun k => impl_Cube_51.f k l c.f0 c.f1 c.f2) (decide (idxQ l c ≥ 0)) := by
  unfold impl_Cube_51.f
  exact Ev.bind (implIndexQ_ev l c hs) (Ev.now _)
def stepsQ : List Cube := [⟨0, 0, -1⟩, ⟨0, -1, 0⟩, ⟨-1, 0, 0⟩, ⟨1, 0, 0⟩, ⟨0, 1, 0⟩, ⟨0, 0, 1⟩]
theorem steps_eq : spec_l09Steps.f = some stepsQ := rfl
def addQ (c d : Cube) : Cube := ⟨wrap64 (c.f0 + d.f0), wrap64 (c.f1 + d.f1), wrap64 (c.f2 + d.f2)⟩
def nbQ (c : Cube) : List Cube := [⟨c.f0, c.f1, wrap64 (c.f2 - 1)⟩, ⟨c.f0, wrap64 (c.f1 - 1), c.f2⟩, ⟨wrap64 (c.f0 - 1), c.f1, c.f2⟩, ⟨wrap64 (c.f0 + 1), c.f1, c.f2⟩, ⟨c.f0, wrap64 (c.f1 + 1), c.f2⟩, ⟨c.f0, c.f1, wrap64 (c.f2 + 1)⟩]
theorem nbQ_len (c : Cube) : (nbQ c).length = 6 := rfl
theorem implAroundQ_eq (c : Cube) : impl_cubesAround.f c.f0 c.f1 c.f2 = some (nbQ c) := rfl
theorem steps_nb {c : Cube} (h : okQ c) : stepsQ.map (addQ c) = nbQ c := by
  obtain ⟨x, y, z⟩ := c
  unfold okQ ok1 at h
  simp only at h
  have w (n : Int) (h0 : -1000 ≤ n) (h1 : n ≤ 1000) : wrap64 n = n := w64 (by omega) (by omega)
  simp only [stepsQ, nbQ, addQ, List.map_cons, List.map_nil, Int.add_zero]
  rw [w x (by omega) (by omega), w y (by omega) (by omega), w z (by omega) (by omega)]
  simp [Int.sub_eq_add_neg]
theorem idxFQ_mem (c : Cube) : ∀ (l : List Cube) (i : Int), 0 ≤ i → (idxFQ l c i ≥ 0 ↔ c ∈ l)
  | [], i, hi => by simp [idxFQ]
  | a :: r, i, hi => by
    unfold idxFQ
    by_cases h : sameQ a c = true
    · rw [if_pos h]
      have := sameQ_iff.1 h
      simp [this, hi]
    · rw [if_neg h, idxFQ_mem c r (i + 1) (by omega)]
      have : ¬ c = a := fun e => h (sameQ_iff.2 e.symm)
      simp [this]
theorem idxQ_mem (l : List Cube) (c : Cube) : idxQ l c ≥ 0 ↔ c ∈ l := idxFQ_mem c l 0 (Int.le_refl _)
def visQ1 (l o : List Cube) (d : Cube) : List Cube := if idxQ l d ≥ 0 ∧ idxQ o d < 0 then o ++ [d] else o
def visQ (l : List Cube) : List Cube → List Cube → List Cube
  | [], o => o
  | d :: r, o => visQ l r (visQ1 l o d)
def growQ (l : List Cube) : Nat → List Cube → Nat → List Cube
  | 0, o, _ => o
  | n + 1, o, a => match o[a]? with
    | none => o
    | some c => growQ l n (visQ l (nbQ c) o) (a + 1)
def connQ (l : List Cube) : Bool := match l with
  | [] => false
  | c :: _ => ((growQ l l.length [c] 0).length : Int) == (l.length : Int)
structure InQ (l o : List Cube) : Prop where
  nd : o.Nodup
  sub : ∀ d ∈ o, d ∈ l
theorem nodup_len : ∀ (o l : List Cube), o.Nodup → (∀ d ∈ o, d ∈ l) → o.length ≤ l.length
  | [], l, _, _ => Nat.zero_le _
  | a :: o, l, hn, hs => by
    obtain ⟨h1, h2⟩ := List.nodup_cons.1 hn
    obtain ⟨s, t, rfl⟩ := List.append_of_mem (hs a List.mem_cons_self)
    have := nodup_len o (s ++ t) h2 fun c hc => by
      have h3 := hs c (List.mem_cons_of_mem _ hc)
      have h4 : c ≠ a := fun e => h1 (e ▸ hc)
      simp only [List.mem_append, List.mem_cons] at h3 ⊢
      rcases h3 with h3 | h3 | h3
      · exact .inl h3
      · exact absurd h3 h4
      · exact .inr h3
    simp only [List.length_append, List.length_cons] at this ⊢
    omega
theorem InQ.len {l o : List Cube} (h : InQ l o) : o.length ≤ l.length := nodup_len o l h.nd h.sub
theorem visQ1_in {l o : List Cube} (h : InQ l o) (d : Cube) : InQ l (visQ1 l o d) := by
  unfold visQ1
  by_cases hc : idxQ l d ≥ 0 ∧ idxQ o d < 0
  · rw [if_pos hc]
    have h1 := (idxQ_mem l d).1 hc.1
    have h2 : d ∉ o := fun e => by have := (idxQ_mem o d).2 e; omega
    refine ⟨?_, fun x hx => ?_⟩
    · rw [List.nodup_append]
      refine ⟨h.nd, by simp, fun a ha b hb e => ?_⟩
      simp at hb
      exact h2 (hb ▸ e ▸ ha)
    · rcases List.mem_append.1 hx with hx | hx
      · exact h.sub x hx
      · simp at hx; exact hx ▸ h1
  · rw [if_neg hc]; exact h
theorem visQ_in {l : List Cube} : ∀ (ds : List Cube) {o : List Cube}, InQ l o → InQ l (visQ l ds o)
  | [], o, h => h
  | d :: r, o, h => visQ_in r (visQ1_in h d)
theorem visQ1_at {l o : List Cube} {a : Nat} {c : Cube} (h : o[a]? = some c) (d : Cube) : (visQ1 l o d)[a]? = some c := by
  unfold visQ1
  split
  · rw [List.getElem?_append_left (List.getElem?_eq_some_iff.1 h).1]; exact h
  · exact h
theorem rdQC {o : List Cube} {a : Nat} {c : Cube} (h : o[a]? = some c) : rd_T63 o (a : Int) = c ∧ a < o.length := by
  refine ⟨?_, (List.getElem?_eq_some_iff.1 h).1⟩
  unfold rd_T63
  rw [List.getD_eq_getElem?_getD, Int.toNat_natCast, h]; rfl
theorem specConn_l1 (l : List Cube) (hl : l.length ≤ 1048576) (a : Nat) (c : Cube) {r : Bool} : ∀ (suf pre o : List Cube), stepsQ = pre ++ suf → InQ l o → o[a]? = some c →
    Ev (fun k => spec_l09Connected.l0 k l (visQ l (suf.map (addQ c)) o) (wrap64 ((a : Int) + 1))) r → Ev (fun k => spec_l09Connected.l1 k l o (a : Int) (pre.length : Int)) r
  | [], pre, o, hx, hi, ha, hc => by
    refine Ev.succ ?_
    have hp : pre.length = 6 := by have := congrArg List.length hx; simp [stepsQ] at this; omega
    simp only [spec_l09Connected.l1]
    exact Ev.neg (by omega) hc
  | d :: suf, pre, o, hx, hi, ha, hc => by
    refine Ev.succ ?_
    have hp : pre.length + (suf.length + 1) = 6 := by have := congrArg List.length hx; simp [stepsQ] at this; omega
    have h6 : stepsQ.length = 6 := rfl
    have ew : wrap64 ((pre.length : Int) + 1) = ((pre ++ [d]).length : Int) := by rw [w64 (by omega) (by omega)]; simp
    have hadd : spec_l09Add.f c.f0 c.f1 c.f2 (rd_T63 stepsQ (pre.length : Int)).f0 (rd_T63 stepsQ (pre.length : Int)).f1 (rd_T63 stepsQ (pre.length : Int)).f2 = some ((addQ c d).f0, (addQ c d).f1, (addQ c d).f2) := by
      rw [at_preQ hx]; rfl
    obtain ⟨hr, hlt⟩ := rdQC ha
    have hol := hi.len
    have hs : small l := by unfold small; omega
    have hos : small o := by unfold small; omega
    have hn (hc' : Ev (fun k => spec_l09Connected.l0 k l (visQ l (suf.map (addQ c)) (visQ1 l o (addQ c d))) (wrap64 ((a : Int) + 1))) r) := specConn_l1 l hl a c suf (pre ++ [d]) _ (by rw [hx]; simp) (visQ1_in hi (addQ c d)) (visQ1_at ha _) hc'
    have hn' := hn hc
    simp only [spec_l09Connected.l1, hr, ew]
    refine Ev.pos (by omega) (Ev.pos (by omega) (Ev.pos (by omega) (Ev.bind0 steps_eq (Ev.pos (by omega) (Ev.pos (by omega) (Ev.bind0 hadd (Ev.bind (specIndexQ_ev l (addQ c d) hs) ?_)))))))
    unfold visQ1 at hn'
    by_cases hm : idxQ l (addQ c d) ≥ 0
    · refine Ev.pos hm (Ev.bind (specIndexQ_ev o (addQ c d) hos) ?_)
      by_cases hm2 : idxQ o (addQ c d) < 0
      · rw [if_pos ⟨hm, hm2⟩] at hn'
        exact Ev.pos hm2 (Ev.pos (by omega) hn')
      · rw [if_neg fun g => hm2 g.2] at hn'
        exact Ev.neg hm2 hn'
    · rw [if_neg fun g => hm g.1] at hn'
      exact Ev.neg hm hn'
theorem specConn_l0 (l : List Cube) (hl : l.length ≤ 1048576) (hok : ∀ c ∈ l, okQ c) : ∀ (n a : Nat) (o : List Cube), a + n = l.length → InQ l o → Ev (fun k => spec_l09Connected.l0 k l o (a : Int)) (((growQ l n o a).length : Int) == (l.length : Int))
  | 0, a, o, hn, hi => by
    refine Ev.succ ?_
    have hol := hi.len
    simp only [spec_l09Connected.l0]
    exact Ev.neg (by omega) (Ev.now _)
  | n + 1, a, o, hn, hi => by
    refine Ev.succ ?_
    simp only [spec_l09Connected.l0]
    unfold growQ
    cases ha : o[a]? with
    | none =>
      have := List.getElem?_eq_none_iff.1 ha
      exact Ev.neg (by omega) (Ev.now _)
    | some c =>
      obtain ⟨hr, hlt⟩ := rdQC ha
      have hc : c ∈ l := hi.sub c (List.mem_of_getElem? ha)
      refine Ev.pos (by omega) (specConn_l1 l hl a c stepsQ [] o rfl hi ha ?_)
      rw [steps_nb (hok c hc), w64 (n := (a : Int) + 1) (by omega) (by omega)]
      exact specConn_l0 l hl hok n (a + 1) _ (by omega) (visQ_in _ hi)
theorem specConnQ_ev (l : List Cube) (h : solidB l = true) : Ev (fun k => spec_l09Connected.f k l) (connQ l) := by
  obtain ⟨h1, h2, h3, h4⟩ := solidB_iff.1 h
  unfold spec_l09Connected.f connQ
  cases l with
  | nil => simp at h3
  | cons c r =>
    refine Ev.pos (by rw [List.length_cons]; omega) ?_
    exact specConn_l0 (c :: r) (by omega) h1 (c :: r).length 0 [c] (by omega) ⟨by simp, fun d hd => by simp at hd; simp [hd]⟩
theorem implConn_l1 (l : List Cube) (hl : l.length ≤ 1048576) (a : Int) (nb : List Cube) (hn : nb.length = 6) {r : Bool} : ∀ (suf pre o : List Cube), nb = pre ++ suf → InQ l o →
    Ev (fun k => impl_connectedCubes.l0 k l (visQ l suf o) (wrap64 (a + 1))) r → Ev (fun k => impl_connectedCubes.l1 k l o a nb (nb.length : Int) (pre.length : Int)) r
  | [], pre, o, hx, hi, hc => by
    refine Ev.succ ?_
    rw [List.append_nil] at hx
    subst hx
    simp only [impl_connectedCubes.l1]
    exact Ev.neg (by omega) hc
  | d :: suf, pre, o, hx, hi, hc => by
    refine Ev.succ ?_
    have hsm : small nb := by unfold small; omega
    have hol := hi.len
    have hs : small l := by unfold small; omega
    have hos : small o := by unfold small; omega
    have hn' := implConn_l1 l hl a nb hn suf (pre ++ [d]) _ (by rw [hx]; simp) (visQ1_in hi d) hc
    simp only [List.length_append, List.length_singleton, Int.natCast_add] at hn'
    simp only [impl_connectedCubes.l1, pre_lt hx, pre_0, if_true, at_preQ hx, pre_w hx hsm]
    refine Ev.bind (implContainsQ_ev l d hs) ?_
    unfold visQ1 at hn'
    by_cases hm : idxQ l d ≥ 0
    · refine Ev.pos (by simpa using hm) (Ev.bind (implContainsQ_ev o d hos) ?_)
      by_cases hm2 : idxQ o d < 0
      · rw [if_pos ⟨hm, hm2⟩] at hn'
        exact Ev.neg (by simp; omega) (Ev.pos (by omega) hn')
      · rw [if_neg fun g => hm2 g.2] at hn'
        exact Ev.pos (by simp; omega) hn'
    · rw [if_neg fun g => hm g.1] at hn'
      exact Ev.neg (by simpa using hm) hn'
theorem implConn_l0 (l : List Cube) (hl : l.length ≤ 1048576) : ∀ (n a : Nat) (o : List Cube), a + n = l.length → InQ l o → Ev (fun k => impl_connectedCubes.l0 k l o (a : Int)) (((growQ l n o a).length : Int) == (l.length : Int))
  | 0, a, o, hn, hi => by
    refine Ev.succ ?_
    have hol := hi.len
    simp only [impl_connectedCubes.l0]
    exact Ev.neg (by omega) (Ev.now _)
  | n + 1, a, o, hn, hi => by
    refine Ev.succ ?_
    simp only [impl_connectedCubes.l0]
    unfold growQ
    cases ha : o[a]? with
    | none =>
      have := List.getElem?_eq_none_iff.1 ha
      exact Ev.neg (by omega) (Ev.now _)
    | some c =>
      obtain ⟨hr, hlt⟩ := rdQC ha
      rw [hr]
      refine Ev.pos (by omega) (Ev.pos (by omega) (Ev.bind0 (implAroundQ_eq c) (implConn_l1 l hl (a : Int) (nbQ c) rfl (nbQ c) [] o rfl hi ?_)))
      rw [w64 (n := (a : Int) + 1) (by omega) (by omega)]
      exact implConn_l0 l hl n (a + 1) _ (by omega) (visQ_in _ hi)
theorem implConnQ_ev (l : List Cube) (h : solidB l = true) : Ev (fun k => impl_connectedCubes.f k l) (connQ l) := by
  obtain ⟨h1, h2, h3, h4⟩ := solidB_iff.1 h
  unfold impl_connectedCubes.f connQ
  cases l with
  | nil => simp at h3
  | cons c r =>
    refine Ev.pos (by rw [List.length_cons]; omega) ?_
    exact implConn_l0 (c :: r) (by omega) (c :: r).length 0 [c] (by omega) ⟨by simp, fun d hd => by simp at hd; simp [hd]⟩
def isSolidR (l : List Cube) : Bool × Bool := if solidB l = true then (true, connQ l) else (false, false)
theorem specIsSolid_ev (l : List Cube) (hs : small l) : Ev (fun k => spec_IsSolid.f k l) (isSolidR l) := by
  unfold spec_IsSolid.f isSolidR
  exact Ev.bind (specSolid_ev l hs) (Ev.if_ (fun h => Ev.bind (specConnQ_ev l h) (Ev.now _)) (fun _ => Ev.now _))
theorem implIsSolid_ev (l : List Cube) (hs : small l) : Ev (fun k => impl_IsSolid.f k l) (isSolidR l) := by
  unfold impl_IsSolid.f isSolidR
  exact Ev.bind (implSolid_ev l hs) (Ev.if_ (fun h => Ev.bind (implConnQ_ev l h) (Ev.now _)) (fun _ => Ev.now _))
def cntF (l : List Cube) : List Cube → Int → Int
  | [], n => n
  | d :: r, n => cntF l r (if idxQ l d ≥ 0 then n else wrap64 (n + 1))
def faceF (l : List Cube) : List Cube → Int → Int
  | [], n => n
  | c :: r, n => faceF l r (cntF l (nbQ c) n)
def faceR (l : List Cube) : Int × Int := if solidB l = true then (faceF l l 0, 0) else (0, 1)
theorem implFace_l (l : List Cube) (hs : small l) (xs : List Cube) (nb : List Cube) (hn : nb.length = 6) (len i : Int) {r : Int × Int} : ∀ (suf pre : List Cube) (n : Int), nb = pre ++ suf →
    Ev (fun k => impl_FaceCount.l0 k l (cntF l suf n) xs len (wrap64 (i + 1))) r → Ev (fun k => impl_FaceCount.l1 k l n xs len i nb (nb.length : Int) (pre.length : Int)) r
  | [], pre, n, hx, hc => by
    refine Ev.succ ?_
    rw [List.append_nil] at hx
    subst hx
    simp only [impl_FaceCount.l1]
    exact Ev.neg (by omega) hc
  | d :: suf, pre, n, hx, hc => by
    refine Ev.succ ?_
    have hsm : small nb := by unfold small; omega
    have hi (n' : Int) (hc' : Ev (fun k => impl_FaceCount.l0 k l (cntF l suf n') xs len (wrap64 (i + 1))) r) := implFace_l l hs xs nb hn len i suf (pre ++ [d]) n' (by rw [hx]; simp) hc'
    simp only [List.length_append, List.length_singleton, Int.natCast_add] at hi
    simp only [impl_FaceCount.l1, pre_lt hx, pre_0, if_true, at_preQ hx, pre_w hx hsm]
    refine Ev.bind (implContainsQ_ev l d hs) ?_
    rw [cntF] at hc
    by_cases hm : idxQ l d ≥ 0
    · rw [if_pos hm] at hc
      exact Ev.pos (by simpa using hm) (hi _ hc)
    · rw [if_neg hm] at hc
      exact Ev.neg (by simpa using hm) (hi _ hc)
theorem implFace_ev (l : List Cube) (hs : small l) : Ev (fun k => impl_FaceCount.f k l) (faceR l) := by
  unfold impl_FaceCount.f faceR
  refine Ev.bind (implSolid_ev l hs) (Ev.if_ (fun h => ?_) (fun _ => Ev.now _))
  refine loop_list l (fun k i (n : Int) => impl_FaceCount.l0 k l n l (l.length : Int) i) (fun _ suf n => (faceF l suf n, 0)) (fun _ _ => True) ?_ ?_ 0 trivial
  · intro n _
    simp only [impl_FaceCount.l0, len_lt, if_false]
    exact Ev.now _
  · intro pre c suf n hx _ ih
    simp only [impl_FaceCount.l0, pre_lt hx, pre_0, if_true, at_preQ hx]
    refine Ev.bind0 (implAroundQ_eq c) ?_
    refine implFace_l l hs l (nbQ c) rfl _ _ (nbQ c) [] n rfl ?_
    rw [pre_w hx hs]
    exact ih _ trivial
def inQ (l : List Cube) (c : Cube) : Bool := decide (idxQ l c ≥ 0)
theorem cntF_val (l : List Cube) : ∀ (ds : List Cube) (n : Int), 0 ≤ n → n + (ds.length : Int) ≤ 1000000 → cntF l ds n = n + ((ds.length : Int) - ((ds.countP (inQ l) : Nat) : Int))
  | [], n, h0, h1 => by simp [cntF]
  | d :: r, n, h0, h1 => by
    rw [List.length_cons] at h1 ⊢
    rw [cntF, List.countP_cons]
    by_cases h : idxQ l d ≥ 0
    · have e : inQ l d = true := decide_eq_true h
      rw [if_pos h, cntF_val l r n h0 (by omega), if_pos e]; omega
    · have e : ¬ inQ l d = true := by unfold inQ; simpa using h
      rw [if_neg h, w64 (by omega) (by omega), cntF_val l r (n + 1) (by omega) (by omega), if_neg e]; omega
def toV (c : Cube) : V3 := (c.f0, c.f1, c.f2)
theorem toV_inj {c d : Cube} (h : toV c = toV d) : c = d := by
  obtain ⟨a, b, e⟩ := c
  obtain ⟨a', b', e'⟩ := d
  simpa [toV] using h
theorem cube_eq {c d : Cube} : c = d ↔ c.f0 = d.f0 ∧ c.f1 = d.f1 ∧ c.f2 = d.f2 := by
  obtain ⟨a, b, e⟩ := c
  obtain ⟨a', b', e'⟩ := d
  simp
def nearQ (m : Int) (c : Cube) : Prop := box3 m (toV c)
theorem nearQ_ok {c : Cube} (h : okQ c) : nearQ 100 c := by
  unfold okQ ok1 at h
  unfold nearQ box3 toV
  simp only; omega
theorem nbQ_adj {c d : Cube} (h : nearQ 1000 c) : d ∈ nbQ c ↔ adj3 (toV c) (toV d) := by
  unfold nearQ box3 toV at h
  simp only at h
  have w (n : Int) (h0 : -2000 ≤ n) (h1 : n ≤ 2000) : wrap64 n = n := w64 (by omega) (by omega)
  unfold nbQ adj3 units3 sub3 toV
  rw [w (c.f2 - 1) (by omega) (by omega), w (c.f1 - 1) (by omega) (by omega), w (c.f0 - 1) (by omega) (by omega), w (c.f2 + 1) (by omega) (by omega), w (c.f1 + 1) (by omega) (by omega), w (c.f0 + 1) (by omega) (by omega)]
  simp only [List.mem_cons, List.not_mem_nil, or_false, cube_eq, Prod.mk.injEq]
  refine or_congr ?_ (or_congr ?_ (or_congr ?_ (or_congr ?_ (or_congr ?_ ?_)))) <;> omega
theorem adj3_sym {p q : V3} (h : adj3 p q) : adj3 q p := by
  unfold adj3 units3 sub3 at *
  simp only [List.mem_cons, List.not_mem_nil, or_false, Prod.mk.injEq] at *
  rcases h with h | h | h | h | h | h
  · exact .inr (.inr (.inr (.inr (.inr (by omega)))))
  · exact .inr (.inr (.inr (.inr (.inl (by omega)))))
  · exact .inr (.inr (.inr (.inl (by omega))))
  · exact .inr (.inr (.inl (by omega)))
  · exact .inr (.inl (by omega))
  · exact .inl (by omega)
theorem nbQ_sym {c d : Cube} (hc : nearQ 1000 c) (hd : nearQ 1000 d) (h : d ∈ nbQ c) : c ∈ nbQ d := (nbQ_adj hd).2 (adj3_sym ((nbQ_adj hc).1 h))
theorem nbQ_nodup {c : Cube} (h : nearQ 1000 c) : (nbQ c).Nodup := by
  unfold nearQ box3 toV at h
  simp only at h
  have w (n : Int) (h0 : -2000 ≤ n) (h1 : n ≤ 2000) : wrap64 n = n := w64 (by omega) (by omega)
  unfold nbQ
  rw [w (c.f2 - 1) (by omega) (by omega), w (c.f1 - 1) (by omega) (by omega), w (c.f0 - 1) (by omega) (by omega), w (c.f2 + 1) (by omega) (by omega), w (c.f1 + 1) (by omega) (by omega), w (c.f0 + 1) (by omega) (by omega)]
  simp only [List.nodup_cons, List.mem_cons, List.not_mem_nil, or_false, cube_eq, not_false_eq_true, List.nodup_nil, and_true]
  refine ⟨fun h => ?_, fun h => ?_, fun h => ?_, fun h => ?_, fun h => ?_⟩
  · rcases h with h | h | h | h | h <;> omega
  · rcases h with h | h | h | h <;> omega
  · rcases h with h | h | h <;> omega
  · rcases h with h | h <;> omega
  · omega
theorem visQ1_sub {l o : List Cube} (d : Cube) : ∀ x ∈ o, x ∈ visQ1 l o d := fun x hx => by
  unfold visQ1
  split
  · exact List.mem_append_left _ hx
  · exact hx
theorem visQ_sub {l : List Cube} : ∀ (ds o : List Cube), ∀ x ∈ o, x ∈ visQ l ds o
  | [], o, x, hx => hx
  | d :: r, o, x, hx => visQ_sub r _ x (visQ1_sub d x hx)
theorem visQ_has {l : List Cube} : ∀ (ds o : List Cube), ∀ d ∈ ds, d ∈ l → d ∈ visQ l ds o
  | [], o, d, hd, _ => by simp at hd
  | e :: r, o, d, hd, hl => by
    rcases List.mem_cons.1 hd with rfl | hd
    · refine visQ_sub r _ d ?_
      unfold visQ1
      split
      · simp
      · rename_i hc
        have h1 := (idxQ_mem l d).2 hl
        by_cases h2 : idxQ o d < 0
        · exact absurd ⟨h1, h2⟩ hc
        · exact (idxQ_mem o d).1 (by omega)
    · exact visQ_has r _ d hd hl
theorem visQ_from {l : List Cube} : ∀ (ds o : List Cube), ∀ x ∈ visQ l ds o, x ∈ o ∨ x ∈ ds ∧ x ∈ l
  | [], o, x, hx => .inl hx
  | e :: r, o, x, hx => by
    rcases visQ_from r _ x hx with h | ⟨h, h'⟩
    · unfold visQ1 at h
      split at h
      · rename_i hc
        rcases List.mem_append.1 h with h | h
        · exact .inl h
        · simp at h
          subst h
          exact .inr ⟨List.mem_cons_self, (idxQ_mem l x).1 hc.1⟩
      · exact .inl h
    · exact .inr ⟨List.mem_cons_of_mem _ h, h'⟩
theorem visQ_at {l : List Cube} : ∀ (ds : List Cube) {o : List Cube} {a : Nat} {c : Cube}, o[a]? = some c → (visQ l ds o)[a]? = some c
  | [], _, _, _, h => h
  | d :: r, _, _, _, h => visQ_at r (visQ1_at h d)
theorem growQ_in {l : List Cube} : ∀ (n : Nat) (o : List Cube) (a : Nat), InQ l o → InQ l (growQ l n o a)
  | 0, o, a, h => h
  | n + 1, o, a, h => by
    unfold growQ
    split
    · exact h
    · exact growQ_in n _ _ (visQ_in _ h)
theorem growQ_sub {l : List Cube} : ∀ (n : Nat) (o : List Cube) (a : Nat), ∀ x ∈ o, x ∈ growQ l n o a
  | 0, o, a, x, h => h
  | n + 1, o, a, x, h => by
    unfold growQ
    split
    · exact h
    · exact growQ_sub n _ _ x (visQ_sub _ _ x h)
theorem growQ_reach {l : List Cube} {h : Cube} : ∀ (n : Nat) (o : List Cube) (a : Nat), (∀ d ∈ o, Rch nbQ l h d) → ∀ d ∈ growQ l n o a, Rch nbQ l h d
  | 0, o, a, hr, d, hd => hr d hd
  | n + 1, o, a, hr, d, hd => by
    unfold growQ at hd
    split at hd
    · exact hr d hd
    · rename_i c hc
      refine growQ_reach n _ _ (fun x hx => ?_) d hd
      rcases visQ_from _ _ x hx with g | ⟨g, g'⟩
      · exact hr x g
      · exact (hr c (List.mem_of_getElem? hc)).step g g'
theorem growQ_closed {l : List Cube} : ∀ (n : Nat) (o : List Cube) (a : Nat), a + n = l.length → InQ l o → (∀ i c, i < a → o[i]? = some c → ∀ d ∈ nbQ c, d ∈ l → d ∈ o) → ∀ c ∈ growQ l n o a, ∀ d ∈ nbQ c, d ∈ l → d ∈ growQ l n o a
  | 0, o, a, hn, hi, hc, c, hcm, d, hd, hl => by
    obtain ⟨i, hi2, rfl⟩ := List.getElem_of_mem hcm
    have := hi.len
    simp only [growQ] at hi2 ⊢
    exact hc i _ (by omega) (List.getElem?_eq_getElem hi2) d hd hl
  | n + 1, o, a, hn, hi, hc, c, hcm, d, hd, hl => by
    unfold growQ at hcm ⊢
    split at hcm
    · rename_i ha
      have := List.getElem?_eq_none_iff.1 ha
      obtain ⟨i, hi2, rfl⟩ := List.getElem_of_mem hcm
      exact hc i _ (by omega) (List.getElem?_eq_getElem hi2) d hd hl
    · rename_i e he
      refine growQ_closed n _ _ (by omega) (visQ_in _ hi) (fun i x hia hx y hy hyl => ?_) c hcm d hd hl
      have hlt := (List.getElem?_eq_some_iff.1 he).1
      by_cases hia2 : i = a
      · subst hia2
        have := visQ_at (nbQ e) he (l := l)
        rw [this] at hx
        injection hx with hx
        subst hx
        exact visQ_has _ _ y hy hyl
      · have hi3 : i < o.length := by omega
        have := visQ_at (nbQ e) (List.getElem?_eq_getElem hi3) (l := l)
        rw [this] at hx
        injection hx with hx
        subst hx
        exact visQ_sub _ _ y (hc i _ (by omega) (List.getElem?_eq_getElem hi3) y hy hyl)
theorem connQ_iff {l : List Cube} (h : solidB l = true) : connQ l = true ↔ Conn nbQ l := by
  obtain ⟨h1, h2, h3, h4⟩ := solidB_iff.1 h
  have hnd : l.Nodup := h2.imp fun {a b} hab e => by
    subst e
    exact ltQ_irrefl _ hab
  have hsym : ∀ c ∈ l, ∀ d ∈ l, d ∈ nbQ c → c ∈ nbQ d := fun c hc d hd hcd => by
    have g1 := nearQ_ok (h1 c hc)
    have g2 := nearQ_ok (h1 d hd)
    refine nbQ_sym ?_ ?_ hcd
    · unfold nearQ box3 at *; omega
    · unfold nearQ box3 at *; omega
  cases l with
  | nil => simp at h3
  | cons c r =>
    rw [conn_from hsym (a := c) List.mem_cons_self]
    show (((growQ (c :: r) (c :: r).length [c] 0).length : Int) == ((c :: r).length : Int)) = true ↔ _
    have hi0 : InQ (c :: r) [c] := ⟨by simp, fun d hd => by simp at hd; simp [hd]⟩
    have hin := growQ_in (c :: r).length [c] 0 hi0
    have hcl := growQ_closed (c :: r).length [c] 0 (by omega) hi0 (fun i _ hi => by omega)
    have hre := growQ_reach (l := c :: r) (h := c) (c :: r).length [c] 0 (fun d hd => by simp at hd; subst hd; exact Rch.refl)
    have hsb := growQ_sub (l := c :: r) (c :: r).length [c] 0 c (by simp)
    generalize growQ (c :: r) (c :: r).length [c] 0 = R at hin hcl hre hsb ⊢
    simp only [beq_iff_eq]
    constructor
    · intro e b hb
      by_cases hm : b ∈ R
      · exact hre b hm
      · have := nodup_subG (b :: R) (c :: r) (List.nodup_cons.2 ⟨hm, hin.nd⟩) (fun d hd => by
          rcases List.mem_cons.1 hd with rfl | hd
          · exact hb
          · exact hin.sub d hd)
        have e5 : (b :: R).length = R.length + 1 := rfl
        omega
    · intro e
      have h5 := hin.len
      have h6 := nodup_subG (c :: r) R hnd fun d hd => e d hd (fun x => x ∈ R) hsb fun x y hx hy hyl => hcl x hx y hy hyl
      omega
theorem faceF_sum (l : List Cube) : ∀ (r : List Cube) (n : Int), 0 ≤ n → n + 6 * (r.length : Int) ≤ 900000 →
    faceF l r n = n + sumI (fun c => 6 - (((nbQ c).countP (inQ l) : Nat) : Int)) r
  | [], n, h0, h1 => by simp [faceF, sumI]
  | c :: r, n, h0, h1 => by
    rw [List.length_cons] at h1
    have hc := cntF_val l (nbQ c) n h0 (by rw [nbQ_len]; omega)
    have hle : (nbQ c).countP (inQ l) ≤ (nbQ c).length := List.countP_le_length
    rw [nbQ_len] at hc hle
    rw [faceF, hc, faceF_sum l r _ (by omega) (by omega), sumI]
    omega
structure MoveQ (l x : List Cube) (φ : Cube → Cube) : Prop where
  near : ∀ c ∈ l, nearQ 1000 c
  nearx : ∀ c ∈ l, nearQ 1000 (φ c)
  inj : ∀ c ∈ l, ∀ d ∈ l, φ c = φ d → c = d
  adj : ∀ c ∈ l, ∀ d ∈ l, (d ∈ nbQ c ↔ φ d ∈ nbQ (φ c))
  perm : x.Perm (l.map φ)
theorem MoveQ.mem {l x : List Cube} {φ : Cube → Cube} (h : MoveQ l x φ) (y : Cube) : y ∈ x ↔ ∃ c ∈ l, φ c = y := by
  rw [h.perm.mem_iff, List.mem_map]
theorem MoveQ.conn {l x : List Cube} {φ : Cube → Cube} (h : MoveQ l x φ) (hl : solidB l = true) (hx : solidB x = true) : connQ l = connQ x := by
  rw [Bool.eq_iff_iff, connQ_iff hl, connQ_iff hx]
  exact conn_map h.inj h.adj h.mem
theorem inQ_mem (l : List Cube) (c : Cube) : inQ l c = true ↔ c ∈ l := by
  unfold inQ
  rw [decide_eq_true_eq]
  exact idxQ_mem l c
theorem MoveQ.faces {l x : List Cube} {φ : Cube → Cube} (h : MoveQ l x φ) (hl : l.length ≤ 24) : faceF l l 0 = faceF x x 0 := by
  have hlen : x.length = l.length := by rw [h.perm.length_eq, List.length_map]
  rw [faceF_sum l l 0 (by omega) (by omega), faceF_sum x x 0 (by omega) (by omega), sumI_perm h.perm]
  rw [sumI_map (g := fun c => 6 - (((nbQ c).countP (inQ l) : Nat) : Int)) l]
  intro c hc
  have : ((nbQ c).filter (inQ l)).length = ((nbQ (φ c)).filter (inQ x)).length := by
    refine len_mapG (φ := φ) ((nbQ_nodup (h.near c hc)).filter _) ((nbQ_nodup (h.nearx c hc)).filter _) (fun a ha b hb => ?_) (fun a ha => ?_) (fun y hy => ?_)
    · exact h.inj a ((inQ_mem l a).1 (List.mem_filter.1 ha).2) b ((inQ_mem l b).1 (List.mem_filter.1 hb).2)
    · obtain ⟨h1, h2⟩ := List.mem_filter.1 ha
      have hal := (inQ_mem l a).1 h2
      exact List.mem_filter.2 ⟨(h.adj c hc a hal).1 h1, (inQ_mem x _).2 ((h.mem _).2 ⟨a, hal, rfl⟩)⟩
    · obtain ⟨h1, h2⟩ := List.mem_filter.1 hy
      obtain ⟨a, hal, rfl⟩ := (h.mem _).1 ((inQ_mem x _).1 h2)
      exact ⟨a, List.mem_filter.2 ⟨(h.adj c hc a hal).2 h1, (inQ_mem l a).2 hal⟩, rfl⟩
  rw [List.countP_eq_length_filter, List.countP_eq_length_filter, this]
def insQ (c : Cube) : List Cube → List Cube
  | [] => [c]
  | a :: r => if ltQ a c then a :: insQ c r else c :: a :: r
theorem insQ_perm (c : Cube) : ∀ l : List Cube, (insQ c l).Perm (c :: l)
  | [] => List.Perm.refl _
  | a :: r => by
    unfold insQ
    split
    · exact ((insQ_perm c r).cons a).trans (List.Perm.swap c a r)
    · exact List.Perm.refl _
theorem specIns_l (l : List Cube) (i : Int) (c : Cube) (hi0 : 0 ≤ i) (hi1 : i < (l.length : Int)) (hc : rd_T63 l i = c) {r : List Cube} (xs : List Cube) (hl : xs.length ≤ 1048576) : ∀ (suf pre : List Cube), xs = pre ++ suf →
    Ev (fun k => spec_l09Sort.l0 k l (pre ++ insQ c suf) (wrap64 (i + 1))) r → Ev (fun k => spec_l09Sort.l1 k l xs i (pre.length : Int)) r := by
  have hs : small xs := by unfold small; omega
  have done : ∀ (suf pre : List Cube), xs = pre ++ suf → Ev (fun k => spec_l09Sort.l0 k l (pre ++ c :: suf) (wrap64 (i + 1))) r →
      Ev (fun k => if (pre.length : Int) ≤ (xs.length : Int) then (if ([] : List Cube).length + (xs.take ((pre.length : Int)).toNat).length < 5864062014805 then (if (([] : List Cube) ++ xs.take ((pre.length : Int)).toNat).length + ([(⟨(rd_T63 l i).f0, (rd_T63 l i).f1, (rd_T63 l i).f2⟩ : S63)] : List Cube).length < 5864062014805 then (if ((([] : List Cube) ++ xs.take ((pre.length : Int)).toNat) ++ ([(⟨(rd_T63 l i).f0, (rd_T63 l i).f1, (rd_T63 l i).f2⟩ : S63)] : List Cube)).length + (xs.drop ((pre.length : Int)).toNat).length < 5864062014805 then spec_l09Sort.l0 k l ((([] : List Cube) ++ xs.take ((pre.length : Int)).toNat) ++ ([(⟨(rd_T63 l i).f0, (rd_T63 l i).f1, (rd_T63 l i).f2⟩ : S63)] : List Cube) ++ xs.drop ((pre.length : Int)).toNat) (wrap64 (i + 1)) else none) else none) else none) else none) r := by
    intro suf pre hx h
    have e1 : xs.take pre.length = pre := by rw [hx]; simp
    have e2 : xs.drop pre.length = suf := by rw [hx]; simp
    have hn : xs.length = pre.length + suf.length := by rw [hx]; simp
    rw [hc]
    simp only [Int.toNat_natCast, e1, e2, List.nil_append, List.append_assoc, List.singleton_append, List.length_append, List.length_nil, List.length_singleton]
    exact Ev.pos (by omega) (Ev.pos (by omega) (Ev.pos (by omega) (Ev.pos (by omega) h)))
  intro suf
  induction suf with
  | nil =>
    intro pre hx h
    have hd := done [] pre hx h
    refine Ev.succ ?_
    simp only [spec_l09Sort.l1, Option.bind_some]
    have hlt : ¬ ((pre.length : Int) < (xs.length : Int)) := by rw [hx]; simp
    have h1 : pre.length ≤ xs.length := by rw [hx]; simp
    refine Ev.neg hlt (Ev.pos (by omega) ?_)
    have hi0' : (0 ≤ i) = True := eq_true hi0
    have hi1' : (i < (l.length : Int)) = True := eq_true hi1
    simp only [hi0', hi1', if_true]
    exact hd
  | cons a suf ih =>
    intro pre hx h
    refine Ev.succ ?_
    have hi0' : (0 ≤ i) = True := eq_true hi0
    have hi1' : (i < (l.length : Int)) = True := eq_true hi1
    simp only [spec_l09Sort.l1, Option.bind_some, pre_lt hx, pre_0, if_true, at_preQ hx, hi0', hi1', pre_w hx hs]
    have hless : spec_l09Less.f a.f0 a.f1 a.f2 (rd_T63 l i).f0 (rd_T63 l i).f1 (rd_T63 l i).f2 = some (decide (ltQ a c)) := by rw [hc]; exact less9_eq a c
    rw [hless]
    simp only [Option.bind_some]
    unfold insQ at h
    by_cases hac : ltQ a c
    · rw [if_pos hac] at h
      refine Ev.pos (by simpa using hac) ?_
      have := ih (pre ++ [a]) (by rw [hx]; simp) (by rw [List.append_assoc]; exact h)
      rw [List.length_append] at this
      exact this
    · rw [if_neg hac] at h
      refine Ev.neg (by simpa using hac) ?_
      exact done (a :: suf) pre hx h
def insAllQ : List Cube → List Cube → List Cube
  | acc, [] => acc
  | acc, c :: r => insAllQ (insQ c acc) r
theorem insAllQ_perm : ∀ (l acc : List Cube), (insAllQ acc l).Perm (acc ++ l)
  | [], acc => by simp [insAllQ]
  | c :: r, acc => by
    refine (insAllQ_perm r (insQ c acc)).trans ?_
    refine ((insQ_perm c acc).append_right r).trans ?_
    exact List.perm_middle.symm
theorem specSort0_ev (l : List Cube) (hl : l.length ≤ 1048576) : Ev (fun k => spec_l09Sort.f k l) (insAllQ [] l) := by
  have hs : small l := by unfold small; omega
  unfold spec_l09Sort.f
  refine loop_list l (fun k i (s : List Cube) => spec_l09Sort.l0 k l s i) (fun pre suf s => insAllQ s suf) (fun pre s => s.length = pre.length) ?_ ?_ [] rfl
  · intro s _
    simp only [spec_l09Sort.l0, len_lt, if_false]
    exact Ev.now _
  · intro pre c suf s hx hi ih
    have hp := pre_len hx
    simp only [spec_l09Sort.l0, pre_lt hx, if_true]
    refine specIns_l l (pre.length : Int) c (by omega) (by omega) (at_preQ hx) s (by omega) s [] rfl ?_
    rw [List.nil_append, pre_w hx hs]
    exact ih _ (by rw [(insQ_perm c s).length_eq]; simp [hi])
end Go.Proofs.Ytonldmalaajkgaa.L
end
section
namespace Go.Proofs.Ytonldmalaajkgaa.L
open Go.RowKit Go.Proofs.YtonldmalaajkgaaW.PrintWords Go.Proofs.YtonldmalaajkgaaW.PrintLast Go.Proofs.YtonldmalaajkgaaW.PrintMore Go.Proofs.Ytonldmalaajkgaa.F
set_option linter.unusedVariables false
set_option linter.unusedSimpArgs false
theorem loop_tailQ {α σ ρ : Type} (c : α) (r : List α) (l : Nat → Int → σ → Option ρ) (g : List α → List α → σ → ρ) (Inv : List α → σ → Prop)
    (hn : ∀ s, Inv (c :: r) s → Ev (fun k => l (k + 1) ((c :: r).length : Int) s) (g (c :: r) [] s))
    (hs : ∀ (pre : List α) (d : α) (suf : List α) (s : σ), c :: r = pre ++ d :: suf → pre ≠ [] → Inv pre s → (∀ s', Inv (pre ++ [d]) s' → Ev (fun k => l k ((pre.length : Int) + 1) s') (g (pre ++ [d]) suf s')) → Ev (fun k => l (k + 1) (pre.length : Int) s) (g pre (d :: suf) s)) :
    ∀ s, Inv [c] s → Ev (fun k => l k 1 s) (g [c] r s) := by
  have key : ∀ (suf pre : List α), c :: r = pre ++ suf → pre ≠ [] → ∀ s, Inv pre s → Ev (fun k => l k (pre.length : Int) s) (g pre suf s) := by
    intro suf
    induction suf with
    | nil =>
      intro pre hx _ s hi
      rw [List.append_nil] at hx
      subst hx
      exact Ev.succ (hn s hi)
    | cons d suf ih =>
      intro pre hx hp s hi
      refine Ev.succ (hs pre d suf s hx hp hi fun s' hi' => ?_)
      have := ih (pre ++ [d]) (by rw [hx]; simp) (by simp) s' hi'
      rw [List.length_append] at this
      exact this
  intro s hi
  exact key r [c] rfl (by simp) s hi
def minQ (z : Int × Int × Int) (l : List Cube) : Int × Int × Int := l.foldl (fun m c => (mn m.1 c.f0, mn m.2.1 c.f1, mn m.2.2 c.f2)) z
def leastQ (l : List Cube) : Int × Int × Int := match l with | [] => (0, 0, 0) | c :: r => minQ (c.f0, c.f1, c.f2) r
def moveQ (l : List Cube) (m : Int × Int × Int) : List Cube := l.map fun c => ⟨wrap64 (c.f0 - m.1), wrap64 (c.f1 - m.2.1), wrap64 (c.f2 - m.2.2)⟩
theorem moveQ_len (l : List Cube) (m : Int × Int × Int) : (moveQ l m).length = l.length := by simp [moveQ]
def normalQ (l : List Cube) : List Cube := moveQ l (leastQ l)
theorem normalQ_len (l : List Cube) : (normalQ l).length = l.length := moveQ_len _ _
theorem wsub (a b : Int) : wrap64 (a + wrap64 (-b)) = wrap64 (a - b) := by unfold wrap64; omega
theorem specMoveQ_ev (l : List Cube) (m : Int × Int × Int) (hl : l.length ≤ 1048576) : Ev (fun k => spec_l09Move.f k l (wrap64 (-m.1)) (wrap64 (-m.2.1)) (wrap64 (-m.2.2))) (moveQ l m) := by
  have hs : small l := by unfold small; omega
  unfold spec_l09Move.f
  have := loop_list l (fun k i (s : List Cube) => spec_l09Move.l0 k l s i (wrap64 (-m.1)) (wrap64 (-m.2.1)) (wrap64 (-m.2.2))) (fun pre suf s => s ++ moveQ suf m) (fun pre s => s.length = pre.length) ?_ ?_ [] rfl
  · simpa using this
  · intro s _
    simp only [spec_l09Move.l0, len_lt, if_false]
    exact Ev.of_eq (Ev.now _) (by simp [moveQ])
  · intro pre c suf s hx hi ih
    have hp := pre_len hx
    simp only [spec_l09Move.l0, pre_lt hx, pre_0, if_true, at_preQ hx, pre_w hx hs, spec_l09Add.f, Option.bind_some, wsub]
    refine Ev.pos (by omega) (Ev.of_eq (ih _ (by simp [hi])) ?_)
    simp [moveQ]
theorem specNormalQ_ev (l : List Cube) (hl : l.length ≤ 1048576) (h0 : 0 < l.length) : Ev (fun k => spec_l09Normal.f k l) (normalQ l) := by
  have hs : small l := by unfold small; omega
  unfold spec_l09Normal.f
  obtain ⟨c, r, rfl⟩ : ∃ c r, l = c :: r := by cases l with | nil => simp at h0 | cons c r => exact ⟨c, r, rfl⟩
  refine Ev.pos (by simp <;> omega) ?_
  have h1 : rd_T63 (c :: r) 0 = c := rfl
  rw [h1]
  refine loop_tailQ c r (fun k i (s : Int × Int × Int) => spec_l09Normal.l0 k (c :: r) s.1 s.2.1 s.2.2 i) (fun _ suf s => moveQ (c :: r) (minQ s suf)) (fun _ _ => True) ?_ ?_ (c.f0, c.f1, c.f2) trivial
  · rintro s _
    simp only [spec_l09Normal.l0, len_lt, if_false]
    exact Ev.bind (specMoveQ_ev (c :: r) s hl) (Ev.now _)
  · rintro pre d suf s hx _ _ ih
    simp only [spec_l09Normal.l0, pre_lt hx, pre_0, if_true, at_preQ hx, pre_w hx hs]
    exact ih (mn s.1 d.f0, mn s.2.1 d.f1, mn s.2.2 d.f2) trivial
theorem implMoveQ_ev (l : List Cube) (m : Int × Int × Int) (hl : l.length ≤ 1048576) : Ev (fun k => impl_normalCubes.l1 k [] l (l.length : Int) 0 m.1 m.2.1 m.2.2) (moveQ l m) := by
  have hs : small l := by unfold small; omega
  have := loop_list l (fun k i (s : List Cube) => impl_normalCubes.l1 k s l (l.length : Int) i m.1 m.2.1 m.2.2) (fun pre suf s => s ++ moveQ suf m) (fun pre s => s.length = pre.length) ?_ ?_ [] rfl
  · simpa using this
  · intro s _
    simp only [impl_normalCubes.l1, len_lt, if_false]
    exact Ev.of_eq (Ev.now _) (by simp [moveQ])
  · intro pre c suf s hx hi ih
    have hp := pre_len hx
    simp only [impl_normalCubes.l1, pre_lt hx, pre_0, if_true, at_preQ hx, pre_w hx hs]
    refine Ev.pos (by omega) (Ev.of_eq (ih _ (by simp [hi])) ?_)
    simp [moveQ]
theorem implNormalQ_ev (l : List Cube) (hl : l.length ≤ 1048576) (h0 : 0 < l.length) : Ev (fun k => impl_normalCubes.f k l) (normalQ l) := by
  have hs : small l := by unfold small; omega
  unfold impl_normalCubes.f
  obtain ⟨c, r, rfl⟩ : ∃ c r, l = c :: r := by cases l with | nil => simp at h0 | cons c r => exact ⟨c, r, rfl⟩
  refine Ev.pos (by simp <;> omega) ?_
  have h1 : rd_T63 (c :: r) 0 = c := rfl
  rw [h1]
  have := loop_list (c :: r) (fun k i (s : Int × Int × Int) => impl_normalCubes.l0 k (c :: r) (c :: r) ((c :: r).length : Int) i s.1 s.2.1 s.2.2) (fun _ suf s => moveQ (c :: r) (minQ s suf)) (fun _ _ => True) ?_ ?_ (c.f0, c.f1, c.f2) trivial
  · refine Ev.of_eq this ?_
    simp [normalQ, leastQ, minQ, mn]
  · rintro s _
    simp only [impl_normalCubes.l0, len_lt, if_false]
    exact Ev.pos (by omega) (Ev.pos (by omega) (implMoveQ_ev (c :: r) s hl))
  · rintro pre d suf s hx _ ih
    simp only [impl_normalCubes.l0, pre_lt hx, pre_0, if_true, at_preQ hx, pre_w hx hs]
    exact ih (mn s.1 d.f0, mn s.2.1 d.f1, mn s.2.2 d.f2) trivial
theorem sortedQ_le (x y : Cube) : (!Go.Proofs.ltOf cmpV y x) = decide (¬ ltQ y x) := by
  unfold Go.Proofs.ltOf
  by_cases h : ltQ y x
  · simp [h, (cmpV_lt y x).2 h]
  · have : ¬ cmpV y x < 0 := fun h' => h ((cmpV_lt y x).1 h')
    simp [h, this]
theorem sortQ_perm (l : List Cube) : (sortC l).Perm l := List.mergeSort_perm _ _
theorem sortQ_len (l : List Cube) : (sortC l).length = l.length := (sortQ_perm l).length_eq
theorem sortQ_sorted (l : List Cube) : (sortC l).Pairwise fun a b => ¬ ltQ b a := by
  have := List.pairwise_mergeSort (le := fun x y : Cube => !Go.Proofs.ltOf cmpV y x) (fun a b c h1 h2 => by
    rw [sortedQ_le, decide_eq_true_eq] at *
    unfold ltQ at *
    omega) (fun a b => by
    rw [sortedQ_le, sortedQ_le, Bool.or_eq_true, decide_eq_true_eq, decide_eq_true_eq]
    unfold ltQ
    omega) l
  exact this.imp fun h => by rw [sortedQ_le, decide_eq_true_eq] at h; exact h
theorem eq_of_sortedQ : ∀ (l l' : List Cube), l.Perm l' → (l.Pairwise fun a b => ¬ ltQ b a) → (l'.Pairwise fun a b => ¬ ltQ b a) → l = l'
  | [], l', hp, _, _ => (List.Perm.nil_eq hp)
  | a :: r, [], hp, _, _ => absurd hp.symm (by simp)
  | a :: r, b :: s, hp, h1, h2 => by
    obtain ⟨h3, h4⟩ := List.pairwise_cons.1 h1
    obtain ⟨h5, h6⟩ := List.pairwise_cons.1 h2
    have hab : a = b := by
      have ha : a ∈ b :: s := hp.mem_iff.1 List.mem_cons_self
      have hb : b ∈ a :: r := hp.mem_iff.2 List.mem_cons_self
      have n1 : ¬ ltQ b a := by
        rcases List.mem_cons.1 hb with e | e
        · rw [e]; exact ltQ_irrefl a
        · exact h3 b e
      have n2 : ¬ ltQ a b := by
        rcases List.mem_cons.1 ha with e | e
        · rw [e]; exact ltQ_irrefl b
        · exact h5 a e
      exact ltQ_total n2 n1
    subst hab
    rw [eq_of_sortedQ r s (List.Perm.cons_inv hp) h4 h6]
theorem sortQ_eq {l l' : List Cube} (hp : l'.Perm l) (hs : l'.Pairwise fun a b => ¬ ltQ b a) : sortC l = l' :=
  eq_of_sortedQ _ _ ((sortQ_perm l).trans hp.symm) (sortQ_sorted l) hs
theorem insQ_sorted (c : Cube) : ∀ l : List Cube, (l.Pairwise fun a b => ¬ ltQ b a) → (insQ c l).Pairwise fun a b => ¬ ltQ b a
  | [], _ => by simp [insQ]
  | a :: r, h => by
    obtain ⟨h1, h2⟩ := List.pairwise_cons.1 h
    unfold insQ
    split
    · rename_i hc
      refine List.pairwise_cons.2 ⟨fun b hb => ?_, insQ_sorted c r h2⟩
      rcases List.mem_cons.1 ((insQ_perm c r).mem_iff.1 hb) with rfl | hb
      · unfold ltQ at *; omega
      · exact h1 b hb
    · rename_i hc
      refine List.pairwise_cons.2 ⟨fun b hb => ?_, h⟩
      rcases List.mem_cons.1 hb with rfl | hb
      · exact hc
      · have := h1 b hb
        unfold ltQ at *; omega
theorem insAllQ_spec : ∀ (l acc : List Cube), (acc.Pairwise fun a b => ¬ ltQ b a) → (insAllQ acc l).Perm (acc ++ l) ∧ (insAllQ acc l).Pairwise fun a b => ¬ ltQ b a
  | [], acc, h => ⟨by simp [insAllQ], h⟩
  | c :: r, acc, h => by
    obtain ⟨h1, h2⟩ := insAllQ_spec r (insQ c acc) (insQ_sorted c acc h)
    refine ⟨h1.trans ?_, h2⟩
    refine ((insQ_perm c acc).append_right r).trans ?_
    exact List.perm_middle.symm
theorem insAllQ_eq (l : List Cube) : insAllQ [] l = sortC l := by
  obtain ⟨h1, h2⟩ := insAllQ_spec l [] List.Pairwise.nil
  exact (sortQ_eq (by simpa using h1) h2).symm
theorem specSortQ_ev (l : List Cube) (hl : l.length ≤ 1048576) : Ev (fun k => spec_l09Sort.f k l) (sortC l) := by
  have hs : small l := by unfold small; omega
  unfold spec_l09Sort.f
  rw [← insAllQ_eq]
  refine loop_list l (fun k i (s : List Cube) => spec_l09Sort.l0 k l s i) (fun pre suf s => insAllQ s suf) (fun pre s => s.length = pre.length) ?_ ?_ [] rfl
  · intro s _
    simp only [spec_l09Sort.l0, len_lt, if_false]
    exact Ev.now _
  · intro pre c suf s hx hi ih
    have hp := pre_len hx
    simp only [spec_l09Sort.l0, pre_lt hx, if_true]
    refine specIns_l l (pre.length : Int) c (by omega) (by omega) (at_preQ hx) s (by omega) s [] rfl ?_
    rw [List.nil_append, pre_w hx hs]
    exact ih _ (by rw [(insQ_perm c s).length_eq]; simp [hi])
theorem implSortQ_eq (l : List Cube) (h0 : 0 < l.length) (h1 : l.length ≤ 1000000000000) : impl_Cube_60__impl_compareCubes.f l = some (sortC l) := by
  unfold impl_Cube_60__impl_compareCubes.f
  rw [if_pos ⟨h0, by omega⟩]
def rotZ : Nat → Int × Int × Int → Int × Int × Int
  | 0, p => p
  | n + 1, p => rotZ n (wrap64 (-p.2.1), p.1, p.2.2)
def rotX : Nat → Int × Int × Int → Int × Int × Int
  | 0, p => p
  | n + 1, p => rotX n (p.1, wrap64 (-p.2.2), p.2.1)
def tiltQ (f : Int) (p : Int × Int × Int) : Int × Int × Int := if f < 4 then rotX f.toNat p else if f = 5 then (wrap64 (-p.2.2), p.2.1, p.1) else (p.2.2, p.2.1, wrap64 (-p.1))
def turnQ (c : Cube) (t : Int) : Int × Int × Int := tiltQ (t / 4 % 6) (rotZ (t % 4).toNat (if t ≥ 24 then (wrap64 (-c.f0), c.f1, c.f2) else (c.f0, c.f1, c.f2)))
def turnE (t : Int) (c : Cube) : Cube := ⟨(turnQ c t).1, (turnQ c t).2.1, (turnQ c t).2.2⟩
end Go.Proofs.Ytonldmalaajkgaa.L
end
