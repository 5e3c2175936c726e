/- The row of FnLayers, with what it needs: text 9 of 10. -/
import Derived.Test.YtdcpahfpnjnmcaaKLY7
import Derived.ChangeArms
import Derived.ChangeSame
import Derived.Deep.Fields
import Derived.Deep.Slices
import Derived.Deep.Strs
import Derived.WideShapes
set_option maxHeartbeats 8000000
set_option maxRecDepth 100000
section
namespace Go.Proofs.Ytdcpahfpnjnmcaa.F
open Go.RowKit Go.Proofs.YtdcpahfpnjnmcaaW.PrintWords Go.Proofs.YtdcpahfpnjnmcaaW.PrintLast Go.Proofs.YtdcpahfpnjnmcaaW.PrintMore
attribute [local go_sem] max2_int min2_int max_two min_two max_three min_three max_four min_four
set_option linter.unusedVariables false
set_option linter.unusedSimpArgs false
attribute [local go_sem high] eqA47
theorem laws_FnLayers.calls (k : Nat) (A0 : Option Addr) (c0 : Nat) (l0 : List Int) (r : Bool) (w : World) (hr0 : Kd.C (Kd.int .u8) w A0 l0.length l0) (hc0 : l0.length ≤ c0) (h : laws_FnLayers.f k l0 = some r) :
  Calls Try.prog 5 #[.slice A0 l0.length c0] w fun e w' => e = .returned (.bool r) ∧ Below w.heap.size w w' := by
 have hu47 := Try.underlying47
 have HR0 := aM hr0
 have HC0 := aM hc0
 clear hr0 hc0
 have HB := aM (Below.refl w.heap.size w)
 have H : ((laws_big.f l0).bind fun t475 => (if t475 = true then (some true) else ((spec_DrawLayersOf.f k l0).bind fun t476 => ((impl_LayersOf.f k t476).bind fun bt479 => ((spec_LayersOf.f k t476).bind fun bt483 => ((impl_FaceCount.f k t476).bind fun bt487 => ((spec_FaceCount.f k t476).bind fun bt489 => (if bt479.2 = bt483.2 then ((laws_likeShapes.f k bt479.1 bt483.1).bind fun t491 => (if t491 = true then (if bt487.2 = bt489.2 then (laws_FnLayers.j0 k t476 bt479.1 bt479.2 bt487.1 (bt487.1 != bt489.1)) else (laws_FnLayers.j0 k t476 bt479.1 bt479.2 bt487.1 true)) else (laws_FnLayers.j0 k t476 bt479.1 bt479.2 bt487.1 true))) else (laws_FnLayers.j0 k t476 bt479.1 bt479.2 bt487.1 true))))))))) = some r := h
 clear h
 replace H := Option.bind_eq_some_iff.mp H
 obtain ⟨t475, A20, H⟩ := H
 replace H : (if t475 = true then (some true) else ((spec_DrawLayersOf.f k l0).bind fun t476 => ((impl_LayersOf.f k t476).bind fun bt479 => ((spec_LayersOf.f k t476).bind fun bt483 => ((impl_FaceCount.f k t476).bind fun bt487 => ((spec_FaceCount.f k t476).bind fun bt489 => (if bt479.2 = bt483.2 then ((laws_likeShapes.f k bt479.1 bt483.1).bind fun t491 => (if t491 = true then (if bt487.2 = bt489.2 then (laws_FnLayers.j0 k t476 bt479.1 bt479.2 bt487.1 (bt487.1 != bt489.1)) else (laws_FnLayers.j0 k t476 bt479.1 bt479.2 bt487.1 true)) else (laws_FnLayers.j0 k t476 bt479.1 bt479.2 bt487.1 true))) else (laws_FnLayers.j0 k t476 bt479.1 bt479.2 bt487.1 true)))))))) = some r := H
 have A2 := aM A20
 clear A20
 by_cases c3 : t475 = true
 ·subst c3
  have H1 : (some true) = some r := by rw [if_pos rfl] at H; exact H
  clear H
  have H := H1
  clear H1
  obtain rfl := Option.some.inj H
  go_enter Try.func5, Try.ntmps5
  go_wp2_with (first | (go_at_call 22; (with_reducible refine (laws_big.calls _ _ l0 true _ ?side1 ?side2 A2.out).mono ?_); (case side1 => repeat (first | exact HR0.out | (with_reducible refine Kd.C_alloc ?_ _) | (with_reducible refine Kd.C_drewN ?_ _) | (with_reducible refine Kd.C_drew ?_))); (case side2 => exact HC0.out); rintro e w' ⟨rfl, ⟨nd, rfl⟩⟩; (try first | exact ⟨rfl, _, World.drewN_drewN _ _ _⟩ | exact ⟨rfl, _, Eq.trans (World.drewN_drewN _ _ _) (congrArg (World.drewN _) (Nat.add_assoc _ _ _))⟩)))
  repeat (go_quiet (first | (go_at_call 22; (try simp only [i64_w]); (with_reducible refine (laws_big.calls _ _ l0 true _ ?side1 ?side2 A2.out).mono ?_); (case side1 => repeat (first | exact HR0.out | (with_reducible refine Kd.C_alloc ?_ _) | (with_reducible refine Kd.C_drewN ?_ _) | (with_reducible refine Kd.C_drew ?_))); (case side2 => exact HC0.out); rintro e w' ⟨rfl, ⟨nd, rfl⟩⟩; (try first | exact ⟨rfl, _, World.drewN_drewN _ _ _⟩ | exact ⟨rfl, _, Eq.trans (World.drewN_drewN _ _ _) (congrArg (World.drewN _) (Nat.add_assoc _ _ _))⟩))); try go_wp2_with (first | (go_at_call 22; (try simp only [i64_w]); (with_reducible refine (laws_big.calls _ _ l0 true _ ?side1 ?side2 A2.out).mono ?_); (case side1 => repeat (first | exact HR0.out | (with_reducible refine Kd.C_alloc ?_ _) | (with_reducible refine Kd.C_drewN ?_ _) | (with_reducible refine Kd.C_drew ?_))); (case side2 => exact HC0.out); rintro e w' ⟨rfl, ⟨nd, rfl⟩⟩; (try first | exact ⟨rfl, _, World.drewN_drewN _ _ _⟩ | exact ⟨rfl, _, Eq.trans (World.drewN_drewN _ _ _) (congrArg (World.drewN _) (Nat.add_assoc _ _ _))⟩))))
  go_ret
  exact ⟨zw, zb⟩
 replace c3 := Bool.eq_false_iff.mpr c3
 subst c3
 have H1 : ((spec_DrawLayersOf.f k l0).bind fun t476 => ((impl_LayersOf.f k t476).bind fun bt479 => ((spec_LayersOf.f k t476).bind fun bt483 => ((impl_FaceCount.f k t476).bind fun bt487 => ((spec_FaceCount.f k t476).bind fun bt489 => (if bt479.2 = bt483.2 then ((laws_likeShapes.f k bt479.1 bt483.1).bind fun t491 => (if t491 = true then (if bt487.2 = bt489.2 then (laws_FnLayers.j0 k t476 bt479.1 bt479.2 bt487.1 (bt487.1 != bt489.1)) else (laws_FnLayers.j0 k t476 bt479.1 bt479.2 bt487.1 true)) else (laws_FnLayers.j0 k t476 bt479.1 bt479.2 bt487.1 true))) else (laws_FnLayers.j0 k t476 bt479.1 bt479.2 bt487.1 true))))))) = some r := by rw [if_neg (show ¬ (false = true) by decide)] at H; exact H
 clear H
 have H := H1
 clear H1
 replace H := Option.bind_eq_some_iff.mp H
 obtain ⟨t476, A40, H⟩ := H
 replace H : ((impl_LayersOf.f k t476).bind fun bt479 => ((spec_LayersOf.f k t476).bind fun bt483 => ((impl_FaceCount.f k t476).bind fun bt487 => ((spec_FaceCount.f k t476).bind fun bt489 => (if bt479.2 = bt483.2 then ((laws_likeShapes.f k bt479.1 bt483.1).bind fun t491 => (if t491 = true then (if bt487.2 = bt489.2 then (laws_FnLayers.j0 k t476 bt479.1 bt479.2 bt487.1 (bt487.1 != bt489.1)) else (laws_FnLayers.j0 k t476 bt479.1 bt479.2 bt487.1 true)) else (laws_FnLayers.j0 k t476 bt479.1 bt479.2 bt487.1 true))) else (laws_FnLayers.j0 k t476 bt479.1 bt479.2 bt487.1 true)))))) = some r := H
 have A4 := aM A40
 clear A40
 replace H := Option.bind_eq_some_iff.mp H
 obtain ⟨⟨t479, t480⟩, A50, H⟩ := H
 replace H : ((spec_LayersOf.f k t476).bind fun bt483 => ((impl_FaceCount.f k t476).bind fun bt487 => ((spec_FaceCount.f k t476).bind fun bt489 => (if t480 = bt483.2 then ((laws_likeShapes.f k t479 bt483.1).bind fun t491 => (if t491 = true then (if bt487.2 = bt489.2 then (laws_FnLayers.j0 k t476 t479 t480 bt487.1 (bt487.1 != bt489.1)) else (laws_FnLayers.j0 k t476 t479 t480 bt487.1 true)) else (laws_FnLayers.j0 k t476 t479 t480 bt487.1 true))) else (laws_FnLayers.j0 k t476 t479 t480 bt487.1 true))))) = some r := H
 have A5 := aM A50
 clear A50
 replace H := Option.bind_eq_some_iff.mp H
 obtain ⟨⟨t483, t484⟩, A60, H⟩ := H
 replace H : ((impl_FaceCount.f k t476).bind fun bt487 => ((spec_FaceCount.f k t476).bind fun bt489 => (if t480 = t484 then ((laws_likeShapes.f k t479 t483).bind fun t491 => (if t491 = true then (if bt487.2 = bt489.2 then (laws_FnLayers.j0 k t476 t479 t480 bt487.1 (bt487.1 != bt489.1)) else (laws_FnLayers.j0 k t476 t479 t480 bt487.1 true)) else (laws_FnLayers.j0 k t476 t479 t480 bt487.1 true))) else (laws_FnLayers.j0 k t476 t479 t480 bt487.1 true)))) = some r := H
 have A6 := aM A60
 clear A60
 replace H := Option.bind_eq_some_iff.mp H
 obtain ⟨⟨t487, t488⟩, A70, H⟩ := H
 replace H : ((spec_FaceCount.f k t476).bind fun bt489 => (if t480 = t484 then ((laws_likeShapes.f k t479 t483).bind fun t491 => (if t491 = true then (if t488 = bt489.2 then (laws_FnLayers.j0 k t476 t479 t480 t487 (t487 != bt489.1)) else (laws_FnLayers.j0 k t476 t479 t480 t487 true)) else (laws_FnLayers.j0 k t476 t479 t480 t487 true))) else (laws_FnLayers.j0 k t476 t479 t480 t487 true))) = some r := H
 have A7 := aM A70
 clear A70
 replace H := Option.bind_eq_some_iff.mp H
 obtain ⟨⟨t489, t490⟩, A80, H⟩ := H
 replace H : (if t480 = t484 then ((laws_likeShapes.f k t479 t483).bind fun t491 => (if t491 = true then (if t488 = t490 then (laws_FnLayers.j0 k t476 t479 t480 t487 (t487 != t489)) else (laws_FnLayers.j0 k t476 t479 t480 t487 true)) else (laws_FnLayers.j0 k t476 t479 t480 t487 true))) else (laws_FnLayers.j0 k t476 t479 t480 t487 true)) = some r := H
 have A8 := aM A80
 clear A80
 have HC9 := aM H
 clear H
 go_enter Try.func5, Try.ntmps5
 go_upto_region 8 with (first | (go_at_call 22; (with_reducible refine (laws_big.calls _ _ l0 false _ ?side1 ?side2 A2.out).mono ?_); (case side1 => repeat (first | exact HR0.out | (with_reducible refine Kd.C_alloc ?_ _) | (with_reducible refine Kd.C_drewN ?_ _) | (with_reducible refine Kd.C_drew ?_))); (case side2 => exact HC0.out); rintro e w' ⟨rfl, ⟨nd, rfl⟩⟩; (try first | exact ⟨rfl, _, World.drewN_drewN _ _ _⟩ | exact ⟨rfl, _, Eq.trans (World.drewN_drewN _ _ _) (congrArg (World.drewN _) (Nat.add_assoc _ _ _))⟩)) | (go_at_call 23; (with_reducible refine (spec_DrawLayersOf.calls k _ _ l0 t476 _ ?side1 ?side2 A4.out).mono ?_); (case side1 => repeat (first | exact HR0.out | (with_reducible refine Kd.C_alloc ?_ _) | (with_reducible refine Kd.C_drewN ?_ _) | (with_reducible refine Kd.C_drew ?_))); (case side2 => exact HC0.out); rintro e w10 ⟨v477, rfl, ho0, hb⟩; have n0_ := aM (Kd.R_lower ho0 (below_size zb)); have n1_ := aM (below_step zb hb); clear HB; have HO478 := n0_; have HB := n1_; clear n0_ n1_; (try clear hb); (try clear hb2); (try clear hk); (try clear hi); (try clear ho0); obtain ⟨Ao11, co11, eo11⟩ := Kd.R_slice HO478.out; subst eo11) | (go_at_call 16; (with_reducible refine (impl_LayersOf.calls k _ _ t476 t479 t480 _ ?side1 ?side2 A5.out).mono ?_); (case side1 => repeat (first | exact (Kd.R_reads' HO478.out).2.2 | (with_reducible refine Kd.C_alloc ?_ _) | (with_reducible refine Kd.C_drewN ?_ _) | (with_reducible refine Kd.C_drew ?_))); (case side2 => exact (Kd.R_reads' HO478.out).2.1); rintro e w12 ⟨v481, rfl, ho0, hb⟩; have n0_ := aM (Kd.R_below (mR_ HO478.out) hb); have n1_ := aM (Kd.S_lower ho0 (below_size zb)); have n2_ := aM (below_step zb hb); clear HO478; clear HB; have HO478 := n0_; have HO482 := n1_; have HB := n2_; clear n0_ n1_ n2_; (try clear hb); (try clear hb2); (try clear hk); (try clear hi); (try clear ho0)) | (go_at_call 14; (with_reducible refine (spec_LayersOf.calls k _ _ t476 t483 t484 _ ?side1 ?side2 A6.out).mono ?_); (case side1 => repeat (first | exact (Kd.R_reads' HO478.out).2.2 | (with_reducible refine Kd.C_alloc ?_ _) | (with_reducible refine Kd.C_drewN ?_ _) | (with_reducible refine Kd.C_drew ?_))); (case side2 => exact (Kd.R_reads' HO478.out).2.1); rintro e w13 ⟨v485, rfl, ho0, hb⟩; have n0_ := aM (Kd.R_below (mR_ HO478.out) hb); have n1_ := aM (Kd.S_elder' (mS_ HO482.out) (Kd.S_base ho0) hb); have n2_ := aM (Kd.S_lower (Kd.S_new' ho0 (Kd.S_lt (mS_ HO482.out))) (below_size zb)); have n3_ := aM (below_step zb hb); clear HO478; clear HO482; clear HB; have HO478 := n0_; have HO482 := n1_; have HO486 := n2_; have HB := n3_; clear n0_ n1_ n2_ n3_; (try clear hb); (try clear hb2); (try clear hk); (try clear hi); (try clear ho0)) | (go_at_call 24; (with_reducible refine (impl_FaceCount.calls k _ _ t476 t487 t488 _ ?side1 ?side2 A7.out).mono ?_); (case side1 => repeat (first | exact (Kd.R_reads' HO478.out).2.2 | (with_reducible refine Kd.C_alloc ?_ _) | (with_reducible refine Kd.C_drewN ?_ _) | (with_reducible refine Kd.C_drew ?_))); (case side2 => exact (Kd.R_reads' HO478.out).2.1); rintro e w14 ⟨rfl, hb⟩; have n0_ := aM (Kd.R_below (mR_ HO478.out) hb); have n1_ := aM (Kd.S_below (mS_ HO482.out) hb); have n2_ := aM (Kd.S_below (mS_ HO486.out) hb); have n3_ := aM (below_step zb hb); clear HO478; clear HO482; clear HO486; clear HB; have HO478 := n0_; have HO482 := n1_; have HO486 := n2_; have HB := n3_; clear n0_ n1_ n2_ n3_; (try clear hb); (try clear hb2); (try clear hk); (try clear hi)) | (go_at_call 25; (with_reducible refine (spec_FaceCount.calls k _ _ t476 t489 t490 _ ?side1 ?side2 A8.out).mono ?_); (case side1 => repeat (first | exact (Kd.R_reads' HO478.out).2.2 | (with_reducible refine Kd.C_alloc ?_ _) | (with_reducible refine Kd.C_drewN ?_ _) | (with_reducible refine Kd.C_drew ?_))); (case side2 => exact (Kd.R_reads' HO478.out).2.1); rintro e w15 ⟨rfl, hb⟩; have n0_ := aM (Kd.R_below (mR_ HO478.out) hb); have n1_ := aM (Kd.S_below (mS_ HO482.out) hb); have n2_ := aM (Kd.S_below (mS_ HO486.out) hb); have n3_ := aM (below_step zb hb); clear HO478; clear HO482; clear HO486; clear HB; have HO478 := n0_; have HO482 := n1_; have HO486 := n2_; have HB := n3_; clear n0_ n1_ n2_ n3_; (try clear hb); (try clear hb2); (try clear hk); (try clear hi)))
 repeat (go_quiet (first | (go_at_call 22; (try simp only [i64_w]); (with_reducible refine (laws_big.calls _ _ l0 false _ ?side1 ?side2 A2.out).mono ?_); (case side1 => repeat (first | exact HR0.out | (with_reducible refine Kd.C_alloc ?_ _) | (with_reducible refine Kd.C_drewN ?_ _) | (with_reducible refine Kd.C_drew ?_))); (case side2 => exact HC0.out); rintro e w' ⟨rfl, ⟨nd, rfl⟩⟩; (try first | exact ⟨rfl, _, World.drewN_drewN _ _ _⟩ | exact ⟨rfl, _, Eq.trans (World.drewN_drewN _ _ _) (congrArg (World.drewN _) (Nat.add_assoc _ _ _))⟩)) | (go_at_call 23; (try simp only [i64_w]); (with_reducible refine (spec_DrawLayersOf.calls k _ _ l0 t476 _ ?side1 ?side2 A4.out).mono ?_); (case side1 => repeat (first | exact HR0.out | (with_reducible refine Kd.C_alloc ?_ _) | (with_reducible refine Kd.C_drewN ?_ _) | (with_reducible refine Kd.C_drew ?_))); (case side2 => exact HC0.out); rintro e w10 ⟨v477, rfl, ho0, hb⟩; have n0_ := aM (Kd.R_lower ho0 (below_size zb)); have n1_ := aM (below_step zb hb); clear HB; have HO478 := n0_; have HB := n1_; clear n0_ n1_; (try clear hb); (try clear hb2); (try clear hk); (try clear hi); (try clear ho0); obtain ⟨Ao11, co11, eo11⟩ := Kd.R_slice HO478.out; subst eo11) | (go_at_call 16; (try simp only [i64_w]); (with_reducible refine (impl_LayersOf.calls k _ _ t476 t479 t480 _ ?side1 ?side2 A5.out).mono ?_); (case side1 => repeat (first | exact (Kd.R_reads' HO478.out).2.2 | (with_reducible refine Kd.C_alloc ?_ _) | (with_reducible refine Kd.C_drewN ?_ _) | (with_reducible refine Kd.C_drew ?_))); (case side2 => exact (Kd.R_reads' HO478.out).2.1); rintro e w12 ⟨v481, rfl, ho0, hb⟩; have n0_ := aM (Kd.R_below (mR_ HO478.out) hb); have n1_ := aM (Kd.S_lower ho0 (below_size zb)); have n2_ := aM (below_step zb hb); clear HO478; clear HB; have HO478 := n0_; have HO482 := n1_; have HB := n2_; clear n0_ n1_ n2_; (try clear hb); (try clear hb2); (try clear hk); (try clear hi); (try clear ho0)) | (go_at_call 14; (try simp only [i64_w]); (with_reducible refine (spec_LayersOf.calls k _ _ t476 t483 t484 _ ?side1 ?side2 A6.out).mono ?_); (case side1 => repeat (first | exact (Kd.R_reads' HO478.out).2.2 | (with_reducible refine Kd.C_alloc ?_ _) | (with_reducible refine Kd.C_drewN ?_ _) | (with_reducible refine Kd.C_drew ?_))); (case side2 => exact (Kd.R_reads' HO478.out).2.1); rintro e w13 ⟨v485, rfl, ho0, hb⟩; have n0_ := aM (Kd.R_below (mR_ HO478.out) hb); have n1_ := aM (Kd.S_elder' (mS_ HO482.out) (Kd.S_base ho0) hb); have n2_ := aM (Kd.S_lower (Kd.S_new' ho0 (Kd.S_lt (mS_ HO482.out))) (below_size zb)); have n3_ := aM (below_step zb hb); clear HO478; clear HO482; clear HB; have HO478 := n0_; have HO482 := n1_; have HO486 := n2_; have HB := n3_; clear n0_ n1_ n2_ n3_; (try clear hb); (try clear hb2); (try clear hk); (try clear hi); (try clear ho0)) | (go_at_call 24; (try simp only [i64_w]); (with_reducible refine (impl_FaceCount.calls k _ _ t476 t487 t488 _ ?side1 ?side2 A7.out).mono ?_); (case side1 => repeat (first | exact (Kd.R_reads' HO478.out).2.2 | (with_reducible refine Kd.C_alloc ?_ _) | (with_reducible refine Kd.C_drewN ?_ _) | (with_reducible refine Kd.C_drew ?_))); (case side2 => exact (Kd.R_reads' HO478.out).2.1); rintro e w14 ⟨rfl, hb⟩; have n0_ := aM (Kd.R_below (mR_ HO478.out) hb); have n1_ := aM (Kd.S_below (mS_ HO482.out) hb); have n2_ := aM (Kd.S_below (mS_ HO486.out) hb); have n3_ := aM (below_step zb hb); clear HO478; clear HO482; clear HO486; clear HB; have HO478 := n0_; have HO482 := n1_; have HO486 := n2_; have HB := n3_; clear n0_ n1_ n2_ n3_; (try clear hb); (try clear hb2); (try clear hk); (try clear hi)) | (go_at_call 25; (try simp only [i64_w]); (with_reducible refine (spec_FaceCount.calls k _ _ t476 t489 t490 _ ?side1 ?side2 A8.out).mono ?_); (case side1 => repeat (first | exact (Kd.R_reads' HO478.out).2.2 | (with_reducible refine Kd.C_alloc ?_ _) | (with_reducible refine Kd.C_drewN ?_ _) | (with_reducible refine Kd.C_drew ?_))); (case side2 => exact (Kd.R_reads' HO478.out).2.1); rintro e w15 ⟨rfl, hb⟩; have n0_ := aM (Kd.R_below (mR_ HO478.out) hb); have n1_ := aM (Kd.S_below (mS_ HO482.out) hb); have n2_ := aM (Kd.S_below (mS_ HO486.out) hb); have n3_ := aM (below_step zb hb); clear HO478; clear HO482; clear HO486; clear HB; have HO478 := n0_; have HO482 := n1_; have HO486 := n2_; have HB := n3_; clear n0_ n1_ n2_ n3_; (try clear hb); (try clear hb2); (try clear hk); (try clear hi))); go_upto_region 8 with (first | (go_at_call 22; (try simp only [i64_w]); (with_reducible refine (laws_big.calls _ _ l0 false _ ?side1 ?side2 A2.out).mono ?_); (case side1 => repeat (first | exact HR0.out | (with_reducible refine Kd.C_alloc ?_ _) | (with_reducible refine Kd.C_drewN ?_ _) | (with_reducible refine Kd.C_drew ?_))); (case side2 => exact HC0.out); rintro e w' ⟨rfl, ⟨nd, rfl⟩⟩; (try first | exact ⟨rfl, _, World.drewN_drewN _ _ _⟩ | exact ⟨rfl, _, Eq.trans (World.drewN_drewN _ _ _) (congrArg (World.drewN _) (Nat.add_assoc _ _ _))⟩)) | (go_at_call 23; (try simp only [i64_w]); (with_reducible refine (spec_DrawLayersOf.calls k _ _ l0 t476 _ ?side1 ?side2 A4.out).mono ?_); (case side1 => repeat (first | exact HR0.out | (with_reducible refine Kd.C_alloc ?_ _) | (with_reducible refine Kd.C_drewN ?_ _) | (with_reducible refine Kd.C_drew ?_))); (case side2 => exact HC0.out); rintro e w10 ⟨v477, rfl, ho0, hb⟩; have n0_ := aM (Kd.R_lower ho0 (below_size zb)); have n1_ := aM (below_step zb hb); clear HB; have HO478 := n0_; have HB := n1_; clear n0_ n1_; (try clear hb); (try clear hb2); (try clear hk); (try clear hi); (try clear ho0); obtain ⟨Ao11, co11, eo11⟩ := Kd.R_slice HO478.out; subst eo11) | (go_at_call 16; (try simp only [i64_w]); (with_reducible refine (impl_LayersOf.calls k _ _ t476 t479 t480 _ ?side1 ?side2 A5.out).mono ?_); (case side1 => repeat (first | exact (Kd.R_reads' HO478.out).2.2 | (with_reducible refine Kd.C_alloc ?_ _) | (with_reducible refine Kd.C_drewN ?_ _) | (with_reducible refine Kd.C_drew ?_))); (case side2 => exact (Kd.R_reads' HO478.out).2.1); rintro e w12 ⟨v481, rfl, ho0, hb⟩; have n0_ := aM (Kd.R_below (mR_ HO478.out) hb); have n1_ := aM (Kd.S_lower ho0 (below_size zb)); have n2_ := aM (below_step zb hb); clear HO478; clear HB; have HO478 := n0_; have HO482 := n1_; have HB := n2_; clear n0_ n1_ n2_; (try clear hb); (try clear hb2); (try clear hk); (try clear hi); (try clear ho0)) | (go_at_call 14; (try simp only [i64_w]); (with_reducible refine (spec_LayersOf.calls k _ _ t476 t483 t484 _ ?side1 ?side2 A6.out).mono ?_); (case side1 => repeat (first | exact (Kd.R_reads' HO478.out).2.2 | (with_reducible refine Kd.C_alloc ?_ _) | (with_reducible refine Kd.C_drewN ?_ _) | (with_reducible refine Kd.C_drew ?_))); (case side2 => exact (Kd.R_reads' HO478.out).2.1); rintro e w13 ⟨v485, rfl, ho0, hb⟩; have n0_ := aM (Kd.R_below (mR_ HO478.out) hb); have n1_ := aM (Kd.S_elder' (mS_ HO482.out) (Kd.S_base ho0) hb); have n2_ := aM (Kd.S_lower (Kd.S_new' ho0 (Kd.S_lt (mS_ HO482.out))) (below_size zb)); have n3_ := aM (below_step zb hb); clear HO478; clear HO482; clear HB; have HO478 := n0_; have HO482 := n1_; have HO486 := n2_; have HB := n3_; clear n0_ n1_ n2_ n3_; (try clear hb); (try clear hb2); (try clear hk); (try clear hi); (try clear ho0)) | (go_at_call 24; (try simp only [i64_w]); (with_reducible refine (impl_FaceCount.calls k _ _ t476 t487 t488 _ ?side1 ?side2 A7.out).mono ?_); (case side1 => repeat (first | exact (Kd.R_reads' HO478.out).2.2 | (with_reducible refine Kd.C_alloc ?_ _) | (with_reducible refine Kd.C_drewN ?_ _) | (with_reducible refine Kd.C_drew ?_))); (case side2 => exact (Kd.R_reads' HO478.out).2.1); rintro e w14 ⟨rfl, hb⟩; have n0_ := aM (Kd.R_below (mR_ HO478.out) hb); have n1_ := aM (Kd.S_below (mS_ HO482.out) hb); have n2_ := aM (Kd.S_below (mS_ HO486.out) hb); have n3_ := aM (below_step zb hb); clear HO478; clear HO482; clear HO486; clear HB; have HO478 := n0_; have HO482 := n1_; have HO486 := n2_; have HB := n3_; clear n0_ n1_ n2_ n3_; (try clear hb); (try clear hb2); (try clear hk); (try clear hi)) | (go_at_call 25; (try simp only [i64_w]); (with_reducible refine (spec_FaceCount.calls k _ _ t476 t489 t490 _ ?side1 ?side2 A8.out).mono ?_); (case side1 => repeat (first | exact (Kd.R_reads' HO478.out).2.2 | (with_reducible refine Kd.C_alloc ?_ _) | (with_reducible refine Kd.C_drewN ?_ _) | (with_reducible refine Kd.C_drew ?_))); (case side2 => exact (Kd.R_reads' HO478.out).2.1); rintro e w15 ⟨rfl, hb⟩; have n0_ := aM (Kd.R_below (mR_ HO478.out) hb); have n1_ := aM (Kd.S_below (mS_ HO482.out) hb); have n2_ := aM (Kd.S_below (mS_ HO486.out) hb); have n3_ := aM (below_step zb hb); clear HO478; clear HO482; clear HO486; clear HB; have HO478 := n0_; have HO482 := n1_; have HO486 := n2_; have HB := n3_; clear n0_ n1_ n2_ n3_; (try clear hb); (try clear hb2); (try clear hk); (try clear hi))))
 (try simp only [Act.put, xA, xB, xC])
 go_cut [57] (fun v57 wc => ∃ (kq : Nat) (x57_8 : Bool), v57 = .bool x57_8 ∧ Aside0 (laws_FnLayers.j0 kq t476 t479 t480 t487 x57_8 = some r) ∧ Aside0 (kq ≤ k) ∧ Aside0 (Kd.R k47 47 wc w.heap.size (fun _ => True) (.slice Ao11 t476.length co11) t476) ∧ Aside0 (Kd.S (Kd.slice 49 k49) 26 wc w.heap.size (fun _ => True) v481 t479) ∧ Aside0 (Below w.heap.size w wc))
 case first =>
  have H := HC9.out
  clear HC9
  by_cases c16 : t480 = t484
  rotate_left
  ·rw [if_neg c16] at H
   have c16b0 : (t480 == t484) = false := beq_eq_false_iff_ne.mpr c16
   have c16b1 : (t480 != t484) = true := bne_iff_ne.mpr c16
   (first | rw [c16b0] | (simp only [i64_w, i32_w]; rw [c16b0]) | skip)
   have H' := aM H
   clear H
   go_wp2
   repeat (go_quiet (fail); try go_wp2)
   go_meet
   case rel => exact ⟨_, (true), zr, H', ⟨by first | omega | exact Nat.le_refl _⟩, ⟨mR_ HO478.out⟩, ⟨by (with_reducible repeat (first | apply Kd.S_alloc | apply Kd.S_drewN | apply Kd.S_drew)); exact Kd.S_mono HO482.out (fun _ hk => trivial)⟩, ⟨zb⟩⟩
  rw [if_pos c16] at H
  have c16b0 : (t480 == t484) = true := beq_iff_eq.mpr c16
  have c16b1 : (t480 != t484) = false := bne_eq_false_iff_eq.mpr c16
  clear c16
  (first | rw [c16b0] | (simp only [i64_w, i32_w]; rw [c16b0]) | skip)
  replace H := Option.bind_eq_some_iff.mp H
  obtain ⟨t491, A170, H⟩ := H
  replace H : (if t491 = true then (if t488 = t490 then (laws_FnLayers.j0 k t476 t479 t480 t487 (t487 != t489)) else (laws_FnLayers.j0 k t476 t479 t480 t487 true)) else (laws_FnLayers.j0 k t476 t479 t480 t487 true)) = some r := H
  have A17 := aM A170
  clear A170
  by_cases c18 : t491 = true
  rotate_left
  ·replace c18 := Bool.eq_false_iff.mpr c18
   subst c18
   have H1 : (laws_FnLayers.j0 k t476 t479 t480 t487 true) = some r := by rw [if_neg (show ¬ (false = true) by decide)] at H; exact H
   clear H
   have H := H1
   clear H1
   have H' := aM H
   clear H
   obtain ⟨Ao24, co24, eo24⟩ := Kd.S_slice HO482.out
   subst eo24
   obtain ⟨Ao25, co25, eo25⟩ := Kd.S_slice HO486.out
   subst eo25
   go_wp2_with (first | (go_at_call 26; (with_reducible refine (laws_likeShapes.calls k _ _ t479 _ _ t483 false _ ?side1 ?side2 ?side3 ?side4 A17.out).mono ?_); (case side1 => repeat (first | exact (Kd.S_reads' HO482.out).2.2 | (with_reducible refine Kd.C_alloc ?_ _) | (with_reducible refine Kd.C_drewN ?_ _) | (with_reducible refine Kd.C_drew ?_))); (case side2 => exact (Kd.S_reads' HO482.out).2.1); (case side3 => repeat (first | exact (Kd.S_reads' HO486.out).2.2 | (with_reducible refine Kd.C_alloc ?_ _) | (with_reducible refine Kd.C_drewN ?_ _) | (with_reducible refine Kd.C_drew ?_))); (case side4 => exact (Kd.S_reads' HO486.out).2.1); rintro e w' ⟨rfl, ⟨nd, rfl⟩⟩; (try first | exact ⟨rfl, _, World.drewN_drewN _ _ _⟩ | exact ⟨rfl, _, Eq.trans (World.drewN_drewN _ _ _) (congrArg (World.drewN _) (Nat.add_assoc _ _ _))⟩)))
   repeat (go_quiet (first | (go_at_call 26; (try simp only [i64_w]); (with_reducible refine (laws_likeShapes.calls k _ _ t479 _ _ t483 false _ ?side1 ?side2 ?side3 ?side4 A17.out).mono ?_); (case side1 => repeat (first | exact (Kd.S_reads' HO482.out).2.2 | (with_reducible refine Kd.C_alloc ?_ _) | (with_reducible refine Kd.C_drewN ?_ _) | (with_reducible refine Kd.C_drew ?_))); (case side2 => exact (Kd.S_reads' HO482.out).2.1); (case side3 => repeat (first | exact (Kd.S_reads' HO486.out).2.2 | (with_reducible refine Kd.C_alloc ?_ _) | (with_reducible refine Kd.C_drewN ?_ _) | (with_reducible refine Kd.C_drew ?_))); (case side4 => exact (Kd.S_reads' HO486.out).2.1); rintro e w' ⟨rfl, ⟨nd, rfl⟩⟩; (try first | exact ⟨rfl, _, World.drewN_drewN _ _ _⟩ | exact ⟨rfl, _, Eq.trans (World.drewN_drewN _ _ _) (congrArg (World.drewN _) (Nat.add_assoc _ _ _))⟩))); try go_wp2_with (first | (go_at_call 26; (try simp only [i64_w]); (with_reducible refine (laws_likeShapes.calls k _ _ t479 _ _ t483 false _ ?side1 ?side2 ?side3 ?side4 A17.out).mono ?_); (case side1 => repeat (first | exact (Kd.S_reads' HO482.out).2.2 | (with_reducible refine Kd.C_alloc ?_ _) | (with_reducible refine Kd.C_drewN ?_ _) | (with_reducible refine Kd.C_drew ?_))); (case side2 => exact (Kd.S_reads' HO482.out).2.1); (case side3 => repeat (first | exact (Kd.S_reads' HO486.out).2.2 | (with_reducible refine Kd.C_alloc ?_ _) | (with_reducible refine Kd.C_drewN ?_ _) | (with_reducible refine Kd.C_drew ?_))); (case side4 => exact (Kd.S_reads' HO486.out).2.1); rintro e w' ⟨rfl, ⟨nd, rfl⟩⟩; (try first | exact ⟨rfl, _, World.drewN_drewN _ _ _⟩ | exact ⟨rfl, _, Eq.trans (World.drewN_drewN _ _ _) (congrArg (World.drewN _) (Nat.add_assoc _ _ _))⟩))))
   go_meet
   case rel => exact ⟨_, (true), zr, H', ⟨by first | omega | exact Nat.le_refl _⟩, ⟨mR_ HO478.out⟩, ⟨by (with_reducible repeat (first | apply Kd.S_alloc | apply Kd.S_drewN | apply Kd.S_drew)); exact Kd.S_mono HO482.out (fun _ hk => trivial)⟩, ⟨zb⟩⟩
  subst c18
  have H1 : (if t488 = t490 then (laws_FnLayers.j0 k t476 t479 t480 t487 (t487 != t489)) else (laws_FnLayers.j0 k t476 t479 t480 t487 true)) = some r := by rw [if_pos rfl] at H; exact H
  clear H
  have H := H1
  clear H1
  by_cases c19 : t488 = t490
  rotate_left
  ·rw [if_neg c19] at H
   have c19b0 : (t488 == t490) = false := beq_eq_false_iff_ne.mpr c19
   have c19b1 : (t488 != t490) = true := bne_iff_ne.mpr c19
   have H' := aM H
   clear H
   obtain ⟨Ao22, co22, eo22⟩ := Kd.S_slice HO482.out
   subst eo22
   obtain ⟨Ao23, co23, eo23⟩ := Kd.S_slice HO486.out
   subst eo23
   go_wp2_with (first | (go_at_call 26; (with_reducible refine (laws_likeShapes.calls k _ _ t479 _ _ t483 true _ ?side1 ?side2 ?side3 ?side4 A17.out).mono ?_); (case side1 => repeat (first | exact (Kd.S_reads' HO482.out).2.2 | (with_reducible refine Kd.C_alloc ?_ _) | (with_reducible refine Kd.C_drewN ?_ _) | (with_reducible refine Kd.C_drew ?_))); (case side2 => exact (Kd.S_reads' HO482.out).2.1); (case side3 => repeat (first | exact (Kd.S_reads' HO486.out).2.2 | (with_reducible refine Kd.C_alloc ?_ _) | (with_reducible refine Kd.C_drewN ?_ _) | (with_reducible refine Kd.C_drew ?_))); (case side4 => exact (Kd.S_reads' HO486.out).2.1); rintro e w' ⟨rfl, ⟨nd, rfl⟩⟩; (try first | exact ⟨rfl, _, World.drewN_drewN _ _ _⟩ | exact ⟨rfl, _, Eq.trans (World.drewN_drewN _ _ _) (congrArg (World.drewN _) (Nat.add_assoc _ _ _))⟩)))
   repeat (go_quiet (first | (go_at_call 26; (try simp only [i64_w]); (with_reducible refine (laws_likeShapes.calls k _ _ t479 _ _ t483 true _ ?side1 ?side2 ?side3 ?side4 A17.out).mono ?_); (case side1 => repeat (first | exact (Kd.S_reads' HO482.out).2.2 | (with_reducible refine Kd.C_alloc ?_ _) | (with_reducible refine Kd.C_drewN ?_ _) | (with_reducible refine Kd.C_drew ?_))); (case side2 => exact (Kd.S_reads' HO482.out).2.1); (case side3 => repeat (first | exact (Kd.S_reads' HO486.out).2.2 | (with_reducible refine Kd.C_alloc ?_ _) | (with_reducible refine Kd.C_drewN ?_ _) | (with_reducible refine Kd.C_drew ?_))); (case side4 => exact (Kd.S_reads' HO486.out).2.1); rintro e w' ⟨rfl, ⟨nd, rfl⟩⟩; (try first | exact ⟨rfl, _, World.drewN_drewN _ _ _⟩ | exact ⟨rfl, _, Eq.trans (World.drewN_drewN _ _ _) (congrArg (World.drewN _) (Nat.add_assoc _ _ _))⟩))); try go_wp2_with (first | (go_at_call 26; (try simp only [i64_w]); (with_reducible refine (laws_likeShapes.calls k _ _ t479 _ _ t483 true _ ?side1 ?side2 ?side3 ?side4 A17.out).mono ?_); (case side1 => repeat (first | exact (Kd.S_reads' HO482.out).2.2 | (with_reducible refine Kd.C_alloc ?_ _) | (with_reducible refine Kd.C_drewN ?_ _) | (with_reducible refine Kd.C_drew ?_))); (case side2 => exact (Kd.S_reads' HO482.out).2.1); (case side3 => repeat (first | exact (Kd.S_reads' HO486.out).2.2 | (with_reducible refine Kd.C_alloc ?_ _) | (with_reducible refine Kd.C_drewN ?_ _) | (with_reducible refine Kd.C_drew ?_))); (case side4 => exact (Kd.S_reads' HO486.out).2.1); rintro e w' ⟨rfl, ⟨nd, rfl⟩⟩; (try first | exact ⟨rfl, _, World.drewN_drewN _ _ _⟩ | exact ⟨rfl, _, Eq.trans (World.drewN_drewN _ _ _) (congrArg (World.drewN _) (Nat.add_assoc _ _ _))⟩))))
   go_meet
   case rel => exact ⟨_, (true), zr, H', ⟨by first | omega | exact Nat.le_refl _⟩, ⟨mR_ HO478.out⟩, ⟨by (with_reducible repeat (first | apply Kd.S_alloc | apply Kd.S_drewN | apply Kd.S_drew)); exact Kd.S_mono HO482.out (fun _ hk => trivial)⟩, ⟨zb⟩⟩
  rw [if_pos c19] at H
  have c19b0 : (t488 == t490) = true := beq_iff_eq.mpr c19
  have c19b1 : (t488 != t490) = false := bne_eq_false_iff_eq.mpr c19
  clear c19
  have H' := aM H
  clear H
  obtain ⟨Ao20, co20, eo20⟩ := Kd.S_slice HO482.out
  subst eo20
  obtain ⟨Ao21, co21, eo21⟩ := Kd.S_slice HO486.out
  subst eo21
  go_wp2_with (first | (go_at_call 26; (with_reducible refine (laws_likeShapes.calls k _ _ t479 _ _ t483 true _ ?side1 ?side2 ?side3 ?side4 A17.out).mono ?_); (case side1 => repeat (first | exact (Kd.S_reads' HO482.out).2.2 | (with_reducible refine Kd.C_alloc ?_ _) | (with_reducible refine Kd.C_drewN ?_ _) | (with_reducible refine Kd.C_drew ?_))); (case side2 => exact (Kd.S_reads' HO482.out).2.1); (case side3 => repeat (first | exact (Kd.S_reads' HO486.out).2.2 | (with_reducible refine Kd.C_alloc ?_ _) | (with_reducible refine Kd.C_drewN ?_ _) | (with_reducible refine Kd.C_drew ?_))); (case side4 => exact (Kd.S_reads' HO486.out).2.1); rintro e w' ⟨rfl, ⟨nd, rfl⟩⟩; (try first | exact ⟨rfl, _, World.drewN_drewN _ _ _⟩ | exact ⟨rfl, _, Eq.trans (World.drewN_drewN _ _ _) (congrArg (World.drewN _) (Nat.add_assoc _ _ _))⟩)))
  repeat (go_quiet (first | (go_at_call 26; (try simp only [i64_w]); (with_reducible refine (laws_likeShapes.calls k _ _ t479 _ _ t483 true _ ?side1 ?side2 ?side3 ?side4 A17.out).mono ?_); (case side1 => repeat (first | exact (Kd.S_reads' HO482.out).2.2 | (with_reducible refine Kd.C_alloc ?_ _) | (with_reducible refine Kd.C_drewN ?_ _) | (with_reducible refine Kd.C_drew ?_))); (case side2 => exact (Kd.S_reads' HO482.out).2.1); (case side3 => repeat (first | exact (Kd.S_reads' HO486.out).2.2 | (with_reducible refine Kd.C_alloc ?_ _) | (with_reducible refine Kd.C_drewN ?_ _) | (with_reducible refine Kd.C_drew ?_))); (case side4 => exact (Kd.S_reads' HO486.out).2.1); rintro e w' ⟨rfl, ⟨nd, rfl⟩⟩; (try first | exact ⟨rfl, _, World.drewN_drewN _ _ _⟩ | exact ⟨rfl, _, Eq.trans (World.drewN_drewN _ _ _) (congrArg (World.drewN _) (Nat.add_assoc _ _ _))⟩))); try go_wp2_with (first | (go_at_call 26; (try simp only [i64_w]); (with_reducible refine (laws_likeShapes.calls k _ _ t479 _ _ t483 true _ ?side1 ?side2 ?side3 ?side4 A17.out).mono ?_); (case side1 => repeat (first | exact (Kd.S_reads' HO482.out).2.2 | (with_reducible refine Kd.C_alloc ?_ _) | (with_reducible refine Kd.C_drewN ?_ _) | (with_reducible refine Kd.C_drew ?_))); (case side2 => exact (Kd.S_reads' HO482.out).2.1); (case side3 => repeat (first | exact (Kd.S_reads' HO486.out).2.2 | (with_reducible refine Kd.C_alloc ?_ _) | (with_reducible refine Kd.C_drewN ?_ _) | (with_reducible refine Kd.C_drew ?_))); (case side4 => exact (Kd.S_reads' HO486.out).2.1); rintro e w' ⟨rfl, ⟨nd, rfl⟩⟩; (try first | exact ⟨rfl, _, World.drewN_drewN _ _ _⟩ | exact ⟨rfl, _, Eq.trans (World.drewN_drewN _ _ _) (congrArg (World.drewN _) (Nat.add_assoc _ _ _))⟩))))
  go_meet
  case rel => exact ⟨_, ((t487 != t489)), zr, H', ⟨by first | omega | exact Nat.le_refl _⟩, ⟨mR_ HO478.out⟩, ⟨by (with_reducible repeat (first | apply Kd.S_alloc | apply Kd.S_drewN | apply Kd.S_drew)); exact Kd.S_mono HO482.out (fun _ hk => trivial)⟩, ⟨zb⟩⟩
 case rest =>
  clear HC9
  try clear c1
  try clear p2
  try clear c3
  try clear c5
  try clear c16
  try clear c16b0
  try clear c16b1
  try clear c18
  try clear c19
  try clear c19b0
  try clear c19b1
  obtain ⟨kq, x57_8, rfl, HA, HJ8, HO_3, HO_4, HB⟩ := hcut
  cases kq with
  | zero => exact absurd HA.out (by simp [laws_FnLayers.j0])
  | succ kj8 =>
   have H := HA.out
   clear HA
   simp only [laws_FnLayers.j0] at H
   by_cases c26 : x57_8 = true
   ·subst c26
    have H1 : (some false) = some r := by rw [if_pos rfl] at H; exact H
    clear H
    have H := H1
    clear H1
    obtain rfl := Option.some.inj H
    go_wp2
    repeat (go_quiet (fail); try go_wp2)
    go_ret
    exact ⟨zw, zb⟩
   replace c26 := Bool.eq_false_iff.mpr c26
   subst c26
   have H1 : (if t480 = 0 then (laws_FnLayers.l0 kj8 t476 t479 t487 0 0) else (some true)) = some r := by rw [if_neg (show ¬ (false = true) by decide)] at H; exact H
   clear H
   have H := H1
   clear H1
   by_cases c27 : t480 = 0
   rotate_left
   ·rw [if_neg c27] at H
    have c27b0 : (t480 == 0) = false := beq_eq_false_iff_ne.mpr c27
    have c27b1 : (t480 != 0) = true := bne_iff_ne.mpr c27
    obtain rfl := Option.some.inj H
    go_wp2
    repeat (go_quiet (fail); try go_wp2)
    go_ret
    exact ⟨zw, zb⟩
   rw [if_pos c27] at H
   have c27b0 : (t480 == 0) = true := beq_iff_eq.mpr c27
   have c27b1 : (t480 != 0) = false := bne_eq_false_iff_eq.mpr c27
   clear c27
   have H' := aM H
   clear H
   go_wp2
   repeat (go_quiet (fail); try go_wp2)
   go_loopg [12, 13] kj8 (fun kq v12 v13 w' => ∃ (x12_2 : Int) (x13_2 : Int), v12 = .int .i64 x12_2 ∧ v13 = .int .i64 x13_2 ∧ Aside0 (laws_FnLayers.l0 kq t476 t479 t487 x12_2 x13_2 = some r) ∧ Aside0 (kq ≤ kj8) ∧ Aside0 (Kd.R k47 47 w' w.heap.size (fun _ => True) (.slice Ao11 t476.length co11) t476) ∧ Aside0 (Kd.S (Kd.slice 49 k49) 26 w' w.heap.size (fun _ => True) v481 t479) ∧ Aside0 (Below w.heap.size w w'))
   case atStart => exact ⟨(0), (0), zr, zr, H', ⟨Nat.le_refl _⟩, ⟨mR_ HO_3.out⟩, ⟨mS_ HO_4.out⟩, ⟨zb⟩⟩
   case round =>
    clear H'
    try clear c1
    try clear c2
    try clear p2
    try clear c3
    try clear c5
    try clear c16
    try clear c16b0
    try clear c16b1
    try clear c18
    try clear c19
    try clear c19b0
    try clear c19b1
    try clear c26
    try clear c27
    try clear c27b0
    try clear c27b1
    try clear p2
    obtain ⟨x12_2, x13_2, rfl, rfl, HA, HK2, HO_3, HO_4, HB⟩ := hrel
    cases gk with
    | zero => exact absurd HA.out (by simp [laws_FnLayers.l0])
    | succ k2 =>
     have H := HA.out
     clear HA
     simp only [laws_FnLayers.l0] at H
     by_cases c28 : x13_2 < (t479.length : Int)
     rotate_left
     ·rw [if_neg c28] at H
      have c28b0 : decide (x13_2 < (t479.length : Int)) = false := decide_eq_false c28
      clear c28
      by_cases c39 : x12_2 = (t476.length : Int)
      rotate_left
      ·rw [if_neg c39] at H
       have c39b0 : (x12_2 == (t476.length : Int)) = false := beq_eq_false_iff_ne.mpr c39
       have c39b1 : (x12_2 != (t476.length : Int)) = true := bne_iff_ne.mpr c39
       obtain rfl := Option.some.inj H
       obtain ⟨Ao41, co41, eo41⟩ := Kd.S_slice HO_4.out
       subst eo41
       go_wp2
       repeat (go_quiet (fail); try go_wp2)
       go_ret
       exact ⟨zw, zb⟩
      rw [if_pos c39] at H
      have c39b0 : (x12_2 == (t476.length : Int)) = true := beq_iff_eq.mpr c39
      have c39b1 : (x12_2 != (t476.length : Int)) = false := bne_eq_false_iff_eq.mpr c39
      clear c39
      obtain rfl := Option.some.inj H
      obtain ⟨Ao40, co40, eo40⟩ := Kd.S_slice HO_4.out
      subst eo40
      go_wp2
      repeat (go_quiet (fail); try go_wp2)
      go_ret
      exact ⟨zw, zb⟩
     rw [if_pos c28] at H
     have c28b0 : decide (x13_2 < (t479.length : Int)) = true := decide_eq_true c28
     clear c28
     have H' := aM H
     clear H
     obtain ⟨Ao29, co29, eo29⟩ := Kd.S_slice HO_4.out
     subst eo29
     go_wp2
     repeat (go_quiet (fail); try go_wp2)
     go_loopg [12, 14] k2 (fun kq v12 v14 w' => ∃ (x12_3 : Int) (x14_3 : Int), v12 = .int .i64 x12_3 ∧ v14 = .int .i64 x14_3 ∧ Aside0 (laws_FnLayers.l1 kq t476 t479 t487 x12_3 x13_2 x14_3 = some r) ∧ Aside0 (kq ≤ k2) ∧ Aside0 (Kd.R k47 47 w' w.heap.size (fun _ => True) (.slice Ao11 t476.length co11) t476) ∧ Aside0 (Kd.S (Kd.slice 49 k49) 26 w' w.heap.size (fun _ => True) (.slice Ao29 t479.length co29) t479) ∧ Aside0 (Below w.heap.size w w'))
     case atStart => exact ⟨(x12_2), (0), zr, zr, H', ⟨Nat.le_refl _⟩, ⟨mR_ HO_3.out⟩, ⟨mS_ HO_4.out⟩, ⟨zb⟩⟩
     case round =>
      clear H'
      try clear c1
      try clear c2
      try clear p2
      try clear c3
      try clear c5
      try clear c16
      try clear c16b0
      try clear c16b1
      try clear c18
      try clear c19
      try clear c19b0
      try clear c19b1
      try clear c26
      try clear c27
      try clear c27b0
      try clear c27b1
      try clear c28
      try clear c28b0
      try clear p2
      obtain ⟨x12_3, x14_3, rfl, rfl, HA, HK3, HO_3, HO_4, HB⟩ := hrel
      cases gk with
      | zero => exact absurd HA.out (by simp [laws_FnLayers.l1])
      | succ k3 =>
       have H := HA.out
       clear HA
       simp only [laws_FnLayers.l1] at H
       by_cases c30 : 0 ≤ x13_2
       rotate_left
       ·rw [if_neg c30] at H
        exact absurd H (by simp)
       rw [if_pos c30] at H
       have c30b0 : decide (0 ≤ x13_2) = true := decide_eq_true c30
       clear c30
       by_cases c31 : x13_2 < (t479.length : Int)
       rotate_left
       ·rw [if_neg c31] at H
        exact absurd H (by simp)
       rw [if_pos c31] at H
       have c31b0 : decide (x13_2 < (t479.length : Int)) = true := decide_eq_true c31
       clear c31
       by_cases c32 : x14_3 < ((rd_L2 t479 x13_2).length : Int)
       rotate_left
       ·rw [if_neg c32] at H
        have c32b0 : decide (x14_3 < ((rd_L2 t479 x13_2).length : Int)) = false := decide_eq_false c32
        clear c32
        have H' := aM H
        clear H
        have p492 : 0 ≤ (x13_2 : Int) := of_decide_eq_true za
        have q492 : x13_2 < (t479.length : Int) := of_decide_eq_true za
        obtain ⟨ad492, A492_0, c492_0, e492, hx492_0, hl492_0, hi492_0⟩ := at_L2 (Kd.S_reads' HO_4.out).2.2 x13_2 p492 q492
        cases e492
        obtain ⟨ce492, hce492, hMe492, hcc492⟩ := Kd.S_get HO_4.out [] x13_2 p492 (by first | exact q492 | exact of_decide_eq_true za | (have e_ := (Kd.S_reads' HO_4.out).1; omega))
        obtain ⟨ve492_0, rfl, ge492_0⟩ := hMe492
        have hv492_0 := hcc492 0 _ rfl
        rw [Nat.add_zero, show ((Kd.slice 49 k49)).sz = 1 from rfl, Nat.mul_one] at hv492_0
        replace hv492_0 := Option.some.inj (hv492_0.symm.trans hx492_0)
        rw [hv492_0] at ge492_0
        have HL492_0 := aM (show Kd.R k49 49 _ _ _ _ (rd_L2 t479 x13_2) from ge492_0)
        clear hv492_0 ge492_0
        clear hcc492 hce492
        have HR492_0 := aM hi492_0
        have HC492_0 := aM hl492_0
        clear hi492_0 hl492_0
        replace p492 := eq_true p492
        replace q492 := eq_true q492
        go_wp2
        repeat (go_quiet (fail); try go_wp2)
        go_roundg k3
        case measure => have := HJ8.out; have := HK2.out; have := HK3.out; omega
        case rel => exact ⟨(x12_3), (wrap64 (x13_2 + 1)), zr, zr, H', ⟨by have := HJ8.out; have := HK2.out; have := HK3.out; omega⟩, ⟨mR_ HO_3.out⟩, ⟨mS_ HO_4.out⟩, ⟨zb⟩⟩
       rw [if_pos c32] at H
       have c32b0 : decide (x14_3 < ((rd_L2 t479 x13_2).length : Int)) = true := decide_eq_true c32
       clear c32
       by_cases c33 : x12_3 ≥ (t476.length : Int)
       ·rw [if_pos c33] at H
        have c33b0 : decide ((t476.length : Int) ≤ x12_3) = true := decide_eq_true c33
        clear c33
        obtain rfl := Option.some.inj H
        have p492 : 0 ≤ (x13_2 : Int) := of_decide_eq_true za
        have q492 : x13_2 < (t479.length : Int) := of_decide_eq_true za
        obtain ⟨ad492, A492_0, c492_0, e492, hx492_0, hl492_0, hi492_0⟩ := at_L2 (Kd.S_reads' HO_4.out).2.2 x13_2 p492 q492
        cases e492
        obtain ⟨ce492, hce492, hMe492, hcc492⟩ := Kd.S_get HO_4.out [] x13_2 p492 (by first | exact q492 | exact of_decide_eq_true za | (have e_ := (Kd.S_reads' HO_4.out).1; omega))
        obtain ⟨ve492_0, rfl, ge492_0⟩ := hMe492
        have hv492_0 := hcc492 0 _ rfl
        rw [Nat.add_zero, show ((Kd.slice 49 k49)).sz = 1 from rfl, Nat.mul_one] at hv492_0
        replace hv492_0 := Option.some.inj (hv492_0.symm.trans hx492_0)
        rw [hv492_0] at ge492_0
        have HL492_0 := aM (show Kd.R k49 49 _ _ _ _ (rd_L2 t479 x13_2) from ge492_0)
        clear hv492_0 ge492_0
        clear hcc492 hce492
        have HR492_0 := aM hi492_0
        have HC492_0 := aM hl492_0
        clear hi492_0 hl492_0
        replace p492 := eq_true p492
        replace q492 := eq_true q492
        go_wp2
        repeat (go_quiet (fail); try go_wp2)
        go_ret
        exact ⟨zw, zb⟩
       rw [if_neg c33] at H
       have c33b0 : decide ((t476.length : Int) ≤ x12_3) = false := decide_eq_false c33
       clear c33
       by_cases c34 : 0 ≤ x12_3
       rotate_left
       ·rw [if_neg c34] at H
        exact absurd H (by simp)
       rw [if_pos c34] at H
       have c34b0 : decide (0 ≤ x12_3) = true := decide_eq_true c34
       clear c34
       by_cases c35 : x12_3 < (t476.length : Int)
       rotate_left
       ·rw [if_neg c35] at H
        exact absurd H (by simp)
       rw [if_pos c35] at H
       have c35b0 : decide (x12_3 < (t476.length : Int)) = true := decide_eq_true c35
       clear c35
       by_cases c36 : 0 ≤ x14_3
       rotate_left
       ·rw [if_neg c36] at H
        exact absurd H (by simp)
       rw [if_pos c36] at H
       have c36b0 : decide (0 ≤ x14_3) = true := decide_eq_true c36
       clear c36
       by_cases c37 : 0 < (t476.length : Int)
       rotate_left
       ·rw [if_neg c37] at H
        exact absurd H (by simp)
       rw [if_pos c37] at H
       have c37b0 : decide (0 < (t476.length : Int)) = true := decide_eq_true c37
       have c37b1 : decide (0 < t476.length) = true := decide_eq_true (by omega)
       clear c37
       by_cases c38 : (!(((rd_T47 t476 x12_3).f0) == ((rd_T49 (rd_L2 t479 x13_2) x14_3).f0)) || (!(((rd_T47 t476 x12_3).f1) == ((rd_T49 (rd_L2 t479 x13_2) x14_3).f1)) || (!(((rd_T47 t476 x12_3).f2) == (wrap64 (((rd_T47 t476 0).f2) + x13_2)))))) = true
       ·rw [if_pos c38] at H
        have c38b0 : (!(((rd_T47 t476 x12_3).f0) == ((rd_T49 (rd_L2 t479 x13_2) x14_3).f0)) || (!(((rd_T47 t476 x12_3).f1) == ((rd_T49 (rd_L2 t479 x13_2) x14_3).f1)) || (!(((rd_T47 t476 x12_3).f2) == (wrap64 (((rd_T47 t476 0).f2) + x13_2)))))) = true := c38
        clear c38
        obtain rfl := Option.some.inj H
        have p492 : 0 ≤ (x13_2 : Int) := of_decide_eq_true za
        have q492 : x13_2 < (t479.length : Int) := of_decide_eq_true za
        obtain ⟨ad492, A492_0, c492_0, e492, hx492_0, hl492_0, hi492_0⟩ := at_L2 (Kd.S_reads' HO_4.out).2.2 x13_2 p492 q492
        cases e492
        obtain ⟨ce492, hce492, hMe492, hcc492⟩ := Kd.S_get HO_4.out [] x13_2 p492 (by first | exact q492 | exact of_decide_eq_true za | (have e_ := (Kd.S_reads' HO_4.out).1; omega))
        obtain ⟨ve492_0, rfl, ge492_0⟩ := hMe492
        have hv492_0 := hcc492 0 _ rfl
        rw [Nat.add_zero, show ((Kd.slice 49 k49)).sz = 1 from rfl, Nat.mul_one] at hv492_0
        replace hv492_0 := Option.some.inj (hv492_0.symm.trans hx492_0)
        rw [hv492_0] at ge492_0
        have HL492_0 := aM (show Kd.R k49 49 _ _ _ _ (rd_L2 t479 x13_2) from ge492_0)
        clear hv492_0 ge492_0
        clear hcc492 hce492
        have HR492_0 := aM hi492_0
        have HC492_0 := aM hl492_0
        clear hi492_0 hl492_0
        replace p492 := eq_true p492
        replace q492 := eq_true q492
        have p493 : 0 ≤ (x12_3 : Int) := of_decide_eq_true za
        have q493 : x12_3 < (t476.length : Int) := of_decide_eq_true za
        obtain ⟨ad493, e493, hx493_0, hx493_1, hx493_2⟩ := at_T47 (Kd.R_reads' HO_3.out).2.2 x12_3 p493 q493
        cases e493
        replace p493 := eq_true p493
        replace q493 := eq_true q493
        have p494 : 0 ≤ (x13_2 : Int) := of_decide_eq_true za
        have q494 : x13_2 < (t479.length : Int) := of_decide_eq_true za
        obtain ⟨ad494, A494_0, c494_0, e494, hx494_0, hl494_0, hi494_0⟩ := at_L2 (Kd.S_reads' HO_4.out).2.2 x13_2 p494 q494
        obtain rfl : ad492 = ad494 := (by injection e494)
        obtain ⟨ce494, hce494, hMe494, hcc494⟩ := Kd.S_get HO_4.out [] x13_2 p494 (by first | exact q494 | exact of_decide_eq_true za | (have e_ := (Kd.S_reads' HO_4.out).1; omega))
        obtain ⟨ve494_0, rfl, ge494_0⟩ := hMe494
        have hv494_0 := hcc494 0 _ rfl
        rw [Nat.add_zero, show ((Kd.slice 49 k49)).sz = 1 from rfl, Nat.mul_one] at hv494_0
        replace hv494_0 := Option.some.inj (hv494_0.symm.trans hx494_0)
        rw [hv494_0] at ge494_0
        have HL494_0 := aM (show Kd.R k49 49 _ _ _ _ (rd_L2 t479 x13_2) from ge494_0)
        clear hv494_0 ge494_0
        clear hcc494 hce494
        have HR494_0 := aM hi494_0
        have HC494_0 := aM hl494_0
        clear hi494_0 hl494_0
        replace p494 := eq_true p494
        replace q494 := eq_true q494
        have ea_ := Option.some.inj (hx492_0.symm.trans hx494_0)
        injection ea_ with ea_ en_ ec_
        subst ea_
        subst ec_
        clear en_
        have p495 : 0 ≤ (x14_3 : Int) := of_decide_eq_true za
        have q495 : x14_3 < ((rd_L2 t479 x13_2).length : Int) := of_decide_eq_true za
        obtain ⟨ad495, e495, hx495_0, hx495_1⟩ := at_T49 (mQ_ HR494_0.out) x14_3 p495 q495
        cases e495
        replace p495 := eq_true p495
        replace q495 := eq_true q495
        have p496 : 0 ≤ (x13_2 : Int) := of_decide_eq_true za
        have q496 : x13_2 < (t479.length : Int) := of_decide_eq_true za
        obtain ⟨ad496, A496_0, c496_0, e496, hx496_0, hl496_0, hi496_0⟩ := at_L2 (Kd.S_reads' HO_4.out).2.2 x13_2 p496 q496
        obtain rfl : ad492 = ad496 := (by injection e496)
        obtain ⟨ce496, hce496, hMe496, hcc496⟩ := Kd.S_get HO_4.out [] x13_2 p496 (by first | exact q496 | exact of_decide_eq_true za | (have e_ := (Kd.S_reads' HO_4.out).1; omega))
        obtain ⟨ve496_0, rfl, ge496_0⟩ := hMe496
        have hv496_0 := hcc496 0 _ rfl
        rw [Nat.add_zero, show ((Kd.slice 49 k49)).sz = 1 from rfl, Nat.mul_one] at hv496_0
        replace hv496_0 := Option.some.inj (hv496_0.symm.trans hx496_0)
        rw [hv496_0] at ge496_0
        have HL496_0 := aM (show Kd.R k49 49 _ _ _ _ (rd_L2 t479 x13_2) from ge496_0)
        clear hv496_0 ge496_0
        clear hcc496 hce496
        have HR496_0 := aM hi496_0
        have HC496_0 := aM hl496_0
        clear hi496_0 hl496_0
        replace p496 := eq_true p496
        replace q496 := eq_true q496
        have ea_ := Option.some.inj (hx492_0.symm.trans hx496_0)
        injection ea_ with ea_ en_ ec_
        subst ea_
        subst ec_
        clear en_
        have p497 : 0 ≤ (x14_3 : Int) := of_decide_eq_true za
        have q497 : x14_3 < ((rd_L2 t479 x13_2).length : Int) := of_decide_eq_true za
        obtain ⟨ad497, e497, hx497_0, hx497_1⟩ := at_T49 (mQ_ HR496_0.out) x14_3 p497 q497
        cases e497
        replace p497 := eq_true p497
        replace q497 := eq_true q497
        have p498 : 0 ≤ (0 : Int) := (by omega)
        have q498 : 0 < (t476.length : Int) := of_decide_eq_true za
        obtain ⟨ad498, e498, hx498_0, hx498_1, hx498_2⟩ := at_T47 (Kd.R_reads' HO_3.out).2.2 0 p498 q498
        obtain rfl : ad493 = ad498 := (by injection e498)
        have qi498 : (0 < t476.length) = True := eq_true (by omega)
        (try rw [show ((0 : Int)).toNat = 0 from rfl] at hx498_0)
        (try rw [show 0 * 3 = 0 from rfl] at hx498_0)
        (try rw [Addr.add_zero'] at hx498_0)
        (try rw [show ((0 : Int)).toNat = 0 from rfl] at hx498_1)
        (try rw [show 0 * 3 = 0 from rfl] at hx498_1)
        (try rw [Addr.add_zero'] at hx498_1)
        (try rw [show ((0 : Int)).toNat = 0 from rfl] at hx498_2)
        (try rw [show 0 * 3 = 0 from rfl] at hx498_2)
        (try rw [Addr.add_zero'] at hx498_2)
        replace p498 := eq_true p498
        replace q498 := eq_true q498
        go_wp2
        repeat (go_quiet (fail); try go_wp2)
        go_ret
        exact ⟨zw, zb⟩
       rw [if_neg c38] at H
       have c38b0 : (!(((rd_T47 t476 x12_3).f0) == ((rd_T49 (rd_L2 t479 x13_2) x14_3).f0)) || (!(((rd_T47 t476 x12_3).f1) == ((rd_T49 (rd_L2 t479 x13_2) x14_3).f1)) || (!(((rd_T47 t476 x12_3).f2) == (wrap64 (((rd_T47 t476 0).f2) + x13_2)))))) = false := by simpa using c38
       clear c38
       have H' := aM H
       clear H
       have p492 : 0 ≤ (x13_2 : Int) := of_decide_eq_true za
       have q492 : x13_2 < (t479.length : Int) := of_decide_eq_true za
       obtain ⟨ad492, A492_0, c492_0, e492, hx492_0, hl492_0, hi492_0⟩ := at_L2 (Kd.S_reads' HO_4.out).2.2 x13_2 p492 q492
       cases e492
       obtain ⟨ce492, hce492, hMe492, hcc492⟩ := Kd.S_get HO_4.out [] x13_2 p492 (by first | exact q492 | exact of_decide_eq_true za | (have e_ := (Kd.S_reads' HO_4.out).1; omega))
       obtain ⟨ve492_0, rfl, ge492_0⟩ := hMe492
       have hv492_0 := hcc492 0 _ rfl
       rw [Nat.add_zero, show ((Kd.slice 49 k49)).sz = 1 from rfl, Nat.mul_one] at hv492_0
       replace hv492_0 := Option.some.inj (hv492_0.symm.trans hx492_0)
       rw [hv492_0] at ge492_0
       have HL492_0 := aM (show Kd.R k49 49 _ _ _ _ (rd_L2 t479 x13_2) from ge492_0)
       clear hv492_0 ge492_0
       clear hcc492 hce492
       have HR492_0 := aM hi492_0
       have HC492_0 := aM hl492_0
       clear hi492_0 hl492_0
       replace p492 := eq_true p492
       replace q492 := eq_true q492
       have p493 : 0 ≤ (x12_3 : Int) := of_decide_eq_true za
       have q493 : x12_3 < (t476.length : Int) := of_decide_eq_true za
       obtain ⟨ad493, e493, hx493_0, hx493_1, hx493_2⟩ := at_T47 (Kd.R_reads' HO_3.out).2.2 x12_3 p493 q493
       cases e493
       replace p493 := eq_true p493
       replace q493 := eq_true q493
       have p494 : 0 ≤ (x13_2 : Int) := of_decide_eq_true za
       have q494 : x13_2 < (t479.length : Int) := of_decide_eq_true za
       obtain ⟨ad494, A494_0, c494_0, e494, hx494_0, hl494_0, hi494_0⟩ := at_L2 (Kd.S_reads' HO_4.out).2.2 x13_2 p494 q494
       obtain rfl : ad492 = ad494 := (by injection e494)
       obtain ⟨ce494, hce494, hMe494, hcc494⟩ := Kd.S_get HO_4.out [] x13_2 p494 (by first | exact q494 | exact of_decide_eq_true za | (have e_ := (Kd.S_reads' HO_4.out).1; omega))
       obtain ⟨ve494_0, rfl, ge494_0⟩ := hMe494
       have hv494_0 := hcc494 0 _ rfl
       rw [Nat.add_zero, show ((Kd.slice 49 k49)).sz = 1 from rfl, Nat.mul_one] at hv494_0
       replace hv494_0 := Option.some.inj (hv494_0.symm.trans hx494_0)
       rw [hv494_0] at ge494_0
       have HL494_0 := aM (show Kd.R k49 49 _ _ _ _ (rd_L2 t479 x13_2) from ge494_0)
       clear hv494_0 ge494_0
       clear hcc494 hce494
       have HR494_0 := aM hi494_0
       have HC494_0 := aM hl494_0
       clear hi494_0 hl494_0
       replace p494 := eq_true p494
       replace q494 := eq_true q494
       have ea_ := Option.some.inj (hx492_0.symm.trans hx494_0)
       injection ea_ with ea_ en_ ec_
       subst ea_
       subst ec_
       clear en_
       have p495 : 0 ≤ (x14_3 : Int) := of_decide_eq_true za
       have q495 : x14_3 < ((rd_L2 t479 x13_2).length : Int) := of_decide_eq_true za
       obtain ⟨ad495, e495, hx495_0, hx495_1⟩ := at_T49 (mQ_ HR494_0.out) x14_3 p495 q495
       cases e495
       replace p495 := eq_true p495
       replace q495 := eq_true q495
       have p496 : 0 ≤ (x13_2 : Int) := of_decide_eq_true za
       have q496 : x13_2 < (t479.length : Int) := of_decide_eq_true za
       obtain ⟨ad496, A496_0, c496_0, e496, hx496_0, hl496_0, hi496_0⟩ := at_L2 (Kd.S_reads' HO_4.out).2.2 x13_2 p496 q496
       obtain rfl : ad492 = ad496 := (by injection e496)
       obtain ⟨ce496, hce496, hMe496, hcc496⟩ := Kd.S_get HO_4.out [] x13_2 p496 (by first | exact q496 | exact of_decide_eq_true za | (have e_ := (Kd.S_reads' HO_4.out).1; omega))
       obtain ⟨ve496_0, rfl, ge496_0⟩ := hMe496
       have hv496_0 := hcc496 0 _ rfl
       rw [Nat.add_zero, show ((Kd.slice 49 k49)).sz = 1 from rfl, Nat.mul_one] at hv496_0
       replace hv496_0 := Option.some.inj (hv496_0.symm.trans hx496_0)
       rw [hv496_0] at ge496_0
       have HL496_0 := aM (show Kd.R k49 49 _ _ _ _ (rd_L2 t479 x13_2) from ge496_0)
       clear hv496_0 ge496_0
       clear hcc496 hce496
       have HR496_0 := aM hi496_0
       have HC496_0 := aM hl496_0
       clear hi496_0 hl496_0
       replace p496 := eq_true p496
       replace q496 := eq_true q496
       have ea_ := Option.some.inj (hx492_0.symm.trans hx496_0)
       injection ea_ with ea_ en_ ec_
       subst ea_
       subst ec_
       clear en_
       have p497 : 0 ≤ (x14_3 : Int) := of_decide_eq_true za
       have q497 : x14_3 < ((rd_L2 t479 x13_2).length : Int) := of_decide_eq_true za
       obtain ⟨ad497, e497, hx497_0, hx497_1⟩ := at_T49 (mQ_ HR496_0.out) x14_3 p497 q497
       cases e497
       replace p497 := eq_true p497
       replace q497 := eq_true q497
       have p498 : 0 ≤ (0 : Int) := (by omega)
       have q498 : 0 < (t476.length : Int) := of_decide_eq_true za
       obtain ⟨ad498, e498, hx498_0, hx498_1, hx498_2⟩ := at_T47 (Kd.R_reads' HO_3.out).2.2 0 p498 q498
       obtain rfl : ad493 = ad498 := (by injection e498)
       have qi498 : (0 < t476.length) = True := eq_true (by omega)
       (try rw [show ((0 : Int)).toNat = 0 from rfl] at hx498_0)
       (try rw [show 0 * 3 = 0 from rfl] at hx498_0)
       (try rw [Addr.add_zero'] at hx498_0)
       (try rw [show ((0 : Int)).toNat = 0 from rfl] at hx498_1)
       (try rw [show 0 * 3 = 0 from rfl] at hx498_1)
       (try rw [Addr.add_zero'] at hx498_1)
       (try rw [show ((0 : Int)).toNat = 0 from rfl] at hx498_2)
       (try rw [show 0 * 3 = 0 from rfl] at hx498_2)
       (try rw [Addr.add_zero'] at hx498_2)
       replace p498 := eq_true p498
       replace q498 := eq_true q498
       go_wp2
       repeat (go_quiet (fail); try go_wp2)
       go_roundg k3
       case measure => have := HJ8.out; have := HK2.out; have := HK3.out; omega
       case rel => exact ⟨(wrap64 (x12_3 + 1)), (wrap64 (x14_3 + 1)), zr, zr, H', ⟨by have := HJ8.out; have := HK2.out; have := HK3.out; omega⟩, ⟨mR_ HO_3.out⟩, ⟨mS_ HO_4.out⟩, ⟨zb⟩⟩
end Go.Proofs.Ytdcpahfpnjnmcaa.F
end
section
namespace Go.Proofs.Ytdcpahfpnjnmcaa.Open
open Go.ChangeShapes Go.WideShapes Go.Deep Go.RowKit Go.Proofs.YtdcpahfpnjnmcaaW.PrintWords
def Opens {α : Type} (P : Program) (d : Kd α) (t : TypeId) (V : α → Prop) : Prop :=
  ∀ (H : Type) (enc : TypeId × Value → H) (w : World) (base : Nat) (spare : Nat → Bool) (held : Bool) (fuel : Nat) (cs : List Value) (x : DataW H × List MemPlace),
    DataW.trod enc P w base spare held fuel t cs = some x → ∃ a : α, d.K w a cs ∧ V a
theorem Opens.int {P : Program} {t : TypeId} {k : IntKind} (ht : P.underlying t = some (.int k)) : Opens P (Kd.int k) t (fun a => (Lit.int k a).wf = true) := by
  intro H enc w base spare held fuel cs x h
  obtain ⟨n, hcs, _, hw⟩ := DataW.trod_int ht h
  exact ⟨n, hcs, hw⟩
theorem Opens.bool {P : Program} {t : TypeId} (ht : P.underlying t = some .bool) : Opens P Kd.bool t (fun _ => True) := by
  intro H enc w base spare held fuel cs x h
  obtain ⟨b, hcs, _⟩ := DataW.trod_bool ht h
  exact ⟨b, hcs, trivial⟩
theorem Opens.slice {α : Type} [Inhabited α] {P : Program} {t e : TypeId} {d : Kd α} {V : α → Prop} (ht : P.underlying t = some (.slice e)) (hsz : P.cellsOf e = d.sz) (ho : Opens P d e V) :
    Opens P (Kd.slice e d) t (fun l => l.length ≤ 9223372036854775807 ∧ ∀ a ∈ l, V a) := by
  intro H enc w base spare held fuel cs x h
  rcases open_slice ht h with ⟨rfl, _⟩ | ⟨a, len, cap, m, n, D, Pl, rfl, hb, hl, hm, hmm, _, hi⟩
  · exact ⟨[], ⟨none, 0, rfl, Nat.le_refl _, rfl, by simp, fun hp => absurd hp (by simp)⟩, by simp, by simp⟩
  · have hlm : len ≤ m := by rw [hmm]; split <;> omega
    have hx : ∀ i, i < len → ∃ y : α, V y ∧ ∃ c : List Value, c.length = d.sz ∧ d.K w y c ∧ ∀ j u, c[j]? = some u → w.cell? (a.add (i * d.sz + j)) = some u := by
      intro i hil
      obtain ⟨cs', hc, ht'⟩ := hi i (by omega)
      obtain ⟨y, hk, hv⟩ := ho H enc w base spare held n cs' _ ht'
      obtain ⟨_, hcl, hat⟩ := World.cells?_some hc
      refine ⟨y, hv, cs', d.K_len hk, hk, fun j u hj => ?_⟩
      have hjl : j < cs'.length := (List.getElem?_eq_some_iff.1 hj).1
      have := hat j (by rw [hsz, ← d.K_len hk]; exact hjl)
      rw [Go.Deep.add_add, hsz] at this
      rw [this, hj]
    obtain ⟨f, hf⟩ := choose_lt hx
    have hlen : ((List.range len).map f).length = len := by simp
    refine ⟨(List.range len).map f, ⟨some a, cap, by rw [hlen], by rw [hlen]; exact hl, rfl, ?_, fun _ => ⟨a, rfl, fun j p hj => ?_⟩⟩, ?_⟩
    · rw [hlen]; unfold maxLen at hm; omega
    · have hjl : j < len := by
        have := (List.getElem?_eq_some_iff.1 hj).1
        rwa [hlen] at this
      have hp : f j = p := by
        rw [List.getElem?_map, List.getElem?_range hjl] at hj
        simpa using hj
      obtain ⟨_, c, h1, h2, h3⟩ := hf j hjl
      rw [hp] at h2
      exact ⟨c, h1, h2, h3⟩
    · refine ⟨by rw [hlen]; unfold maxLen at hm; omega, fun y hy => ?_⟩
      obtain ⟨i, hi', rfl⟩ := List.mem_map.1 hy
      exact (hf i (List.mem_range.1 hi')).1
theorem arg_open {α : Type} {P : Program} {t : TypeId} {d : Kd α} {V : α → Prop} (ho : Opens P d t V) {H : Type} {enc : TypeId × Value → H} {w : World} {base : Nat} {spare : Nat → Bool} {held : Bool} {v : Value} {x : DataW H} {p : List MemPlace}
    (h : DataW.Trod enc P w base spare held t v x p) : ∃ a : α, d.K w a v.cells.toList ∧ V a := by
  obtain ⟨fuel, hf⟩ := h
  exact ho _ _ _ _ _ _ _ _ _ hf
theorem slice_arg {α : Type} {d : Kd α} {e : Nat} {w : World} {l : List α} {a : Option Addr} {len cap : Nat} (h : (Kd.slice e d).K w l (Value.slice a len cap).cells.toList) : l.length = len ∧ l.length ≤ cap ∧ d.C w a l.length l := by
  obtain ⟨A, c, hcs, hl, hr⟩ := h
  simp [Value.cells] at hcs
  obtain ⟨rfl, rfl, rfl⟩ := hcs
  exact ⟨rfl, hl, hr⟩
end Go.Proofs.Ytdcpahfpnjnmcaa.Open
end
section
namespace Go.Proofs.Ytdcpahfpnjnmcaa.L
open Go.RowKit Go.Proofs.YtdcpahfpnjnmcaaW.PrintWords
theorem Ev.pos {α : Type} {c : Prop} [Decidable c] {f g : Nat → Option α} {r : α} (h : c) (e : Ev f r) : Ev (fun k => if c then f k else g k) r := by
  obtain ⟨K, e⟩ := e
  exact ⟨K, fun k hk => (if_pos h).trans (e k hk)⟩
theorem Ev.neg {α : Type} {c : Prop} [Decidable c] {f g : Nat → Option α} {r : α} (h : ¬ c) (e : Ev g r) : Ev (fun k => if c then f k else g k) r := by
  obtain ⟨K, e⟩ := e
  exact ⟨K, fun k hk => (if_neg h).trans (e k hk)⟩
theorem Ev.if_ {α : Type} {c : Prop} [Decidable c] {f g : Nat → Option α} {r s : α} (h : c → Ev f r) (h' : ¬ c → Ev g s) : Ev (fun k => if c then f k else g k) (if c then r else s) := by
  by_cases hc : c
  · rw [if_pos hc]; exact Ev.pos hc (h hc)
  · rw [if_neg hc]; exact Ev.neg hc (h' hc)
theorem Ev.of_eq {α : Type} {g : Nat → Option α} {r s : α} (h : Ev g r) (e : r = s) : Ev g s := e ▸ h
theorem Ev.bind0 {α β : Type} {o : Option α} {f : Nat → α → Option β} {a : α} {r : β} (h : o = some a) (k : Ev (fun n => f n a) r) : Ev (fun n => o.bind (f n)) r := by
  subst h
  exact k
theorem Ev.succ {α : Type} {g : Nat → Option α} {r : α} (h : Ev (fun k => g (k + 1)) r) : Ev g r := by
  obtain ⟨K, h⟩ := h
  refine ⟨K + 1, fun n hn => ?_⟩
  obtain ⟨m, rfl⟩ : ∃ m, n = m + 1 := ⟨n - 1, by omega⟩
  exact h m (by omega)
theorem w64 {n : Int} (h : -9223372036854775808 ≤ n) (h' : n ≤ 9223372036854775807) : wrap64 n = n := by
  unfold wrap64
  omega
theorem getD_at {α : Type} (pre suf : List α) (c d : α) : (pre ++ c :: suf).getD (pre.length : Int).toNat d = c := by
  simp [List.getD]
end Go.Proofs.Ytdcpahfpnjnmcaa.L
namespace Go.Proofs.Ytdcpahfpnjnmcaa.L
open Go.RowKit Go.Proofs.YtdcpahfpnjnmcaaW.PrintWords
theorem loop_list {α σ ρ : Type} (xs : List α) (l : Nat → Int → σ → Option ρ) (g : List α → List α → σ → ρ) (Inv : List α → σ → Prop)
    (hn : ∀ s, Inv xs s → Ev (fun k => l (k + 1) (xs.length : Int) s) (g xs [] s))
    (hs : ∀ (pre : List α) (c : α) (suf : List α) (s : σ), xs = pre ++ c :: suf → Inv pre s → (∀ s', Inv (pre ++ [c]) s' → Ev (fun k => l k ((pre.length : Int) + 1) s') (g (pre ++ [c]) suf s')) → Ev (fun k => l (k + 1) (pre.length : Int) s) (g pre (c :: suf) s)) :
    ∀ s, Inv [] s → Ev (fun k => l k 0 s) (g [] xs s) := by
  have key : ∀ (suf pre : List α), xs = pre ++ suf → ∀ s, Inv pre s → Ev (fun k => l k (pre.length : Int) s) (g pre suf s) := by
    intro suf
    induction suf with
    | nil =>
      intro pre hx s hi
      rw [List.append_nil] at hx
      subst hx
      exact Ev.succ (hn s hi)
    | cons c suf ih =>
      intro pre hx s hi
      refine Ev.succ (hs pre c suf s hx hi fun s' hi' => ?_)
      have := ih (pre ++ [c]) (by rw [hx]; simp) s' hi'
      rw [List.length_append] at this
      exact this
  intro s hi
  exact key xs [] rfl s hi
end Go.Proofs.Ytdcpahfpnjnmcaa.L
end
section
namespace Go.Proofs.Ytdcpahfpnjnmcaa.L
open Go.RowKit Go.Proofs.YtdcpahfpnjnmcaaW.PrintWords Go.Proofs.YtdcpahfpnjnmcaaW.PrintLast Go.Proofs.YtdcpahfpnjnmcaaW.PrintMore Go.Proofs.Ytdcpahfpnjnmcaa.F
set_option linter.unusedVariables false
set_option linter.unusedSimpArgs false
abbrev Cell := S49
theorem in_eq (a b c : Int) : spec_l01In.f a b c = some (decide (b ≤ a ∧ a ≤ c)) := by
  unfold spec_l01In.f
  by_cases h : a ≥ b
  · rw [if_pos h]; simp [show b ≤ a from h]
  · rw [if_neg h]; simp [show ¬ b ≤ a from h]
theorem within_eq (a b c : Int) : impl_within.f a b c = some (decide (b ≤ a ∧ a ≤ c)) := by
  unfold impl_within.f
  by_cases h : a ≥ b
  · rw [if_pos h]; simp [show b ≤ a from h]
  · rw [if_neg h]; simp [show ¬ b ≤ a from h]
def ok1 (n : Int) : Prop := -100 ≤ n ∧ n ≤ 100
instance (n : Int) : Decidable (ok1 n) := by unfold ok1; infer_instance
def okC (c : Cell) : Prop := ok1 c.f0 ∧ ok1 c.f1
instance (c : Cell) : Decidable (okC c) := by unfold okC; infer_instance
def ltC (a b : Cell) : Prop := a.f1 < b.f1 ∨ a.f1 = b.f1 ∧ a.f0 < b.f0
instance (a b : Cell) : Decidable (ltC a b) := by unfold ltC; infer_instance
theorem isCoordinate_eq (n : Int) : impl_isCoordinate.f n = some (decide (ok1 n)) := by
  unfold impl_isCoordinate.f
  rw [within_eq]
  rfl
theorem l02Cell_eq (x y : Int) : spec_l02Cell.f x y = some (decide (ok1 x ∧ ok1 y)) := by
  unfold spec_l02Cell.f
  rw [in_eq, in_eq]
  simp only [Option.bind_some]
  by_cases h : -100 ≤ x ∧ x ≤ 100
  · have h' : ok1 x := h
    simp only [h, and_self, decide_true, if_true, true_and, h', ok1]
  · have h' : ¬ ok1 x := h
    simp [h, h']
def small {α : Type} (l : List α) : Prop := l.length ≤ 4611686018427387904
theorem pre_lt {α : Type} {xs pre suf : List α} {c : α} (h : xs = pre ++ c :: suf) : ((pre.length : Int) < (xs.length : Int)) = True := by
  subst h; simp; omega
theorem pre_w {α : Type} {xs pre suf : List α} {c : α} (h : xs = pre ++ c :: suf) (hs : small xs) : wrap64 ((pre.length : Int) + 1) = (pre.length : Int) + 1 := by
  subst h
  unfold small at hs
  rw [List.length_append, List.length_cons] at hs
  exact w64 (by omega) (by omega)
theorem pre_0 {α : Type} (pre : List α) : (0 ≤ (pre.length : Int)) = True := by simp
theorem len_lt {α : Type} (xs : List α) : ((xs.length : Int) < (xs.length : Int)) = False := by simp
theorem at_pre {xs pre suf : List Cell} {c : Cell} (h : xs = pre ++ c :: suf) : rd_T49 xs (pre.length : Int) = c := by
  subst h; exact getD_at pre suf c _
theorem pre_len {α : Type} {xs pre suf : List α} {c : α} (h : xs = pre ++ c :: suf) : pre.length < xs.length := by
  subst h; simp
def cmpI (a b : Int) : Int := if a < b then -1 else if a > b then 1 else 0
theorem compare_eq (a b : Int) : cmp_Compare_int64.f a b = some (cmpI a b) := by
  unfold cmp_Compare_int64.f cmp_isNaN_int64.f cmpI
  simp only [bne_self_eq_false, Option.bind_some, Bool.false_eq_true, if_false]
  split
  · rfl
  · split <;> rfl
abbrev Cube := S47
def okQ (c : Cube) : Prop := ok1 c.f0 ∧ ok1 c.f1 ∧ ok1 c.f2
instance (c : Cube) : Decidable (okQ c) := by unfold okQ; infer_instance
def ltQ (a b : Cube) : Prop := a.f2 < b.f2 ∨ a.f2 = b.f2 ∧ (a.f1 < b.f1 ∨ a.f1 = b.f1 ∧ a.f0 < b.f0)
instance (a b : Cube) : Decidable (ltQ a b) := by unfold ltQ; infer_instance
theorem ltQ_trans {a b c : Cube} (h : ltQ a b) (h' : ltQ b c) : ltQ a c := by unfold ltQ at *; omega
theorem at_preQ {xs pre suf : List Cube} {c : Cube} (h : xs = pre ++ c :: suf) : rd_T47 xs (pre.length : Int) = c := by
  subst h; exact getD_at pre suf c _
theorem less9_eq (a b : Cube) : spec_l09Less.f a.f0 a.f1 a.f2 b.f0 b.f1 b.f2 = some (decide (ltQ a b)) := by
  unfold spec_l09Less.f ltQ
  by_cases h2 : a.f2 < b.f2
  · simp [h2]
  · by_cases e2 : a.f2 = b.f2
    · by_cases h1 : a.f1 < b.f1
      · simp [e2, h1]
      · by_cases e1 : a.f1 = b.f1
        · simp [e2, e1]
        · simp [e2, h1, e1]
    · simp [h2, e2]
def cmpV (a b : Cube) : Int := if cmpI a.f2 b.f2 = 0 then (if cmpI a.f1 b.f1 = 0 then cmpI a.f0 b.f0 else cmpI a.f1 b.f1) else cmpI a.f2 b.f2
theorem cmpV_ge {a b : Cube} : cmpV a b ≥ 0 ↔ ¬ ltQ a b := by
  unfold cmpV cmpI ltQ
  repeat' split
  all_goals constructor <;> intro h <;> omega
theorem cmpV_eq (a b : Cube) : impl_compareCubes.f a.f0 a.f1 a.f2 b.f0 b.f1 b.f2 = some (cmpV a b) := by
  unfold impl_compareCubes.f impl_compareCells.f cmpV
  simp only [compare_eq, Option.bind_some]
  repeat' split
  all_goals rfl
theorem l09Cube_eq (c : Cube) : spec_l09Cube.f c.f0 c.f1 c.f2 = some (decide (okQ c)) := by
  unfold spec_l09Cube.f
  rw [l02Cell_eq, in_eq]
  simp only [Option.bind_some]
  by_cases h : ok1 c.f0 ∧ ok1 c.f1
  · rw [decide_eq_true h, if_pos rfl]
    simp only [okQ, ok1, h.1, h.2, true_and]
    have h1 := h.1
    have h2 := h.2
    unfold ok1 at h1 h2
    simp [h1, h2]
  · rw [decide_eq_false h, if_neg (by simp)]
    have : ¬ okQ c := fun h' => h ⟨h'.1, h'.2.1⟩
    rw [decide_eq_false this]
def goodFromQ : Option Cube → List Cube → Bool
  | _, [] => true
  | p, c :: r => decide (okQ c) && (match p with | none => true | some q => decide (ltQ q c)) && goodFromQ (some c) r
def solidB (l : List Cube) : Bool := goodFromQ none l && decide (1 ≤ (l.length : Int) ∧ (l.length : Int) ≤ 24)
theorem specSolid_ev (l : List Cube) (hs : small l) : Ev (fun k => spec_l09Solid.f k l) (solidB l) := by
  unfold spec_l09Solid.f
  refine loop_list l (fun k i (_ : Unit) => spec_l09Solid.l0 k l i) (fun pre suf _ => goodFromQ pre.getLast? suf && decide (1 ≤ (l.length : Int) ∧ (l.length : Int) ≤ 24)) (fun _ _ => True) ?_ ?_ () trivial
  · intro _ _
    simp only [spec_l09Solid.l0, len_lt, if_false, in_eq, Option.bind_some]
    refine Ev.of_eq (Ev.now _) ?_
    simp [goodFromQ]
  · intro pre c suf _ hx _ ih
    simp only [spec_l09Solid.l0, pre_lt hx, pre_0, if_true, at_preQ hx, l09Cube_eq, Option.bind_some, pre_w hx hs]
    by_cases hc : okQ c
    · simp only [hc, decide_true, if_true]
      rcases List.eq_nil_or_concat pre with rfl | ⟨L, b, rfl⟩
      · refine Ev.neg (by simp) (Ev.of_eq (ih () trivial) ?_)
        simp [goodFromQ, hc]
      · rw [List.concat_eq_append] at hx ih ⊢
        have hx2 : l = L ++ b :: (c :: suf) := by rw [hx]; simp
        have e1 : wrap64 (((L ++ [b]).length : Int) - 1) = (L.length : Int) := by
          unfold small at hs
          rw [hx2] at hs
          simp only [List.length_append, List.length_cons, List.length_nil] at hs ⊢
          rw [w64 (by omega) (by omega)]; omega
        refine Ev.pos (by simp <;> omega) ?_
        simp only [e1, pre_0, if_true, pre_lt hx2, at_preQ hx2, less9_eq, Option.bind_some]
        by_cases hl : ltQ b c
        · refine Ev.pos (by simpa using hl) (Ev.of_eq (ih () trivial) ?_)
          simp [goodFromQ, hc, hl]
        · refine Ev.neg (by simpa using hl) (Ev.of_eq (Ev.now _) ?_)
          simp [goodFromQ, hc, hl]
    · simp only [hc, decide_false, Bool.false_eq_true, if_false]
      refine Ev.of_eq (Ev.now _) ?_
      simp [goodFromQ, hc]
theorem implSolid_ev (l : List Cube) (hs : small l) : Ev (fun k => impl_isSolid.f k l) (solidB l) := by
  unfold impl_isSolid.f
  refine loop_list l (fun k i (_ : Unit) => impl_isSolid.l0 k l l (l.length : Int) i) (fun pre suf _ => goodFromQ pre.getLast? suf && decide (1 ≤ (l.length : Int) ∧ (l.length : Int) ≤ 24)) (fun _ _ => True) ?_ ?_ () trivial
  · intro _ _
    simp only [impl_isSolid.l0, len_lt, if_false]
    refine Ev.of_eq (Ev.if_ (fun _ => Ev.now _) (fun _ => Ev.now _)) ?_
    by_cases h : (l.length : Int) ≥ 1
    · rw [if_pos h]; simp [goodFromQ, show 1 ≤ (l.length : Int) from h]
    · rw [if_neg h]; simp [goodFromQ, show ¬ 1 ≤ (l.length : Int) from h]
  · intro pre c suf _ hx _ ih
    simp only [impl_isSolid.l0, pre_lt hx, pre_0, if_true, at_preQ hx, isCoordinate_eq, Option.bind_some, pre_w hx hs]
    by_cases h0 : ok1 c.f0
    · by_cases h1 : ok1 c.f1
      · by_cases h2 : ok1 c.f2
        · have hc : okQ c := ⟨h0, h1, h2⟩
          simp only [h0, h1, h2, decide_true, if_true]
          rcases List.eq_nil_or_concat pre with rfl | ⟨L, b, rfl⟩
          · refine Ev.neg (by simp) (Ev.of_eq (ih () trivial) ?_)
            simp [goodFromQ, hc]
          · rw [List.concat_eq_append] at hx ih ⊢
            have hx2 : l = L ++ b :: (c :: suf) := by rw [hx]; simp
            have e1 : wrap64 (((L ++ [b]).length : Int) - 1) = (L.length : Int) := by
              unfold small at hs
              rw [hx2] at hs
              simp only [List.length_append, List.length_cons, List.length_nil] at hs ⊢
              rw [w64 (by omega) (by omega)]; omega
            refine Ev.pos (by simp <;> omega) ?_
            simp only [e1, pre_0, if_true, pre_lt hx2, at_preQ hx2, cmpV_eq, Option.bind_some]
            by_cases hl : ltQ b c
            · refine Ev.neg (fun h => cmpV_ge.1 h hl) (Ev.of_eq (ih () trivial) ?_)
              simp [goodFromQ, hc, hl]
            · refine Ev.pos (cmpV_ge.2 hl) (Ev.of_eq (Ev.now _) ?_)
              simp [goodFromQ, hc, hl]
        · have hc : ¬ okQ c := fun h => h2 h.2.2
          simp only [h0, h1, h2, decide_true, if_true, decide_false, Bool.false_eq_true, if_false]
          refine Ev.of_eq (Ev.now _) ?_
          simp [goodFromQ, hc]
      · have hc : ¬ okQ c := fun h => h1 h.2.1
        simp only [h0, h1, decide_true, if_true, decide_false, Bool.false_eq_true, if_false]
        refine Ev.of_eq (Ev.now _) ?_
        simp [goodFromQ, hc]
    · have hc : ¬ okQ c := fun h => h0 h.1
      simp only [h0, decide_false, Bool.false_eq_true, if_false]
      refine Ev.of_eq (Ev.now _) ?_
      simp [goodFromQ, hc]
theorem goodFromQ_ok : ∀ (l : List Cube) (p : Option Cube), goodFromQ p l = true → ∀ c ∈ l, okQ c
  | [], _, _, c, h => by simp at h
  | a :: r, p, hg, c, h => by
    simp only [goodFromQ, Bool.and_eq_true, decide_eq_true_eq] at hg
    rcases List.mem_cons.1 h with rfl | h
    · exact hg.1.1
    · exact goodFromQ_ok r _ hg.2 c h
theorem goodFromQ_lt : ∀ (l : List Cube) (p : Option Cube), goodFromQ p l = true → (∀ q, p = some q → ∀ c ∈ l, ltQ q c) ∧ l.Pairwise ltQ
  | [], _, _ => ⟨fun _ _ c h => by simp at h, List.Pairwise.nil⟩
  | a :: r, p, hg => by
    simp only [goodFromQ, Bool.and_eq_true, decide_eq_true_eq] at hg
    obtain ⟨h1, h2⟩ := goodFromQ_lt r (some a) hg.2
    have h3 := h1 a rfl
    refine ⟨fun q hq c hc => ?_, List.pairwise_cons.2 ⟨h3, h2⟩⟩
    subst hq
    have h4 : ltQ q a := by simpa using hg.1.2
    rcases List.mem_cons.1 hc with rfl | hc
    · exact h4
    · exact ltQ_trans h4 (h3 c hc)
theorem goodFromQ_of : ∀ (l : List Cube) (p : Option Cube), (∀ c ∈ l, okQ c) → (∀ q, p = some q → ∀ c ∈ l, ltQ q c) → l.Pairwise ltQ → goodFromQ p l = true
  | [], _, _, _, _ => rfl
  | a :: r, p, h0, h1, h2 => by
    obtain ⟨h3, h4⟩ := List.pairwise_cons.1 h2
    simp only [goodFromQ, Bool.and_eq_true, decide_eq_true_eq]
    refine ⟨⟨h0 a List.mem_cons_self, ?_⟩, goodFromQ_of r (some a) (fun c hc => h0 c (List.mem_cons_of_mem _ hc)) (fun q hq c hc => by injection hq with hq; subst hq; exact h3 c hc) h4⟩
    cases p with
    | none => rfl
    | some q => simpa using h1 q rfl a List.mem_cons_self
theorem solidB_iff {l : List Cube} : solidB l = true ↔ (∀ c ∈ l, okQ c) ∧ l.Pairwise ltQ ∧ 1 ≤ l.length ∧ l.length ≤ 24 := by
  unfold solidB
  rw [Bool.and_eq_true, decide_eq_true_eq]
  constructor
  · rintro ⟨h, h'⟩
    exact ⟨goodFromQ_ok l _ h, (goodFromQ_lt l _ h).2, by omega, by omega⟩
  · rintro ⟨h1, h2, h3, h4⟩
    exact ⟨goodFromQ_of l none h1 (fun _ h => by cases h) h2, by omega, by omega⟩
def sameQ (a b : Cube) : Bool := decide (a.f0 = b.f0) && (decide (a.f1 = b.f1) && decide (a.f2 = b.f2))
theorem sameQ_iff {a b : Cube} : sameQ a b = true ↔ a = b := by
  obtain ⟨a0, a1, a2⟩ := a
  obtain ⟨b0, b1, b2⟩ := b
  simp [sameQ]
def idxFQ : List Cube → Cube → Int → Int
  | [], _, _ => -1
  | a :: r, c, i => if sameQ a c = true then i else idxFQ r c (i + 1)
def idxQ (l : List Cube) (c : Cube) : Int := idxFQ l c 0
theorem specIndexQ_ev (l : List Cube) (c : Cube) (hs : small l) : Ev (fun k => spec_l09Index.f k l c.f0 c.f1 c.f2) (idxQ l c) := by
  unfold spec_l09Index.f
  refine loop_list l (fun k i (_ : Unit) => spec_l09Index.l0 k l i c.f0 c.f1 c.f2) (fun pre suf _ => idxFQ suf c (pre.length : Int)) (fun _ _ => True) ?_ ?_ () trivial
  · intro _ _
    simp only [spec_l09Index.l0, len_lt, if_false]
    exact Ev.now _
  · intro pre d suf _ hx _ ih
    simp only [spec_l09Index.l0, pre_lt hx, pre_0, if_true, at_preQ hx, pre_w hx hs, idxFQ]
    have e : (d.f0 == c.f0 && (d.f1 == c.f1 && d.f2 == c.f2)) = sameQ d c := by simp [sameQ, BEq.beq]
    rw [e]
    refine Ev.if_ (fun _ => Ev.now _) (fun _ => Ev.of_eq (ih () trivial) ?_)
    simp
theorem implIndexQ_ev (l : List Cube) (c : Cube) (hs : small l) : Ev (fun k => impl_Cube_76.f k l c.f0 c.f1 c.f2) (idxQ l c) := by
  unfold impl_Cube_76.f
  refine loop_list l (fun k i (_ : Unit) => impl_Cube_76.l0 k l (l.length : Int) i c.f0 c.f1 c.f2) (fun pre suf _ => idxFQ suf c (pre.length : Int)) (fun _ _ => True) ?_ ?_ () trivial
  · intro _ _
    simp only [impl_Cube_76.l0, len_lt, if_false]
    exact Ev.now _
  · intro pre d suf _ hx _ ih
    simp only [impl_Cube_76.l0, pre_lt hx, pre_0, if_true, at_preQ hx, pre_w hx hs, idxFQ]
    have e : (c.f0 == d.f0 && (c.f1 == d.f1 && c.f2 == d.f2)) = sameQ d c := by
      rw [Bool.eq_iff_iff]
      simp only [sameQ, Bool.and_eq_true, beq_iff_eq, decide_eq_true_eq]
      constructor <;> (rintro ⟨h, h', h''⟩; exact ⟨h.symm, h'.symm, h''.symm⟩)
    rw [e]
    refine Ev.if_ (fun _ => Ev.now _) (fun _ => Ev.of_eq (ih () trivial) ?_)
    simp
theorem implContainsQ_ev (l : List Cube) (c : Cube) (hs : small l) : Ev (fun k => impl_Cube_52.f k l c.f0 c.f1 c.f2) (decide (idxQ l c ≥ 0)) := by
  unfold impl_Cube_52.f
  exact Ev.bind (implIndexQ_ev l c hs) (Ev.now _)
def stepsQ : List Cube := [⟨0, 0, -1⟩, ⟨0, -1, 0⟩, ⟨-1, 0, 0⟩, ⟨1, 0, 0⟩, ⟨0, 1, 0⟩, ⟨0, 0, 1⟩]
theorem steps_eq : spec_l09Steps.f = some stepsQ := rfl
def addQ (c d : Cube) : Cube := ⟨wrap64 (c.f0 + d.f0), wrap64 (c.f1 + d.f1), wrap64 (c.f2 + d.f2)⟩
def nbQ (c : Cube) : List Cube := [⟨c.f0, c.f1, wrap64 (c.f2 - 1)⟩, ⟨c.f0, wrap64 (c.f1 - 1), c.f2⟩, ⟨wrap64 (c.f0 - 1), c.f1, c.f2⟩, ⟨wrap64 (c.f0 + 1), c.f1, c.f2⟩, ⟨c.f0, wrap64 (c.f1 + 1), c.f2⟩, ⟨c.f0, c.f1, wrap64 (c.f2 + 1)⟩]
theorem nbQ_len (c : Cube) : (nbQ c).length = 6 := rfl
theorem implAroundQ_eq (c : Cube) : impl_cubesAround.f c.f0 c.f1 c.f2 = some (nbQ c) := rfl
theorem steps_nb {c : Cube} (h : okQ c) : stepsQ.map (addQ c) = nbQ c := by
  obtain ⟨x, y, z⟩ := c
  unfold okQ ok1 at h
  simp only at h
  have w (n : Int) (h0 : -1000 ≤ n) (h1 : n ≤ 1000) : wrap64 n = n := w64 (by omega) (by omega)
  simp only [stepsQ, nbQ, addQ, List.map_cons, List.map_nil, Int.add_zero]
  rw [w x (by omega) (by omega), w y (by omega) (by omega), w z (by omega) (by omega)]
  simp [Int.sub_eq_add_neg]
def flatQ (c : Cube) : S49 := ⟨c.f0, c.f1⟩
def layerQ (l : List Cube) (z : Int) : List S49 := (l.filter fun c => decide (c.f2 = z)).map flatQ
def layersQ (l : List Cube) (z : Int) (n : Nat) : List (List S49) := (List.range n).map fun (i : Nat) => layerQ l (z + (i : Int))
def headQ (l : List Cube) : Int := (rd_T47 l 0).f2
def lastQ (l : List Cube) : Int := (rd_T47 l ((l.length : Int) - 1)).f2
def layersR (l : List Cube) : List (List S49) × Int := if solidB l = true then (layersQ l (headQ l) (lastQ l - headQ l + 1).toNat, 0) else ([], 1)
theorem head_last {l : List Cube} (h : solidB l = true) : (∀ c ∈ l, headQ l ≤ c.f2 ∧ c.f2 ≤ lastQ l) ∧ ok1 (headQ l) ∧ ok1 (lastQ l) ∧ headQ l ≤ lastQ l := by
  obtain ⟨h1, h2, h3, h4⟩ := solidB_iff.1 h
  have hd (i : Nat) (hi : i < l.length) : rd_T47 l (i : Int) = l[i] := by
    have e : l = l.take i ++ l[i] :: l.drop (i + 1) := by rw [List.getElem_cons_drop, List.take_append_drop]
    have e2 := at_preQ e
    rw [List.length_take, Nat.min_eq_left (by omega)] at e2
    exact e2
  have e0 : headQ l = l[0].f2 := by unfold headQ; rw [← hd 0 (by omega)]; rfl
  have e1 : lastQ l = (l[l.length - 1]'(by omega)).f2 := by
    unfold lastQ
    rw [← hd (l.length - 1) (by omega)]
    congr 2; omega
  have hp := List.pairwise_iff_getElem.1 h2
  have hle : ∀ i j (hi : i < l.length) (hj : j < l.length), i ≤ j → l[i].f2 ≤ l[j].f2 := fun i j hi hj hij => by
    rcases Nat.lt_or_eq_of_le hij with g | g
    · have := hp i j hi hj g
      unfold ltQ at this; omega
    · subst g; omega
  have o0 := h1 _ (List.getElem_mem (l := l) (n := 0) (by omega))
  have o1 := h1 _ (List.getElem_mem (l := l) (n := l.length - 1) (by omega))
  refine ⟨fun c hc => ?_, by rw [e0]; exact o0.2.2, by rw [e1]; exact o1.2.2, by rw [e0, e1]; exact hle _ _ _ _ (by omega)⟩
  obtain ⟨j, hj, rfl⟩ := List.getElem_of_mem hc
  rw [e0, e1]
  exact ⟨hle 0 j _ hj (by omega), hle j (l.length - 1) hj _ (by omega)⟩
theorem layerQ_len (l : List Cube) (z : Int) : (layerQ l z).length ≤ l.length := by
  unfold layerQ
  rw [List.length_map]
  exact List.length_filter_le _ _
theorem specLayer_l1 (l : List Cube) (hl : l.length ≤ 1048576) (acc : List (List S49)) (hacc : acc.length ≤ 1048576) (z : Int) {r : List (List S49) × Int} (hc : Ev (fun k => spec_LayersOf.l0 k l (acc ++ [layerQ l z]) (wrap64 (z + 1))) r) :
    Ev (fun k => spec_LayersOf.l1 k l acc z [] 0) r := by
  have hs : small l := by unfold small; omega
  refine loop_list l (fun k i (s : List S49) => spec_LayersOf.l1 k l acc z s i) (fun _ _ _ => r) (fun pre s => s = layerQ pre z) ?_ ?_ [] rfl
  · rintro s rfl
    simp only [spec_LayersOf.l1, len_lt, if_false]
    exact Ev.pos (by omega) hc
  · rintro pre c suf s hx rfl ih
    have hp := pre_len hx
    have hle := layerQ_len pre z
    simp only [spec_LayersOf.l1, pre_lt hx, pre_0, if_true, at_preQ hx, pre_w hx hs]
    by_cases e : c.f2 = z
    · exact Ev.pos e (Ev.pos (by omega) (ih _ (by simp [layerQ, e, flatQ])))
    · exact Ev.neg e (ih _ (by simp [layerQ, e]))
theorem specLayers_ev (l : List Cube) (hs : small l) : Ev (fun k => spec_LayersOf.f k l) (layersR l) := by
  unfold spec_LayersOf.f layersR
  refine Ev.bind (specSolid_ev l hs) (Ev.if_ (fun h => ?_) (fun _ => Ev.now _))
  obtain ⟨h1, h2, h3, h4⟩ := solidB_iff.1 h
  obtain ⟨g1, g2, g3, g4⟩ := head_last h
  unfold ok1 at g2 g3
  have el : wrap64 ((l.length : Int) - 1) = (l.length : Int) - 1 := w64 (by omega) (by omega)
  refine Ev.pos (by omega) ?_
  have key : ∀ (q i : Nat), i + q = (lastQ l - headQ l + 1).toNat → Ev (fun k => spec_LayersOf.l0 k l (layersQ l (headQ l) i) (headQ l + (i : Int))) (layersQ l (headQ l) (lastQ l - headQ l + 1).toNat, 0) := by
    intro q
    induction q with
    | zero =>
      intro i hi
      refine Ev.succ ?_
      simp only [spec_LayersOf.l0, el]
      refine Ev.pos (by omega) (Ev.pos (by omega) (Ev.neg (by show ¬ headQ l + (i : Int) ≤ lastQ l; omega) (Ev.of_eq (Ev.now _) (by rw [show i = (lastQ l - headQ l + 1).toNat by omega]))))
    | succ q ih =>
      intro i hi
      refine Ev.succ ?_
      simp only [spec_LayersOf.l0, el]
      refine Ev.pos (by omega) (Ev.pos (by omega) (Ev.pos (by show headQ l + (i : Int) ≤ lastQ l; omega) (specLayer_l1 l (by omega) _ (by simp [layersQ]; omega) _ ?_)))
      have ew : wrap64 (headQ l + (i : Int) + 1) = headQ l + ((i + 1 : Nat) : Int) := by rw [w64 (by omega) (by omega)]; omega
      rw [ew]
      have := ih (i + 1) (by omega)
      have e : layersQ l (headQ l) (i + 1) = layersQ l (headQ l) i ++ [layerQ l (headQ l + (i : Int))] := by simp [layersQ, List.range_succ]
      rw [e] at this
      exact this
  have := key (lastQ l - headQ l + 1).toNat 0 (by omega)
  rw [show headQ l + ((0 : Nat) : Int) = headQ l by omega] at this
  exact this
theorem layersQ_rd (l : List Cube) (z : Int) (n i : Nat) (hi : i < n) : rd_L2 (layersQ l z n) (i : Int) = layerQ l (z + (i : Int)) := by
  unfold rd_L2
  rw [List.getD_eq_getElem?_getD, Int.toNat_natCast, List.getElem?_eq_getElem (by simpa [layersQ] using hi)]
  simp [layersQ]
theorem layersQ_snoc (pre : List Cube) (c : Cube) (z : Int) (n i : Nat) (hi : i < n) (hc : c.f2 = z + (i : Int)) : (layersQ pre z n).set i (layerQ pre (z + (i : Int)) ++ [flatQ c]) = layersQ (pre ++ [c]) z n := by
  apply List.ext_getElem
  · simp [layersQ]
  · intro t h1 h2
    simp only [layersQ, List.length_set, List.length_map, List.length_range] at h1
    rw [List.getElem_set]
    simp only [layersQ, List.getElem_map, List.getElem_range]
    by_cases e : i = t
    · subst e
      simp [layerQ, hc]
    · have : ¬ c.f2 = z + (t : Int) := by omega
      simp [layerQ, e, this]
theorem implLayers_ev (l : List Cube) (hs : small l) : Ev (fun k => impl_LayersOf.f k l) (layersR l) := by
  unfold impl_LayersOf.f layersR
  refine Ev.bind (implSolid_ev l hs) (Ev.if_ (fun h => ?_) (fun _ => Ev.now _))
  obtain ⟨h1, h2, h3, h4⟩ := solidB_iff.1 h
  obtain ⟨g1, g2, g3, g4⟩ := head_last h
  unfold ok1 at g2 g3
  have el : wrap64 ((l.length : Int) - 1) = (l.length : Int) - 1 := w64 (by omega) (by omega)
  have e1 : (rd_T47 l ((l.length : Int) - 1)).f2 = lastQ l := rfl
  have e2 : (rd_T47 l 0).f2 = headQ l := rfl
  rw [el, e1, e2, w64 (n := lastQ l - headQ l) (by omega) (by omega), w64 (n := lastQ l - headQ l + 1) (by omega) (by omega)]
  refine Ev.pos (by omega) (Ev.pos (by omega) (Ev.pos (by omega) (Ev.pos (by omega) (Ev.pos (by omega) ?_))))
  have h0 : List.replicate (lastQ l - headQ l + 1).toNat ([] : List S49) = layersQ [] (headQ l) (lastQ l - headQ l + 1).toNat := by
    apply List.ext_getElem
    · simp [layersQ]
    · intro t h1 h2
      simp [layersQ, layerQ]
  rw [h0]
  refine loop_list l (fun k i (s : List (List S49)) => impl_LayersOf.l0 k (headQ l) s l (l.length : Int) i) (fun _ _ _ => (layersQ l (headQ l) (lastQ l - headQ l + 1).toNat, 0)) (fun pre s => s = layersQ pre (headQ l) (lastQ l - headQ l + 1).toNat) ?_ ?_ (layersQ [] (headQ l) (lastQ l - headQ l + 1).toNat) rfl
  · rintro s rfl
    simp only [impl_LayersOf.l0, len_lt, if_false]
    exact Ev.now _
  · rintro pre c suf s hx rfl ih
    have hc : c ∈ l := by rw [hx]; simp
    obtain ⟨b1, b2⟩ := g1 c hc
    have hp := pre_len hx
    obtain ⟨i, hi⟩ : ∃ i : Nat, c.f2 = headQ l + (i : Int) := ⟨(c.f2 - headQ l).toNat, by omega⟩
    have ew : wrap64 (c.f2 - headQ l) = (i : Int) := by rw [w64 (by omega) (by omega)]; omega
    have hlen : (layersQ pre (headQ l) (lastQ l - headQ l + 1).toNat).length = (lastQ l - headQ l + 1).toNat := by simp [layersQ]
    have hle := layerQ_len pre (headQ l + (i : Int))
    simp only [impl_LayersOf.l0, pre_lt hx, pre_0, if_true, at_preQ hx, pre_w hx hs, ew]
    rw [layersQ_rd pre (headQ l) _ i (by omega), Int.toNat_natCast]
    refine Ev.pos (by omega) (Ev.pos (by omega) (Ev.pos (by omega) (ih _ ?_)))
    exact layersQ_snoc pre c (headQ l) _ i (by omega) hi
def cntF (l : List Cube) : List Cube → Int → Int
  | [], n => n
  | d :: r, n => cntF l r (if idxQ l d ≥ 0 then n else wrap64 (n + 1))
def faceF (l : List Cube) : List Cube → Int → Int
  | [], n => n
  | c :: r, n => faceF l r (cntF l (nbQ c) n)
def faceR (l : List Cube) : Int × Int := if solidB l = true then (faceF l l 0, 0) else (0, 1)
theorem specFace_l (l : List Cube) (hs : small l) (c : Cube) (i : Int) (hi0 : 0 ≤ i) (hi1 : i < (l.length : Int)) (hrd : rd_T47 l i = c) {r : Int × Int} : ∀ (suf pre : List Cube) (n : Int), stepsQ = pre ++ suf →
    Ev (fun k => spec_FaceCount.l0 k l (cntF l (suf.map (addQ c)) n) (wrap64 (i + 1))) r → Ev (fun k => spec_FaceCount.l1 k l n i (pre.length : Int)) r
  | [], pre, n, hx, hc => by
    refine Ev.succ ?_
    have hp : pre.length = 6 := by have := congrArg List.length hx; simp [stepsQ] at this; omega
    simp only [spec_FaceCount.l1]
    exact Ev.neg (by omega) hc
  | d :: suf, pre, n, hx, hc => by
    refine Ev.succ ?_
    have hp : pre.length + (suf.length + 1) = 6 := by have := congrArg List.length hx; simp [stepsQ] at this; omega
    have h6 : stepsQ.length = 6 := rfl
    have ew : wrap64 ((pre.length : Int) + 1) = ((pre ++ [d]).length : Int) := by rw [w64 (by omega) (by omega)]; simp
    have hadd : spec_l09Add.f c.f0 c.f1 c.f2 (rd_T47 stepsQ (pre.length : Int)).f0 (rd_T47 stepsQ (pre.length : Int)).f1 (rd_T47 stepsQ (pre.length : Int)).f2 = some ((addQ c d).f0, (addQ c d).f1, (addQ c d).f2) := by
      rw [at_preQ hx]; rfl
    have hi (n' : Int) (hc' : Ev (fun k => spec_FaceCount.l0 k l (cntF l (suf.map (addQ c)) n') (wrap64 (i + 1))) r) := specFace_l l hs c i hi0 hi1 hrd suf (pre ++ [d]) n' (by rw [hx]; simp) hc'
    simp only [spec_FaceCount.l1, hrd, ew]
    refine Ev.pos (by omega) (Ev.pos hi0 (Ev.pos hi1 (Ev.bind0 steps_eq (Ev.pos (by omega) (Ev.pos (by omega) (Ev.bind0 hadd (Ev.bind (specIndexQ_ev l (addQ c d) hs) ?_)))))))
    rw [List.map_cons, cntF] at hc
    by_cases hm : idxQ l (addQ c d) ≥ 0
    · rw [if_pos hm] at hc
      exact Ev.neg (by omega) (hi _ hc)
    · rw [if_neg hm] at hc
      exact Ev.pos (by omega) (hi _ hc)
theorem specFace_ev (l : List Cube) (hs : small l) : Ev (fun k => spec_FaceCount.f k l) (faceR l) := by
  unfold spec_FaceCount.f faceR
  refine Ev.bind (specSolid_ev l hs) (Ev.if_ (fun h => ?_) (fun _ => Ev.now _))
  have hok := (solidB_iff.1 h).1
  refine loop_list l (fun k i (n : Int) => spec_FaceCount.l0 k l n i) (fun _ suf n => (faceF l suf n, 0)) (fun _ _ => True) ?_ ?_ 0 trivial
  · intro n _
    simp only [spec_FaceCount.l0, len_lt, if_false]
    exact Ev.now _
  · intro pre c suf n hx _ ih
    have hp := pre_len hx
    simp only [spec_FaceCount.l0, pre_lt hx, if_true]
    refine specFace_l l hs c (pre.length : Int) (by omega) (by omega) (at_preQ hx) stepsQ [] n rfl ?_
    rw [pre_w hx hs, steps_nb (hok c (by rw [hx]; simp))]
    exact ih _ trivial
theorem implFace_l (l : List Cube) (hs : small l) (xs : List Cube) (nb : List Cube) (hn : nb.length = 6) (len i : Int) {r : Int × Int} : ∀ (suf pre : List Cube) (n : Int), nb = pre ++ suf →
    Ev (fun k => impl_FaceCount.l0 k l (cntF l suf n) xs len (wrap64 (i + 1))) r → Ev (fun k => impl_FaceCount.l1 k l n xs len i nb (nb.length : Int) (pre.length : Int)) r
  | [], pre, n, hx, hc => by
    refine Ev.succ ?_
    rw [List.append_nil] at hx
    subst hx
    simp only [impl_FaceCount.l1]
    exact Ev.neg (by omega) hc
  | d :: suf, pre, n, hx, hc => by
    refine Ev.succ ?_
    have hsm : small nb := by unfold small; omega
    have hi (n' : Int) (hc' : Ev (fun k => impl_FaceCount.l0 k l (cntF l suf n') xs len (wrap64 (i + 1))) r) := implFace_l l hs xs nb hn len i suf (pre ++ [d]) n' (by rw [hx]; simp) hc'
    simp only [List.length_append, List.length_singleton, Int.natCast_add] at hi
    simp only [impl_FaceCount.l1, pre_lt hx, pre_0, if_true, at_preQ hx, pre_w hx hsm]
    refine Ev.bind (implContainsQ_ev l d hs) ?_
    rw [cntF] at hc
    by_cases hm : idxQ l d ≥ 0
    · rw [if_pos hm] at hc
      exact Ev.pos (by simpa using hm) (hi _ hc)
    · rw [if_neg hm] at hc
      exact Ev.neg (by simpa using hm) (hi _ hc)
theorem implFace_ev (l : List Cube) (hs : small l) : Ev (fun k => impl_FaceCount.f k l) (faceR l) := by
  unfold impl_FaceCount.f faceR
  refine Ev.bind (implSolid_ev l hs) (Ev.if_ (fun h => ?_) (fun _ => Ev.now _))
  refine loop_list l (fun k i (n : Int) => impl_FaceCount.l0 k l n l (l.length : Int) i) (fun _ suf n => (faceF l suf n, 0)) (fun _ _ => True) ?_ ?_ 0 trivial
  · intro n _
    simp only [impl_FaceCount.l0, len_lt, if_false]
    exact Ev.now _
  · intro pre c suf n hx _ ih
    simp only [impl_FaceCount.l0, pre_lt hx, pre_0, if_true, at_preQ hx]
    refine Ev.bind0 (implAroundQ_eq c) ?_
    refine implFace_l l hs l (nbQ c) rfl _ _ (nbQ c) [] n rfl ?_
    rw [pre_w hx hs]
    exact ih _ trivial
theorem idxFQ_in (c : Cube) : ∀ (l : List Cube) (i : Int), 0 ≤ i → (idxFQ l c i ≥ 0 ↔ c ∈ l)
  | [], i, hi => by simp [idxFQ]
  | a :: r, i, hi => by
    unfold idxFQ
    by_cases h : sameQ a c = true
    · rw [if_pos h]
      have := sameQ_iff.1 h
      simp [this, hi]
    · rw [if_neg h, idxFQ_in c r (i + 1) (by omega)]
      have : ¬ c = a := fun e => h (sameQ_iff.2 e.symm)
      simp [this]
theorem nodup_sub {α : Type} : ∀ (o l : List α), o.Nodup → (∀ d ∈ o, d ∈ l) → o.length ≤ l.length
  | [], l, _, _ => Nat.zero_le _
  | a :: o, l, hn, hs => by
    obtain ⟨h1, h2⟩ := List.nodup_cons.1 hn
    obtain ⟨s, t, rfl⟩ := List.append_of_mem (hs a List.mem_cons_self)
    have := nodup_sub o (s ++ t) h2 fun c hc => by
      have h3 := hs c (List.mem_cons_of_mem _ hc)
      have h4 : c ≠ a := fun e => h1 (e ▸ hc)
      simp only [List.mem_append, List.mem_cons] at h3 ⊢
      rcases h3 with h3 | h3 | h3
      · exact .inl h3
      · exact absurd h3 h4
      · exact .inr h3
    simp only [List.length_append, List.length_cons] at this ⊢
    omega
theorem count_le {α : Type} (p : α → Bool) (l : List α) (hp : ∀ c, p c = true ↔ c ∈ l) (hn : l.Nodup) (f g : α → α) (hg : ∀ c ∈ l, g (f c) = c) : l.countP (fun c => p (f c)) ≤ l.countP (fun c => p (g c)) := by
  rw [List.countP_eq_length_filter, List.countP_eq_length_filter, ← List.length_map (f := f)]
  refine nodup_sub _ _ ?_ fun d hd => ?_
  · show List.Pairwise _ _
    rw [List.pairwise_map]
    refine (hn.filter (p := fun c => p (f c))).imp_of_mem fun {a b} ha hb hab e => hab ?_
    rw [← hg a (List.mem_filter.1 ha).1, ← hg b (List.mem_filter.1 hb).1, e]
  · obtain ⟨c, hc, rfl⟩ := List.mem_map.1 hd
    obtain ⟨h1, h2⟩ := List.mem_filter.1 hc
    refine List.mem_filter.2 ⟨(hp _).1 h2, ?_⟩
    rw [hg c h1]
    exact (hp c).2 h1
theorem count_pair {α : Type} (p : α → Bool) (l : List α) (hp : ∀ c, p c = true ↔ c ∈ l) (hn : l.Nodup) (f g : α → α) (hg : ∀ c ∈ l, g (f c) = c) (hf : ∀ c ∈ l, f (g c) = c) : l.countP (fun c => p (f c)) = l.countP (fun c => p (g c)) :=
  Nat.le_antisymm (count_le p l hp hn f g hg) (count_le p l hp hn g f hf)
def inQ (l : List Cube) (c : Cube) : Bool := decide (idxQ l c ≥ 0)
theorem cntF_val (l : List Cube) : ∀ (ds : List Cube) (n : Int), 0 ≤ n → n + (ds.length : Int) ≤ 1000000 → cntF l ds n = n + ((ds.length : Int) - ((ds.countP (inQ l) : Nat) : Int))
  | [], n, h0, h1 => by simp [cntF]
  | d :: r, n, h0, h1 => by
    rw [List.length_cons] at h1 ⊢
    rw [cntF, List.countP_cons]
    by_cases h : idxQ l d ≥ 0
    · have e : inQ l d = true := decide_eq_true h
      rw [if_pos h, cntF_val l r n h0 (by omega), if_pos e]; omega
    · have e : ¬ inQ l d = true := by unfold inQ; simpa using h
      rw [if_neg h, w64 (by omega) (by omega), cntF_val l r (n + 1) (by omega) (by omega), if_neg e]; omega
def zm (c : Cube) : Cube := ⟨c.f0, c.f1, wrap64 (c.f2 - 1)⟩
def ym (c : Cube) : Cube := ⟨c.f0, wrap64 (c.f1 - 1), c.f2⟩
def xm (c : Cube) : Cube := ⟨wrap64 (c.f0 - 1), c.f1, c.f2⟩
def xp (c : Cube) : Cube := ⟨wrap64 (c.f0 + 1), c.f1, c.f2⟩
def yp (c : Cube) : Cube := ⟨c.f0, wrap64 (c.f1 + 1), c.f2⟩
def zp (c : Cube) : Cube := ⟨c.f0, c.f1, wrap64 (c.f2 + 1)⟩
def cq (l : List Cube) (f : Cube → Cube) (r : List Cube) : Nat := r.countP fun c => inQ l (f c)
theorem cq_cons (l : List Cube) (f : Cube → Cube) (c : Cube) (r : List Cube) : cq l f (c :: r) = cq l f r + if inQ l (f c) = true then 1 else 0 := by
  unfold cq
  rw [List.countP_cons]
theorem faceF_val (l : List Cube) : ∀ (r : List Cube) (n : Int), 0 ≤ n → n + 6 * (r.length : Int) ≤ 900000 →
    faceF l r n = n + (6 * (r.length : Int) - ((cq l zm r + cq l ym r + cq l xm r + cq l xp r + cq l yp r + cq l zp r : Nat) : Int)) ∧ cq l zm r + cq l ym r + cq l xm r + cq l xp r + cq l yp r + cq l zp r ≤ 6 * r.length
  | [], n, h0, h1 => by simp [faceF, cq]
  | c :: r, n, h0, h1 => by
    rw [List.length_cons] at h1 ⊢
    have hc := cntF_val l (nbQ c) n h0 (by rw [nbQ_len]; omega)
    rw [nbQ_len] at hc
    have hn : (nbQ c).countP (inQ l) = (if inQ l (zm c) = true then 1 else 0) + (if inQ l (ym c) = true then 1 else 0) + (if inQ l (xm c) = true then 1 else 0) + (if inQ l (xp c) = true then 1 else 0) + (if inQ l (yp c) = true then 1 else 0) + (if inQ l (zp c) = true then 1 else 0) := by
      show ([zm c, ym c, xm c, xp c, yp c, zp c] : List Cube).countP (inQ l) = _
      simp only [List.countP_cons, List.countP_nil]
      omega
    rw [hn] at hc
    rw [faceF, hc]
    simp only [cq_cons]
    generalize (if inQ l (zm c) = true then 1 else 0) = a1 at *
    generalize (if inQ l (ym c) = true then 1 else 0) = a2 at *
    generalize (if inQ l (xm c) = true then 1 else 0) = a3 at *
    generalize (if inQ l (xp c) = true then 1 else 0) = a4 at *
    generalize (if inQ l (yp c) = true then 1 else 0) = a5 at *
    generalize (if inQ l (zp c) = true then 1 else 0) = a6 at *
    have hle : a1 + a2 + a3 + a4 + a5 + a6 ≤ 6 := by
      rw [← hn]
      exact Nat.le_trans List.countP_le_length (by rw [nbQ_len]; omega)
    obtain ⟨g1, g2⟩ := faceF_val l r (n + (6 - ((a1 + a2 + a3 + a4 + a5 + a6 : Nat) : Int))) (by omega) (by omega)
    have e6 : ((6 : Nat) : Int) = 6 := rfl
    rw [e6, g1]
    omega
theorem face_even {l : List Cube} (h : solidB l = true) : ∃ m : Int, faceF l l 0 = 2 * m := by
  obtain ⟨h1, h2, h3, h4⟩ := solidB_iff.1 h
  have hn : l.Nodup := h2.imp fun {a b} hab e => by
    subst e
    unfold ltQ at hab
    omega
  have hp : ∀ c, inQ l c = true ↔ c ∈ l := fun c => by
    unfold inQ
    rw [decide_eq_true_eq]
    exact idxFQ_in c l 0 (Int.le_refl _)
  have pr (f g : Cube → Cube) (hg : ∀ c, okQ c → g (f c) = c) (hf : ∀ c, okQ c → f (g c) = c) : cq l f l = cq l g l :=
    count_pair (inQ l) l hp hn f g (fun c hc => hg c (h1 c hc)) (fun c hc => hf c (h1 c hc))
  have w (n : Int) (h0 : -1000 ≤ n) (h1 : n ≤ 1000) : wrap64 n = n := w64 (by omega) (by omega)
  have ez : cq l zm l = cq l zp l := pr zm zp (fun c hc => by
    unfold okQ ok1 at hc
    obtain ⟨x, y, z⟩ := c
    simp only [zm, zp, S47.mk.injEq, true_and] at hc ⊢
    rw [w (z - 1) (by omega) (by omega), w (z - 1 + 1) (by omega) (by omega)]; omega) (fun c hc => by
    unfold okQ ok1 at hc
    obtain ⟨x, y, z⟩ := c
    simp only [zm, zp, S47.mk.injEq, true_and] at hc ⊢
    rw [w (z + 1) (by omega) (by omega), w (z + 1 - 1) (by omega) (by omega)]; omega)
  have ey : cq l ym l = cq l yp l := pr ym yp (fun c hc => by
    unfold okQ ok1 at hc
    obtain ⟨x, y, z⟩ := c
    simp only [ym, yp, S47.mk.injEq, true_and, and_true] at hc ⊢
    rw [w (y - 1) (by omega) (by omega), w (y - 1 + 1) (by omega) (by omega)]; omega) (fun c hc => by
    unfold okQ ok1 at hc
    obtain ⟨x, y, z⟩ := c
    simp only [ym, yp, S47.mk.injEq, true_and, and_true] at hc ⊢
    rw [w (y + 1) (by omega) (by omega), w (y + 1 - 1) (by omega) (by omega)]; omega)
  have ex : cq l xm l = cq l xp l := pr xm xp (fun c hc => by
    unfold okQ ok1 at hc
    obtain ⟨x, y, z⟩ := c
    simp only [xm, xp, S47.mk.injEq, and_true] at hc ⊢
    rw [w (x - 1) (by omega) (by omega), w (x - 1 + 1) (by omega) (by omega)]; omega) (fun c hc => by
    unfold okQ ok1 at hc
    obtain ⟨x, y, z⟩ := c
    simp only [xm, xp, S47.mk.injEq, and_true] at hc ⊢
    rw [w (x + 1) (by omega) (by omega), w (x + 1 - 1) (by omega) (by omega)]; omega)
  obtain ⟨g1, g2⟩ := faceF_val l l 0 (Int.le_refl _) (by omega)
  exact ⟨3 * (l.length : Int) - ((cq l zp l + cq l yp l + cq l xp l : Nat) : Int), by rw [g1, ez, ey, ex]; omega⟩
structure Src (cs : List Int) (a s : Int) : Prop where
  at0 : 0 ≤ a
  at1 : a ≤ (cs.length : Int)
  sd0 : 0 ≤ s
  sd1 : s < 2147483647
  len : cs.length ≤ 1000000000000000000
  byte : ∀ x ∈ cs, 0 ≤ x ∧ x ≤ 255
theorem rd_byte {cs : List Int} {a s : Int} (h : Src cs a s) (i : Int) (h0 : 0 ≤ i) (h1 : i < (cs.length : Int)) : 0 ≤ rd cs i ∧ rd cs i ≤ 255 := by
  unfold rd
  obtain ⟨n, rfl⟩ : ∃ n : Nat, i = (n : Int) := ⟨i.toNat, by omega⟩
  have hn : n < cs.length := by omega
  have e : cs.getD (n : Int).toNat 0 = cs[n] := by simp [List.getD, hn]
  rw [e]
  exact h.byte _ (List.getElem_mem hn)
theorem next_ex {cs : List Int} {a s : Int} (h : Src cs a s) (n : Int) (hn : n ≤ 1000000000000) : ∃ v a' s', spec_l01Next.f cs a s n = some (v, a', s') ∧ Src cs a' s' ∧ 0 ≤ v ∧ (1 ≤ n → v < n) := by
  have ⟨h0, h1, h2, h3, h4, h5⟩ := h
  unfold spec_l01Next.f
  by_cases hn1 : n ≤ 1
  · rw [if_pos hn1]
    exact ⟨_, _, _, rfl, h, by omega, by omega⟩
  · rw [if_neg hn1]
    have ew : wrap64 ((wrap64 (s * 48271)) + 29) = s * 48271 + 29 := by rw [w64 (n := s * 48271) (by omega) (by omega), w64 (by omega) (by omega)]
    have em : Int.tmod (s * 48271 + 29) 2147483647 = (s * 48271 + 29) % 2147483647 := Int.tmod_eq_emod_of_nonneg (by omega)
    have hs0 : 0 ≤ (s * 48271 + 29) % 2147483647 := Int.emod_nonneg _ (by omega)
    have hs1 : (s * 48271 + 29) % 2147483647 < 2147483647 := Int.emod_lt_of_pos _ (by omega)
    rw [ew, em]
    generalize (s * 48271 + 29) % 2147483647 = s' at hs0 hs1 ⊢
    have et : Int.tdiv s' 31 = s' / 31 := Int.tdiv_eq_ediv_of_nonneg hs0
    rw [et, w64 (n := s' / 31) (by omega) (by omega)]
    have tm (x : Int) (hx : 0 ≤ x) : 0 ≤ Int.tmod x n ∧ Int.tmod x n < n := by
      rw [Int.tmod_eq_emod_of_nonneg hx]
      exact ⟨Int.emod_nonneg _ (by omega), Int.emod_lt_of_pos _ (by omega)⟩
    by_cases ha : a < (cs.length : Int)
    · have ea : wrap64 (a + 1) = a + 1 := w64 (by omega) (by omega)
      have hr := rd_byte h a h0 ha
      have e1 : wrap64 (rd cs a) = rd cs a := w64 (by omega) (by omega)
      have e2 : wrap64 (a + 1 - 1) = a := by rw [w64 (by omega) (by omega)]; omega
      have e3 : wrap64 (s' / 31 + rd cs a) = s' / 31 + rd cs a := w64 (by omega) (by omega)
      have hS : Src cs (a + 1) s' := ⟨by omega, by omega, hs0, hs1, h4, h5⟩
      rw [if_pos ha, if_pos h0, ea, e1, e2, e1, e3, if_pos h0, if_pos ha, if_neg (by omega : ¬ n = 0)]
      repeat' split
      all_goals first
        | exact ⟨_, _, _, rfl, hS, (tm _ (by omega)).1, fun _ => (tm _ (by omega)).2⟩
        | omega
    · have hS : Src cs a s' := ⟨by omega, by omega, hs0, hs1, h4, h5⟩
      rw [if_neg ha, if_neg (by omega : ¬ n = 0)]
      have := tm (s' / 31) (by omega)
      exact ⟨_, _, _, rfl, hS, this.1, fun _ => this.2⟩
def Ex {α : Type} (g : Nat → Option α) (P : α → Prop) : Prop := ∃ r, Ev g r ∧ P r
theorem Ex.now {α : Type} {P : α → Prop} {r : α} (h : P r) : Ex (fun _ => some r) P := ⟨r, Ev.now _, h⟩
theorem Ex.mono {α : Type} {g : Nat → Option α} {P Q : α → Prop} (h : Ex g P) (hi : ∀ r, P r → Q r) : Ex g Q := by
  obtain ⟨r, h1, h2⟩ := h
  exact ⟨r, h1, hi r h2⟩
theorem Ex.bind {α β : Type} {g : Nat → Option α} {f : Nat → α → Option β} {P : α → Prop} {Q : β → Prop} (h : Ex g P) (k : ∀ a, P a → Ex (fun n => f n a) Q) : Ex (fun n => (g n).bind (f n)) Q := by
  obtain ⟨a, h1, h2⟩ := h
  obtain ⟨b, h3, h4⟩ := k a h2
  exact ⟨b, Ev.bind h1 h3, h4⟩
theorem Ex.bindE {α β : Type} {g : Nat → Option α} {f : Nat → α → Option β} {a : α} {Q : β → Prop} (h : Ev g a) (k : Ex (fun n => f n a) Q) : Ex (fun n => (g n).bind (f n)) Q := by
  obtain ⟨b, h3, h4⟩ := k
  exact ⟨b, Ev.bind h h3, h4⟩
theorem Ex.bind0 {α β : Type} {o : Option α} {f : Nat → α → Option β} {a : α} {Q : β → Prop} (h : o = some a) (k : Ex (fun n => f n a) Q) : Ex (fun n => o.bind (f n)) Q := by
  subst h
  exact k
theorem Ex.pos {α : Type} {c : Prop} [Decidable c] {f g : Nat → Option α} {P : α → Prop} (h : c) (e : Ex f P) : Ex (fun k => if c then f k else g k) P := by
  obtain ⟨r, h1, h2⟩ := e
  exact ⟨r, Ev.pos h h1, h2⟩
theorem Ex.neg {α : Type} {c : Prop} [Decidable c] {f g : Nat → Option α} {P : α → Prop} (h : ¬ c) (e : Ex g P) : Ex (fun k => if c then f k else g k) P := by
  obtain ⟨r, h1, h2⟩ := e
  exact ⟨r, Ev.neg h h1, h2⟩
theorem Ex.if_ {α : Type} {c : Prop} [Decidable c] {f g : Nat → Option α} {P : α → Prop} (h : c → Ex f P) (h' : ¬ c → Ex g P) : Ex (fun k => if c then f k else g k) P := by
  by_cases hc : c
  · exact Ex.pos hc (h hc)
  · exact Ex.neg hc (h' hc)
theorem Ex.succ {α : Type} {g : Nat → Option α} {P : α → Prop} (h : Ex (fun k => g (k + 1)) P) : Ex g P := by
  obtain ⟨r, h1, h2⟩ := h
  exact ⟨r, Ev.succ h1, h2⟩
theorem Ex.next {β : Type} {cs : List Int} {a s : Int} (h : Src cs a s) (n : Int) (hn : n ≤ 1000000000000) {f : Nat → Int × Int × Int → Option β} {Q : β → Prop}
    (k : ∀ v a' s', Src cs a' s' → 0 ≤ v → (1 ≤ n → v < n) → Ex (fun q => f q (v, a', s')) Q) : Ex (fun q => (spec_l01Next.f cs a s n).bind (f q)) Q := by
  obtain ⟨v, a', s', e, h1, h2, h3⟩ := next_ex h n hn
  exact Ex.bind0 e (k v a' s' h1 h2 h3)
theorem from_l (cs : List Int) (hl : cs.length ≤ 1000000000000000000) (hb : ∀ x ∈ cs, 0 ≤ x ∧ x ≤ 255) : ∀ (q i : Nat) (s : Int), i + q = min cs.length 64 → 0 ≤ s → s < 2147483647 →
    Ex (fun k => spec_l01From.l0 k cs (i : Int) cs 0 s) fun r => r.1 = cs ∧ r.2.1 = 0 ∧ Src cs 0 r.2.2
  | 0, i, s, hi, h0, h1 => by
    refine Ex.succ ?_
    simp only [spec_l01From.l0]
    have hS : Src cs 0 s := ⟨by omega, by omega, h0, h1, hl, hb⟩
    refine Ex.if_ (fun _ => Ex.neg (by omega) (Ex.now ⟨rfl, rfl, hS⟩)) (fun _ => Ex.now ⟨rfl, rfl, hS⟩)
  | q + 1, i, s, hi, h0, h1 => by
    refine Ex.succ ?_
    simp only [spec_l01From.l0]
    have hS : Src cs 0 s := ⟨by omega, by omega, h0, h1, hl, hb⟩
    have hr := rd_byte hS (i : Int) (by omega) (by omega)
    have ei : wrap64 ((i : Int) + 1) = ((i + 1 : Nat) : Int) := by rw [w64 (by omega) (by omega)]; omega
    have es : Int.tmod (wrap64 ((wrap64 (s * 47)) + (wrap64 (rd cs (i : Int))))) 2147483647 = (s * 47 + rd cs (i : Int)) % 2147483647 := by
      rw [w64 (n := s * 47) (by omega) (by omega), w64 (n := rd cs (i : Int)) (by omega) (by omega), w64 (by omega) (by omega), Int.tmod_eq_emod_of_nonneg (by omega)]
    rw [ei, es]
    exact Ex.pos (by omega) (Ex.pos (by omega) (Ex.pos (by omega) (from_l cs hl hb q (i + 1) _ (by omega) (Int.emod_nonneg _ (by omega)) (Int.emod_lt_of_pos _ (by omega)))))
theorem from_ex (cs : List Int) (hl : cs.length ≤ 1000000000000000000) (hb : ∀ x ∈ cs, 0 ≤ x ∧ x ≤ 255) : Ex (fun k => spec_l01From.f k cs) fun r => r.1 = cs ∧ r.2.1 = 0 ∧ Src cs 0 r.2.2 := by
  unfold spec_l01From.f
  exact from_l cs hl hb (min cs.length 64) 0 61003 (by omega) (by omega) (by omega)
def insQ (c : Cube) : List Cube → List Cube
  | [] => [c]
  | a :: r => if ltQ a c then a :: insQ c r else c :: a :: r
theorem insQ_perm (c : Cube) : ∀ l : List Cube, (insQ c l).Perm (c :: l)
  | [] => List.Perm.refl _
  | a :: r => by
    unfold insQ
    split
    · exact ((insQ_perm c r).cons a).trans (List.Perm.swap c a r)
    · exact List.Perm.refl _
theorem specIns_l (l : List Cube) (i : Int) (c : Cube) (hi0 : 0 ≤ i) (hi1 : i < (l.length : Int)) (hc : rd_T47 l i = c) {r : List Cube} (xs : List Cube) (hl : xs.length ≤ 1048576) : ∀ (suf pre : List Cube), xs = pre ++ suf →
    Ev (fun k => spec_l09Sort.l0 k l (pre ++ insQ c suf) (wrap64 (i + 1))) r → Ev (fun k => spec_l09Sort.l1 k l xs i (pre.length : Int)) r := by
  have hs : small xs := by unfold small; omega
  have done : ∀ (suf pre : List Cube), xs = pre ++ suf → Ev (fun k => spec_l09Sort.l0 k l (pre ++ c :: suf) (wrap64 (i + 1))) r →
      Ev (fun k => if (pre.length : Int) ≤ (xs.length : Int) then (if ([] : List Cube).length + (xs.take ((pre.length : Int)).toNat).length < 5864062014805 then (if (([] : List Cube) ++ xs.take ((pre.length : Int)).toNat).length + ([(⟨(rd_T47 l i).f0, (rd_T47 l i).f1, (rd_T47 l i).f2⟩ : S47)] : List Cube).length < 5864062014805 then (if ((([] : List Cube) ++ xs.take ((pre.length : Int)).toNat) ++ ([(⟨(rd_T47 l i).f0, (rd_T47 l i).f1, (rd_T47 l i).f2⟩ : S47)] : List Cube)).length + (xs.drop ((pre.length : Int)).toNat).length < 5864062014805 then spec_l09Sort.l0 k l ((([] : List Cube) ++ xs.take ((pre.length : Int)).toNat) ++ ([(⟨(rd_T47 l i).f0, (rd_T47 l i).f1, (rd_T47 l i).f2⟩ : S47)] : List Cube) ++ xs.drop ((pre.length : Int)).toNat) (wrap64 (i + 1)) else none) else none) else none) else none) r := by
    intro suf pre hx h
    have e1 : xs.take pre.length = pre := by rw [hx]; simp
    have e2 : xs.drop pre.length = suf := by rw [hx]; simp
    have hn : xs.length = pre.length + suf.length := by rw [hx]; simp
    rw [hc]
    simp only [Int.toNat_natCast, e1, e2, List.nil_append, List.append_assoc, List.singleton_append, List.length_append, List.length_nil, List.length_singleton]
    exact Ev.pos (by omega) (Ev.pos (by omega) (Ev.pos (by omega) (Ev.pos (by omega) h)))
  intro suf
  induction suf with
  | nil =>
    intro pre hx h
    have hd := done [] pre hx h
    refine Ev.succ ?_
    simp only [spec_l09Sort.l1, Option.bind_some]
    have hlt : ¬ ((pre.length : Int) < (xs.length : Int)) := by rw [hx]; simp
    have h1 : pre.length ≤ xs.length := by rw [hx]; simp
    refine Ev.neg hlt (Ev.pos (by omega) ?_)
    have hi0' : (0 ≤ i) = True := eq_true hi0
    have hi1' : (i < (l.length : Int)) = True := eq_true hi1
    simp only [hi0', hi1', if_true]
    exact hd
  | cons a suf ih =>
    intro pre hx h
    refine Ev.succ ?_
    have hi0' : (0 ≤ i) = True := eq_true hi0
    have hi1' : (i < (l.length : Int)) = True := eq_true hi1
    simp only [spec_l09Sort.l1, Option.bind_some, pre_lt hx, pre_0, if_true, at_preQ hx, hi0', hi1', pre_w hx hs]
    have hless : spec_l09Less.f a.f0 a.f1 a.f2 (rd_T47 l i).f0 (rd_T47 l i).f1 (rd_T47 l i).f2 = some (decide (ltQ a c)) := by rw [hc]; exact less9_eq a c
    rw [hless]
    simp only [Option.bind_some]
    unfold insQ at h
    by_cases hac : ltQ a c
    · rw [if_pos hac] at h
      refine Ev.pos (by simpa using hac) ?_
      have := ih (pre ++ [a]) (by rw [hx]; simp) (by rw [List.append_assoc]; exact h)
      rw [List.length_append] at this
      exact this
    · rw [if_neg hac] at h
      refine Ev.neg (by simpa using hac) ?_
      exact done (a :: suf) pre hx h
def insAllQ : List Cube → List Cube → List Cube
  | acc, [] => acc
  | acc, c :: r => insAllQ (insQ c acc) r
theorem insAllQ_perm : ∀ (l acc : List Cube), (insAllQ acc l).Perm (acc ++ l)
  | [], acc => by simp [insAllQ]
  | c :: r, acc => by
    refine (insAllQ_perm r (insQ c acc)).trans ?_
    refine ((insQ_perm c acc).append_right r).trans ?_
    exact List.perm_middle.symm
theorem specSort0_ev (l : List Cube) (hl : l.length ≤ 1048576) : Ev (fun k => spec_l09Sort.f k l) (insAllQ [] l) := by
  have hs : small l := by unfold small; omega
  unfold spec_l09Sort.f
  refine loop_list l (fun k i (s : List Cube) => spec_l09Sort.l0 k l s i) (fun pre suf s => insAllQ s suf) (fun pre s => s.length = pre.length) ?_ ?_ [] rfl
  · intro s _
    simp only [spec_l09Sort.l0, len_lt, if_false]
    exact Ev.now _
  · intro pre c suf s hx hi ih
    have hp := pre_len hx
    simp only [spec_l09Sort.l0, pre_lt hx, if_true]
    refine specIns_l l (pre.length : Int) c (by omega) (by omega) (at_preQ hx) s (by omega) s [] rfl ?_
    rw [List.nil_append, pre_w hx hs]
    exact ih _ (by rw [(insQ_perm c s).length_eq]; simp [hi])
theorem d09_l1 (cs : List Int) : ∀ (q i : Nat) (l : List Cube) (a s : Int), i + q = 26 → l.length = i → Src cs a s → Ex (fun k => spec_l09Draw.l1 k l (i : Int) cs a s) fun r => r.1.length ≤ 100 ∧ Src cs r.2.1 r.2.2
  | q, i, l, a, s, hi, hl, hS => by
    refine Ex.succ ?_
    simp only [spec_l09Draw.l1]
    refine Ex.next hS 2 (by omega) fun v a' s' hS' hv0 hv1 => ?_
    have hv := hv1 (by omega)
    have ew : wrap64 (24 + v) = 24 + v := w64 (by omega) (by omega)
    have ei : wrap64 ((i : Int) + 1) = ((i + 1 : Nat) : Int) := by rw [w64 (by omega) (by omega)]; omega
    simp only [ew, ei]
    match q, hi with
    | 0, hi => exact Ex.neg (by omega) (Ex.now ⟨by simp only; omega, hS'⟩)
    | q + 1, hi =>
      exact Ex.if_ (fun _ => Ex.pos (by omega) (d09_l1 cs q (i + 1) _ a' s' (by omega) (by simp [hl]) hS')) (fun _ => Ex.now ⟨by simp only; omega, hS'⟩)
theorem add9_eq (a b : Cube) : spec_l09Add.f a.f0 a.f1 a.f2 b.f0 b.f1 b.f2 = some ((addQ a b).f0, (addQ a b).f1, (addQ a b).f2) := rfl
theorem d09_l0 (cs : List Int) : ∀ (q n : Nat) (l : List Cube) (a s : Int), q + n ≤ 40 → l.length ≤ n → 1 ≤ l.length → Src cs a s →
    Ex (fun k => spec_l09Draw.l0 k l (q : Int) cs a s) fun r => r.1.length ≤ 100 ∧ Src cs r.2.1 r.2.2
  | q + 1, n, l, a, s, hq, hl, h1, hS => by
    refine Ex.succ ?_
    simp only [spec_l09Draw.l0]
    have ew : wrap64 (((q + 1 : Nat) : Int) - 1) = (q : Int) := by rw [w64 (by omega) (by omega)]; omega
    refine Ex.pos (by omega) (Ex.next hS (l.length : Int) (by omega) fun v a1 s1 hS1 hv0 hv1 => ?_)
    have := hv1 (by omega)
    refine Ex.pos hv0 (Ex.pos (by simp only; omega) (Ex.bind0 steps_eq (Ex.next hS1 6 (by omega) fun u a2 s2 hS2 hu0 hu1 => ?_)))
    have := hu1 (by omega)
    have h6 : stepsQ.length = 6 := rfl
    refine Ex.pos hu0 (Ex.pos (by simp only; omega) (Ex.bind0 (add9_eq _ _) (Ex.bindE (specIndexQ_ev l (addQ _ _) (by unfold small; omega)) ?_)))
    simp only [ew]
    refine Ex.if_ (fun _ => ?_) (fun _ => d09_l0 cs q n l a2 s2 (by omega) hl h1 hS2)
    refine Ex.pos (by omega) (Ex.bindE (specSort0_ev _ (by simp; omega)) ?_)
    have hp := (insAllQ_perm (l ++ [addQ (rd_T47 l v) (rd_T47 stepsQ u)]) []).length_eq
    simp only [List.nil_append, List.length_append, List.length_singleton] at hp
    exact d09_l0 cs q (n + 1) _ a2 s2 (by omega) (by rw [hp]; omega) (by rw [hp]; omega) hS2
  | 0, n, l, a, s, hq, hl, h1, hS => by
    refine Ex.succ ?_
    simp only [spec_l09Draw.l0]
    refine Ex.neg (by simp) (Ex.next hS (l.length : Int) (by omega) fun v a1 s1 hS1 hv0 hv1 => Ex.next hS1 24 (by omega) fun u a2 s2 hS2 hu0 hu1 => ?_)
    have hv := hv1 (by omega)
    have el : wrap64 ((l.length : Int) - 1) = (l.length : Int) - 1 := w64 (by omega) (by omega)
    refine Ex.if_ (fun _ => ?_) (fun _ => Ex.if_ (fun _ => ?_) (fun _ => Ex.if_ (fun _ => ?_) (fun _ => Ex.if_ (fun _ => ?_) (fun _ => Ex.if_ (fun _ => ?_) (fun _ => Ex.if_ (fun _ => ?_) (fun _ => ?_))))))
    · refine Ex.bind0 rfl (Ex.next hS2 3 (by omega) fun t a3 s3 hS3 ht0 ht1 => ?_)
      have := ht1 (by omega)
      refine Ex.pos ht0 (Ex.pos (by simp only [List.length_cons, List.length_nil]; omega) (Ex.pos hv0 (Ex.pos (by simp only; omega) (Ex.bindE (specSort0_ev _ (by simp; omega)) (Ex.now ⟨?_, hS3⟩)))))
      have hp := (insAllQ_perm (l.set v.toNat ⟨(rd_T47 l v).f0, (rd_T47 l v).f1, rd [(-100), 100, 101] t⟩) []).length_eq
      simp only [List.nil_append, List.length_set] at hp
      show (insAllQ [] _).length ≤ 100
      rw [hp]; omega
    · exact Ex.pos hv0 (Ex.pos (by simp only; omega) (Ex.pos (by omega) (Ex.now ⟨by simp; omega, hS2⟩)))
    · exact Ex.now ⟨by simp, hS2⟩
    · rw [el]
      exact Ex.pos (by omega) (Ex.pos (by omega) (Ex.pos (by omega) (Ex.now ⟨by simp; omega, hS2⟩)))
    · exact d09_l1 cs 26 0 [] a2 s2 (by omega) rfl hS2
    · exact Ex.next hS2 2 (by omega) fun t a3 s3 hS3 ht0 ht1 => Ex.now ⟨by simp, hS3⟩
    · exact Ex.now ⟨by simp only; omega, hS2⟩
theorem draw09_ex {cs : List Int} {a s : Int} (h : Src cs a s) : Ex (fun k => spec_l09Draw.f k cs a s) fun r => r.1.length ≤ 100 ∧ Src cs r.2.1 r.2.2 := by
  unfold spec_l09Draw.f
  refine Ex.next h 5 (by omega) fun v1 a1 s1 h1 _ _ => Ex.next h1 5 (by omega) fun v2 a2 s2 h2 _ _ => Ex.next h2 5 (by omega) fun v3 a3 s3 h3 _ _ => Ex.next h3 7 (by omega) fun v4 a4 s4 h4 g0 g1 => ?_
  have := g1 (by omega)
  obtain ⟨q, rfl⟩ : ∃ q : Nat, v4 = (q : Int) := ⟨v4.toNat, by omega⟩
  exact d09_l0 cs q 1 _ a4 s4 (by omega) (by simp) (by simp) h4
def goodFrom : Option Cell → List Cell → Bool
  | _, [] => true
  | p, c :: r => decide (okC c) && (match p with | none => true | some q => decide (ltC q c)) && goodFrom (some c) r
def shapeB (l : List Cell) : Bool := goodFrom none l && decide (1 ≤ (l.length : Int) ∧ (l.length : Int) ≤ 40)
def minX : Int → List Cell → Int := fun z l => l.foldl (fun m c => mn m c.f0) z
def minY : Int → List Cell → Int := fun z l => l.foldl (fun m c => mn m c.f1) z
def maxX : Int → List Cell → Int := fun z l => l.foldl (fun m c => mx m c.f0) z
def maxY : Int → List Cell → Int := fun z l => l.foldl (fun m c => mx m c.f1) z
def leastOf (l : List Cell) : Int × Int := match l with | [] => (0, 0) | c :: r => (minX c.f0 r, minY c.f1 r)
def reachOf (l : List Cell) : Int × Int := match l with | [] => (0, 0) | c :: r => (maxX c.f0 r, maxY c.f1 r)
def regionB (l : List Cell) : Bool := shapeB l && (decide ((leastOf l).1 = 0) && (decide ((leastOf l).2 = 0) && (decide ((reachOf l).1 < 20) && decide ((reachOf l).2 < 20))))
def risesF (n : Int) : Option Int → List Int → Bool
  | _, [] => true
  | p, c :: r => decide (0 ≤ c ∧ c ≤ n - 1) && (match p with | none => true | some q => decide (q < c)) && risesF n (some c) r
def codeOf (l : List Cell) (s : List Int) : Int := if regionB l = true then (if risesF (l.length : Int) none s = true then 0 else 2) else 1
def cellsAt (l : List Cell) (s : List Int) : List Cell := s.map fun i => rd_T49 l i
def setCells (l : List Cell) (s : List Int) : List Cell × Int := if codeOf l s = 0 then (cellsAt l s, 0) else ([], codeOf l s)
theorem likeC_ev (a : List Cell) (hs : small a) : Ev (fun k => laws_likeCells.f k a a) true := by
  unfold laws_likeCells.f
  refine Ev.pos rfl ?_
  refine loop_list a (fun k i (_ : Unit) => laws_likeCells.l0 k a a i) (fun _ _ _ => true) (fun _ _ => True) ?_ ?_ () trivial
  · intro _ _
    simp only [laws_likeCells.l0, len_lt, if_false]
    exact Ev.now _
  · intro pre d suf _ hx _ ih
    simp only [laws_likeCells.l0, pre_lt hx, pre_0, if_true, at_pre hx, pre_w hx hs]
    exact Ev.neg (by simp) (ih () trivial)
end Go.Proofs.Ytdcpahfpnjnmcaa.L
end
section
namespace Go.Proofs.Ytdcpahfpnjnmcaa.L
open Go.RowKit Go.Proofs.YtdcpahfpnjnmcaaW.PrintWords Go.Proofs.YtdcpahfpnjnmcaaW.PrintLast Go.Proofs.YtdcpahfpnjnmcaaW.PrintMore Go.Proofs.Ytdcpahfpnjnmcaa.F
set_option linter.unusedVariables false
set_option linter.unusedSimpArgs false
theorem likeSS_ev (a : List (List S49)) (hs : small a) (h : ∀ x ∈ a, small x) : Ev (fun k => laws_likeShapes.f k a a) true := by
  unfold laws_likeShapes.f
  refine Ev.pos rfl ?_
  refine loop_list a (fun k i (_ : Unit) => laws_likeShapes.l0 k a a i) (fun _ _ _ => true) (fun _ _ => True) ?_ ?_ () trivial
  · intro _ _
    simp only [laws_likeShapes.l0, len_lt, if_false]
    exact Ev.now _
  · intro pre c suf _ hx _ ih
    have hr : rd_L2 a (pre.length : Int) = c := by rw [hx]; exact getD_at pre suf c _
    simp only [laws_likeShapes.l0, pre_lt hx, pre_0, if_true, hr, pre_w hx hs]
    exact Ev.bind (likeC_ev c (h c (by rw [hx]; simp))) (Ev.pos rfl (ih () trivial))
theorem split_lt (t : Int) : ∀ (l : List Cube), (l.Pairwise fun a b => a.f2 ≤ b.f2) → l = l.filter (fun c => decide (c.f2 < t)) ++ l.filter (fun c => !decide (c.f2 < t))
  | [], _ => rfl
  | a :: r, h => by
    obtain ⟨h1, h2⟩ := List.pairwise_cons.1 h
    have ih := split_lt t r h2
    by_cases ha : a.f2 < t
    · simp only [List.filter_cons, decide_eq_true ha, if_true, Bool.not_true, Bool.false_eq_true, if_false, List.cons_append]
      rw [← ih]
    · have e1 : r.filter (fun c => decide (c.f2 < t)) = [] := List.filter_eq_nil_iff.2 fun c hc => by
        have := h1 c hc
        simp; omega
      have e2 : r.filter (fun c => !decide (c.f2 < t)) = r := List.filter_eq_self.2 fun c hc => by
        have := h1 c hc
        simp; omega
      simp only [List.filter_cons, decide_eq_false ha, Bool.not_false, if_true, Bool.false_eq_true, if_false]
      rw [e1, e2]; rfl
def lowQ (l : List Cube) (t : Int) : List Cube := l.filter fun c => decide (c.f2 < t)
def midQ (l : List Cube) (t : Int) : List Cube := l.filter fun c => decide (c.f2 = t)
theorem low_next {l : List Cube} (h : l.Pairwise fun a b => a.f2 ≤ b.f2) (t : Int) : lowQ l (t + 1) = lowQ l t ++ midQ l t := by
  have h2 : (lowQ l (t + 1)).Pairwise fun a b => a.f2 ≤ b.f2 := h.sublist List.filter_sublist
  have := split_lt t (lowQ l (t + 1)) h2
  rw [this]
  congr 1
  · unfold lowQ
    rw [List.filter_filter]
    refine List.filter_congr fun c _ => ?_
    rw [Bool.eq_iff_iff]
    simp only [Bool.and_eq_true, decide_eq_true_eq]
    omega
  · unfold lowQ midQ
    rw [List.filter_filter]
    refine List.filter_congr fun c _ => ?_
    rw [Bool.eq_iff_iff]
    simp only [Bool.and_eq_true, Bool.not_eq_true', decide_eq_true_eq, decide_eq_false_iff_not]
    omega
theorem low_pre {l : List Cube} (h : l.Pairwise fun a b => a.f2 ≤ b.f2) (t : Int) : ∃ u, l = lowQ l t ++ u := ⟨_, split_lt t l h⟩
theorem l1_nil (k : Nat) (l : List Cube) (L : List (List S49)) (m x12 x13 x14 : Int) (M : List S49) (h0 : 0 ≤ x13) (h1 : x13 < (L.length : Int)) (hM : rd_L2 L x13 = M) (h : ¬ x14 < (M.length : Int)) :
    laws_FnLayers.l1 (k + 1) l L m x12 x13 x14 = laws_FnLayers.l0 k l L m x12 (wrap64 (x13 + 1)) := by
  simp only [laws_FnLayers.l1]
  rw [if_pos h0, if_pos h1, hM, if_neg h]
theorem l1_cons (k : Nat) (l : List Cube) (L : List (List S49)) (m x12 x13 x14 : Int) (M : List S49) (c : Cube) (d : S49) (h0 : 0 ≤ x13) (h1 : x13 < (L.length : Int)) (hM : rd_L2 L x13 = M) (h : x14 < (M.length : Int))
    (h2 : 0 ≤ x12) (h3 : x12 < (l.length : Int)) (h4 : 0 ≤ x14) (hc : rd_T47 l x12 = c) (hd : rd_T49 M x14 = d) (e0 : d.f0 = c.f0) (e1 : d.f1 = c.f1) (e2 : c.f2 = wrap64 ((rd_T47 l 0).f2 + x13)) :
    laws_FnLayers.l1 (k + 1) l L m x12 x13 x14 = laws_FnLayers.l1 k l L m (wrap64 (x12 + 1)) x13 (wrap64 (x14 + 1)) := by
  have h5 : 0 < (l.length : Int) := by omega
  have h6 : ¬ x12 ≥ (l.length : Int) := by omega
  conv => lhs; unfold laws_FnLayers.l1
  rw [if_pos h0, if_pos h1, hM, if_pos h, if_neg h6, if_pos h2, if_pos h3, if_pos h4, if_pos h5, hc, hd, if_neg]
  simp [e0, e1, e2]
theorem lawLayers_l1 (l : List Cube) (hl : l.length ≤ 1000) (h0 : l ≠ []) (hs : l.Pairwise fun a b => a.f2 ≤ b.f2) (hz0 : ok1 (headQ l)) (m : Int) (n z : Nat) (hz : z < n) (hn : n ≤ 1000) {r : Bool}
    (hc : Ev (fun k => laws_FnLayers.l0 k l (layersQ l (headQ l) n) m ((lowQ l (headQ l + (z : Int) + 1)).length : Int) (wrap64 ((z : Int) + 1))) r) : ∀ (suf pre : List Cube), midQ l (headQ l + (z : Int)) = pre ++ suf →
    ∀ x12 : Int, x12 = (lowQ l (headQ l + (z : Int))).length + pre.length →
    Ev (fun k => laws_FnLayers.l1 k l (layersQ l (headQ l) n) m x12 (z : Int) (pre.length : Int)) r
  | [], pre, hx, x12, h12 => by
    refine Ev.succ ?_
    have hL : (layersQ l (headQ l) n).length = n := by simp [layersQ]
    have hm : (layerQ l (headQ l + (z : Int))).length = pre.length := by unfold layerQ; rw [List.length_map]; unfold midQ at hx; rw [hx]; simp
    have hnx := congrArg List.length (low_next hs (headQ l + (z : Int)))
    rw [hx] at hnx
    simp only [List.length_append, List.length_nil] at hnx
    have e := fun k => l1_nil k l (layersQ l (headQ l) n) m x12 (z : Int) (pre.length : Int) _ (by omega) (by omega) (layersQ_rd l (headQ l) n z hz) (by omega)
    have e12 : x12 = ((lowQ l (headQ l + (z : Int) + 1)).length : Int) := by omega
    rw [e12] at e ⊢
    rw [show (fun k => laws_FnLayers.l1 (k + 1) l (layersQ l (headQ l) n) m ((lowQ l (headQ l + (z : Int) + 1)).length : Int) (z : Int) (pre.length : Int)) = _ from funext e]
    exact hc
  | c :: suf, pre, hx, x12, h12 => by
    refine Ev.succ ?_
    have hL : (layersQ l (headQ l) n).length = n := by simp [layersQ]
    have hlay : layerQ l (headQ l + (z : Int)) = pre.map flatQ ++ flatQ c :: suf.map flatQ := by unfold layerQ; unfold midQ at hx; rw [hx]; simp
    have hlen : (layerQ l (headQ l + (z : Int))).length = pre.length + (suf.length + 1) := by rw [hlay]; simp
    have hcm : c ∈ midQ l (headQ l + (z : Int)) := by rw [hx]; simp
    have hcz : c.f2 = headQ l + (z : Int) := by simpa using (List.mem_filter.1 hcm).2
    obtain ⟨u, hu⟩ := low_pre hs (headQ l + (z : Int) + 1)
    rw [low_next hs, hx] at hu
    have hu2 : l = (lowQ l (headQ l + (z : Int)) ++ pre) ++ c :: (suf ++ u) := by
      refine hu.trans ?_
      simp
    have hrd := at_preQ hu2
    rw [List.length_append, show (((lowQ l (headQ l + (z : Int))).length + pre.length : Nat) : Int) = x12 by omega] at hrd
    have hll := congrArg List.length hu2
    simp only [List.length_append, List.length_cons] at hll
    have hrc : rd_T49 (layerQ l (headQ l + (z : Int))) (pre.length : Int) = flatQ c := by
      have := at_pre hlay
      rw [List.length_map] at this
      exact this
    unfold ok1 at hz0
    have ew : wrap64 (headQ l + (z : Int)) = headQ l + (z : Int) := w64 (by omega) (by omega)
    have ea : wrap64 (x12 + 1) = x12 + 1 := w64 (by omega) (by omega)
    have eb : wrap64 ((pre.length : Int) + 1) = ((pre ++ [c]).length : Int) := by rw [w64 (by omega) (by omega)]; simp
    have ih := lawLayers_l1 l hl h0 hs hz0 m n z hz hn hc suf (pre ++ [c]) (by rw [hx]; simp) (x12 + 1) (by simp; omega)
    have e := fun k => l1_cons k l (layersQ l (headQ l) n) m x12 (z : Int) (pre.length : Int) _ c (flatQ c) (by omega) (by omega) (layersQ_rd l (headQ l) n z hz) (by omega) (by omega) (by omega) (by omega) hrd hrc rfl rfl (hcz.trans ew.symm)
    rw [ea, eb] at e
    rw [show (fun k => laws_FnLayers.l1 (k + 1) l (layersQ l (headQ l) n) m x12 (z : Int) (pre.length : Int)) = _ from funext e]
    exact ih
theorem lawLayers_l0 (l : List Cube) (h : solidB l = true) (m : Int) (n : Nat) (hn : n = (lastQ l - headQ l + 1).toNat) : ∀ (q z : Nat), z + q = n → Ev (fun k => laws_FnLayers.l0 k l (layersQ l (headQ l) n) (2 * m) ((lowQ l (headQ l + (z : Int))).length : Int) (z : Int)) true := by
  obtain ⟨h1, h2, h3, h4⟩ := solidB_iff.1 h
  obtain ⟨g1, g2, g3, g4⟩ := head_last h
  have hs : l.Pairwise fun a b => a.f2 ≤ b.f2 := h2.imp fun {a b} hab => by unfold ltQ at hab; omega
  have hL : (layersQ l (headQ l) n).length = n := by simp [layersQ]
  have g2' := g2
  unfold ok1 at g2' g3
  intro q
  induction q with
  | zero =>
    intro z hz
    refine Ev.succ ?_
    simp only [laws_FnLayers.l0]
    have e : lowQ l (headQ l + (z : Int)) = l := List.filter_eq_self.2 fun c hc => by
      have := g1 c hc
      simp; omega
    rw [e]
    refine Ev.neg (by omega) (Ev.pos rfl (Ev.of_eq (Ev.now _) ?_))
    have : Int.tmod (2 * m) 2 = 0 := Int.mul_tmod_right 2 m
    rw [this]; rfl
  | succ q ih =>
    intro z hz
    refine Ev.succ ?_
    simp only [laws_FnLayers.l0]
    refine Ev.pos (by omega) ?_
    have := lawLayers_l1 l (by omega) (by intro e; rw [e] at h3; simp at h3) hs g2 (2 * m) n z (by omega) (by omega) (r := true) ?_ (midQ l (headQ l + (z : Int))) [] rfl ((lowQ l (headQ l + (z : Int))).length : Int) (by simp)
    · simpa using this
    · have hi := ih (z + 1) (by omega)
      rw [w64 (n := (z : Int) + 1) (by omega) (by omega)]
      rw [show headQ l + ((z + 1 : Nat) : Int) = headQ l + (z : Int) + 1 by omega, show ((z + 1 : Nat) : Int) = (z : Int) + 1 by omega] at hi
      exact hi
end Go.Proofs.Ytdcpahfpnjnmcaa.L
namespace Go.Proofs.Ytdcpahfpnjnmcaa.Pure
open Go.RowKit Go.Proofs.YtdcpahfpnjnmcaaW.PrintWords Go.Proofs.Ytdcpahfpnjnmcaa.F Go.Proofs.Ytdcpahfpnjnmcaa.L
set_option linter.unusedVariables false
theorem FnLayers (l0 : List Int) (hv0 : l0.length ≤ 9223372036854775807 ∧ ∀ x ∈ l0, (Lit.int .u8 x).wf = true) : ∃ k, laws_FnLayers.f k l0 = some true := by
  refine Ev.rounds ?_
  obtain ⟨hm, hv⟩ := hv0
  have hb : ∀ x ∈ l0, 0 ≤ x ∧ x ≤ 255 := fun x hx => by
    have := hv x hx
    have m0 : IntKind.u8.min = 0 := by decide
    have m1 : IntKind.u8.max = 255 := by decide
    simp [Lit.wf, m0, m1] at this
    omega
  unfold laws_FnLayers.f
  refine Ev.bind0 rfl ?_
  by_cases hbig : (l0.length : Int) > 4096
  · exact Ev.pos (by simpa using hbig) (Ev.now _)
  refine Ev.neg (by simpa using hbig) ?_
  have hD : Ex (fun k => spec_DrawLayersOf.f k l0) fun r => r.length ≤ 100 := by
    unfold spec_DrawLayersOf.f
    refine Ex.bind (from_ex l0 (by omega) hb) fun ⟨c1, a1, s1⟩ ⟨e1, e2, h1⟩ => ?_
    simp only at e1 e2 h1
    subst e1 e2
    exact Ex.bind (draw09_ex h1) fun r hr => Ex.now hr.1
  obtain ⟨l, e1, q1⟩ := hD
  have hs : small l := by unfold small; omega
  have hRs : ∀ x ∈ (layersR l).1, small x := fun x hx => by
    unfold layersR at hx
    split at hx
    · obtain ⟨i, _, rfl⟩ := List.mem_map.1 hx
      have := layerQ_len l (headQ l + (i : Int))
      unfold small; omega
    · simp at hx
  have hRl : small (layersR l).1 := by
    unfold layersR
    split
    · rename_i h
      obtain ⟨g1, g2, g3, g4⟩ := head_last h
      unfold ok1 at g2 g3
      show (layersQ l _ _).length ≤ _
      simp [layersQ]; omega
    · unfold small; simp
  refine Ev.bind e1 (Ev.bind (implLayers_ev l hs) (Ev.bind (specLayers_ev l hs) (Ev.bind (implFace_ev l hs) (Ev.bind (specFace_ev l hs) ?_))))
  refine Ev.pos rfl (Ev.bind (likeSS_ev _ hRl hRs) (Ev.pos rfl (Ev.pos rfl ?_)))
  refine Ev.step (fun k => laws_FnLayers.j0.eq_2 _ _ _ _ _ _) (Ev.neg (by simp) ?_)
  unfold layersR faceR
  by_cases h : solidB l = true
  · rw [if_pos h, if_pos h]
    refine Ev.pos rfl ?_
    obtain ⟨m, hmm⟩ := face_even h
    obtain ⟨g1, g2, g3, g4⟩ := head_last h
    have := lawLayers_l0 l h m _ rfl (lastQ l - headQ l + 1).toNat 0 (by omega)
    have e : lowQ l (headQ l + ((0 : Nat) : Int)) = [] := List.filter_eq_nil_iff.2 fun c hc => by
      have := g1 c hc
      simp; omega
    rw [e] at this
    show Ev (fun k => laws_FnLayers.l0 k l (layersQ l (headQ l) (lastQ l - headQ l + 1).toNat) (faceF l l 0) 0 0) true
    rw [hmm]
    exact this
  · rw [if_neg h, if_neg h]
    exact Ev.neg (by simp) (Ev.now _)
end Go.Proofs.Ytdcpahfpnjnmcaa.Pure
end
