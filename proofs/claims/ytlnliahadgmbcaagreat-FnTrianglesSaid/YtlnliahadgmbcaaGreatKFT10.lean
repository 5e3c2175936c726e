/- The row of FnTriangles, with what it needs: text 11 of 13. -/
import Derived.Test.YtlnliahadgmbcaaGreatKFT9
import Derived.ChangeArms
import Derived.ChangeSame
import Derived.Deep.Fields
import Derived.Deep.Slices
import Derived.Deep.Strs
import Derived.WideShapes
set_option maxHeartbeats 8000000
set_option maxRecDepth 100000
section
namespace Go.Proofs.YtlnliahadgmbcaaGreat.F
open Go.RowKit Go.Proofs.YtlnliahadgmbcaaGreatW.PrintWords Go.Proofs.YtlnliahadgmbcaaGreatW.PrintLast Go.Proofs.YtlnliahadgmbcaaGreatW.PrintMore
attribute [local go_sem] max2_int min2_int max_two min_two max_three min_three max_four min_four
set_option linter.unusedVariables false
set_option linter.unusedSimpArgs false
attribute [local go_sem high] eqA25
theorem laws_FnTriangles.calls (k : Nat) (A0 : Option Addr) (c0 : Nat) (l0 : List Int) (r : Bool) (w : World) (hr0 : Kd.C (Kd.int .u8) w A0 l0.length l0) (hc0 : l0.length ≤ c0) (h : laws_FnTriangles.f k l0 = some r) :
  Calls Tryz.prog 3 #[.slice A0 l0.length c0] w fun e w' => e = .returned (.bool r) ∧ Below w.heap.size w w' := by
 have hu25 := Tryz.underlying25
 have HR0 := aM hr0
 have HC0 := aM hc0
 clear hr0 hc0
 have HB := aM (Below.refl w.heap.size w)
 have H : ((laws_big.f l0).bind fun t564 => (if t564 = true then (some true) else ((spec_DrawTrianglesAround.f k l0).bind fun bt565 => ((impl_TrianglesAround.f bt565.1 bt565.2).bind fun bt568 => ((spec_TrianglesAround.f bt565.1 bt565.2).bind fun bt572 => ((spec_DrawCountTriangles.f k l0).bind fun t576 => ((impl_CountTriangles.f k t576).bind fun bt577 => ((spec_CountTriangles.f k t576).bind fun bt580 => (if bt568.2 = bt572.2 then ((laws_likeCells.f k bt568.1 bt572.1).bind fun t583 => (if t583 = true then (if bt577.2.2 = bt580.2.2 then (if bt577.1 = bt580.1 then (if bt577.2.1 = bt580.2.1 then ((impl_IsTriangle.f bt565.1 bt565.2).bind fun t584 => (laws_FnTriangles.j0 k bt568.1 bt568.2 (t584 != (bt572.2 == 0)) bt565.1 bt565.2)) else (laws_FnTriangles.j0 k bt568.1 bt568.2 true bt565.1 bt565.2)) else (laws_FnTriangles.j0 k bt568.1 bt568.2 true bt565.1 bt565.2)) else (laws_FnTriangles.j0 k bt568.1 bt568.2 true bt565.1 bt565.2)) else (laws_FnTriangles.j0 k bt568.1 bt568.2 true bt565.1 bt565.2))) else (laws_FnTriangles.j0 k bt568.1 bt568.2 true bt565.1 bt565.2)))))))))) = some r := h
 clear h
 replace H := Option.bind_eq_some_iff.mp H
 obtain ⟨t564, A20, H⟩ := H
 replace H : (if t564 = true then (some true) else ((spec_DrawTrianglesAround.f k l0).bind fun bt565 => ((impl_TrianglesAround.f bt565.1 bt565.2).bind fun bt568 => ((spec_TrianglesAround.f bt565.1 bt565.2).bind fun bt572 => ((spec_DrawCountTriangles.f k l0).bind fun t576 => ((impl_CountTriangles.f k t576).bind fun bt577 => ((spec_CountTriangles.f k t576).bind fun bt580 => (if bt568.2 = bt572.2 then ((laws_likeCells.f k bt568.1 bt572.1).bind fun t583 => (if t583 = true then (if bt577.2.2 = bt580.2.2 then (if bt577.1 = bt580.1 then (if bt577.2.1 = bt580.2.1 then ((impl_IsTriangle.f bt565.1 bt565.2).bind fun t584 => (laws_FnTriangles.j0 k bt568.1 bt568.2 (t584 != (bt572.2 == 0)) bt565.1 bt565.2)) else (laws_FnTriangles.j0 k bt568.1 bt568.2 true bt565.1 bt565.2)) else (laws_FnTriangles.j0 k bt568.1 bt568.2 true bt565.1 bt565.2)) else (laws_FnTriangles.j0 k bt568.1 bt568.2 true bt565.1 bt565.2)) else (laws_FnTriangles.j0 k bt568.1 bt568.2 true bt565.1 bt565.2))) else (laws_FnTriangles.j0 k bt568.1 bt568.2 true bt565.1 bt565.2))))))))) = some r := H
 have A2 := aM A20
 clear A20
 by_cases c3 : t564 = true
 ·subst c3
  have H1 : (some true) = some r := by rw [if_pos rfl] at H; exact H
  clear H
  have H := H1
  clear H1
  obtain rfl := Option.some.inj H
  go_enter Tryz.func3, Tryz.ntmps3
  go_wp2_with (first | (go_at_call 4; (with_reducible refine (laws_big.calls _ _ l0 true _ ?side1 ?side2 A2.out).mono ?_); (case side1 => repeat (first | exact HR0.out | (with_reducible refine Kd.C_alloc ?_ _) | (with_reducible refine Kd.C_drewN ?_ _) | (with_reducible refine Kd.C_drew ?_))); (case side2 => exact HC0.out); rintro e w' ⟨rfl, ⟨nd, rfl⟩⟩; (try first | exact ⟨rfl, _, World.drewN_drewN _ _ _⟩ | exact ⟨rfl, _, Eq.trans (World.drewN_drewN _ _ _) (congrArg (World.drewN _) (Nat.add_assoc _ _ _))⟩)))
  repeat (go_quiet (first | (go_at_call 4; (try simp only [i64_w]); (with_reducible refine (laws_big.calls _ _ l0 true _ ?side1 ?side2 A2.out).mono ?_); (case side1 => repeat (first | exact HR0.out | (with_reducible refine Kd.C_alloc ?_ _) | (with_reducible refine Kd.C_drewN ?_ _) | (with_reducible refine Kd.C_drew ?_))); (case side2 => exact HC0.out); rintro e w' ⟨rfl, ⟨nd, rfl⟩⟩; (try first | exact ⟨rfl, _, World.drewN_drewN _ _ _⟩ | exact ⟨rfl, _, Eq.trans (World.drewN_drewN _ _ _) (congrArg (World.drewN _) (Nat.add_assoc _ _ _))⟩))); try go_wp2_with (first | (go_at_call 4; (try simp only [i64_w]); (with_reducible refine (laws_big.calls _ _ l0 true _ ?side1 ?side2 A2.out).mono ?_); (case side1 => repeat (first | exact HR0.out | (with_reducible refine Kd.C_alloc ?_ _) | (with_reducible refine Kd.C_drewN ?_ _) | (with_reducible refine Kd.C_drew ?_))); (case side2 => exact HC0.out); rintro e w' ⟨rfl, ⟨nd, rfl⟩⟩; (try first | exact ⟨rfl, _, World.drewN_drewN _ _ _⟩ | exact ⟨rfl, _, Eq.trans (World.drewN_drewN _ _ _) (congrArg (World.drewN _) (Nat.add_assoc _ _ _))⟩))))
  go_ret
  exact ⟨zw, zb⟩
 replace c3 := Bool.eq_false_iff.mpr c3
 subst c3
 have H1 : ((spec_DrawTrianglesAround.f k l0).bind fun bt565 => ((impl_TrianglesAround.f bt565.1 bt565.2).bind fun bt568 => ((spec_TrianglesAround.f bt565.1 bt565.2).bind fun bt572 => ((spec_DrawCountTriangles.f k l0).bind fun t576 => ((impl_CountTriangles.f k t576).bind fun bt577 => ((spec_CountTriangles.f k t576).bind fun bt580 => (if bt568.2 = bt572.2 then ((laws_likeCells.f k bt568.1 bt572.1).bind fun t583 => (if t583 = true then (if bt577.2.2 = bt580.2.2 then (if bt577.1 = bt580.1 then (if bt577.2.1 = bt580.2.1 then ((impl_IsTriangle.f bt565.1 bt565.2).bind fun t584 => (laws_FnTriangles.j0 k bt568.1 bt568.2 (t584 != (bt572.2 == 0)) bt565.1 bt565.2)) else (laws_FnTriangles.j0 k bt568.1 bt568.2 true bt565.1 bt565.2)) else (laws_FnTriangles.j0 k bt568.1 bt568.2 true bt565.1 bt565.2)) else (laws_FnTriangles.j0 k bt568.1 bt568.2 true bt565.1 bt565.2)) else (laws_FnTriangles.j0 k bt568.1 bt568.2 true bt565.1 bt565.2))) else (laws_FnTriangles.j0 k bt568.1 bt568.2 true bt565.1 bt565.2)))))))) = some r := by rw [if_neg (show ¬ (false = true) by decide)] at H; exact H
 clear H
 have H := H1
 clear H1
 replace H := Option.bind_eq_some_iff.mp H
 obtain ⟨⟨t565, t566⟩, A40, H⟩ := H
 replace H : ((impl_TrianglesAround.f t565 t566).bind fun bt568 => ((spec_TrianglesAround.f t565 t566).bind fun bt572 => ((spec_DrawCountTriangles.f k l0).bind fun t576 => ((impl_CountTriangles.f k t576).bind fun bt577 => ((spec_CountTriangles.f k t576).bind fun bt580 => (if bt568.2 = bt572.2 then ((laws_likeCells.f k bt568.1 bt572.1).bind fun t583 => (if t583 = true then (if bt577.2.2 = bt580.2.2 then (if bt577.1 = bt580.1 then (if bt577.2.1 = bt580.2.1 then ((impl_IsTriangle.f t565 t566).bind fun t584 => (laws_FnTriangles.j0 k bt568.1 bt568.2 (t584 != (bt572.2 == 0)) t565 t566)) else (laws_FnTriangles.j0 k bt568.1 bt568.2 true t565 t566)) else (laws_FnTriangles.j0 k bt568.1 bt568.2 true t565 t566)) else (laws_FnTriangles.j0 k bt568.1 bt568.2 true t565 t566)) else (laws_FnTriangles.j0 k bt568.1 bt568.2 true t565 t566))) else (laws_FnTriangles.j0 k bt568.1 bt568.2 true t565 t566))))))) = some r := H
 have A4 := aM A40
 clear A40
 replace H := Option.bind_eq_some_iff.mp H
 obtain ⟨⟨t568, t571⟩, A50, H⟩ := H
 replace H : ((spec_TrianglesAround.f t565 t566).bind fun bt572 => ((spec_DrawCountTriangles.f k l0).bind fun t576 => ((impl_CountTriangles.f k t576).bind fun bt577 => ((spec_CountTriangles.f k t576).bind fun bt580 => (if t571 = bt572.2 then ((laws_likeCells.f k t568 bt572.1).bind fun t583 => (if t583 = true then (if bt577.2.2 = bt580.2.2 then (if bt577.1 = bt580.1 then (if bt577.2.1 = bt580.2.1 then ((impl_IsTriangle.f t565 t566).bind fun t584 => (laws_FnTriangles.j0 k t568 t571 (t584 != (bt572.2 == 0)) t565 t566)) else (laws_FnTriangles.j0 k t568 t571 true t565 t566)) else (laws_FnTriangles.j0 k t568 t571 true t565 t566)) else (laws_FnTriangles.j0 k t568 t571 true t565 t566)) else (laws_FnTriangles.j0 k t568 t571 true t565 t566))) else (laws_FnTriangles.j0 k t568 t571 true t565 t566)))))) = some r := H
 have A5 := aM A50
 clear A50
 replace H := Option.bind_eq_some_iff.mp H
 obtain ⟨⟨t572, t575⟩, A60, H⟩ := H
 replace H : ((spec_DrawCountTriangles.f k l0).bind fun t576 => ((impl_CountTriangles.f k t576).bind fun bt577 => ((spec_CountTriangles.f k t576).bind fun bt580 => (if t571 = t575 then ((laws_likeCells.f k t568 t572).bind fun t583 => (if t583 = true then (if bt577.2.2 = bt580.2.2 then (if bt577.1 = bt580.1 then (if bt577.2.1 = bt580.2.1 then ((impl_IsTriangle.f t565 t566).bind fun t584 => (laws_FnTriangles.j0 k t568 t571 (t584 != (t575 == 0)) t565 t566)) else (laws_FnTriangles.j0 k t568 t571 true t565 t566)) else (laws_FnTriangles.j0 k t568 t571 true t565 t566)) else (laws_FnTriangles.j0 k t568 t571 true t565 t566)) else (laws_FnTriangles.j0 k t568 t571 true t565 t566))) else (laws_FnTriangles.j0 k t568 t571 true t565 t566))))) = some r := H
 have A6 := aM A60
 clear A60
 replace H := Option.bind_eq_some_iff.mp H
 obtain ⟨t576, A70, H⟩ := H
 replace H : ((impl_CountTriangles.f k t576).bind fun bt577 => ((spec_CountTriangles.f k t576).bind fun bt580 => (if t571 = t575 then ((laws_likeCells.f k t568 t572).bind fun t583 => (if t583 = true then (if bt577.2.2 = bt580.2.2 then (if bt577.1 = bt580.1 then (if bt577.2.1 = bt580.2.1 then ((impl_IsTriangle.f t565 t566).bind fun t584 => (laws_FnTriangles.j0 k t568 t571 (t584 != (t575 == 0)) t565 t566)) else (laws_FnTriangles.j0 k t568 t571 true t565 t566)) else (laws_FnTriangles.j0 k t568 t571 true t565 t566)) else (laws_FnTriangles.j0 k t568 t571 true t565 t566)) else (laws_FnTriangles.j0 k t568 t571 true t565 t566))) else (laws_FnTriangles.j0 k t568 t571 true t565 t566)))) = some r := H
 have A7 := aM A70
 clear A70
 replace H := Option.bind_eq_some_iff.mp H
 obtain ⟨⟨t577, t578, t579⟩, A80, H⟩ := H
 replace H : ((spec_CountTriangles.f k t576).bind fun bt580 => (if t571 = t575 then ((laws_likeCells.f k t568 t572).bind fun t583 => (if t583 = true then (if t579 = bt580.2.2 then (if t577 = bt580.1 then (if t578 = bt580.2.1 then ((impl_IsTriangle.f t565 t566).bind fun t584 => (laws_FnTriangles.j0 k t568 t571 (t584 != (t575 == 0)) t565 t566)) else (laws_FnTriangles.j0 k t568 t571 true t565 t566)) else (laws_FnTriangles.j0 k t568 t571 true t565 t566)) else (laws_FnTriangles.j0 k t568 t571 true t565 t566)) else (laws_FnTriangles.j0 k t568 t571 true t565 t566))) else (laws_FnTriangles.j0 k t568 t571 true t565 t566))) = some r := H
 have A8 := aM A80
 clear A80
 replace H := Option.bind_eq_some_iff.mp H
 obtain ⟨⟨t580, t581, t582⟩, A90, H⟩ := H
 replace H : (if t571 = t575 then ((laws_likeCells.f k t568 t572).bind fun t583 => (if t583 = true then (if t579 = t582 then (if t577 = t580 then (if t578 = t581 then ((impl_IsTriangle.f t565 t566).bind fun t584 => (laws_FnTriangles.j0 k t568 t571 (t584 != (t575 == 0)) t565 t566)) else (laws_FnTriangles.j0 k t568 t571 true t565 t566)) else (laws_FnTriangles.j0 k t568 t571 true t565 t566)) else (laws_FnTriangles.j0 k t568 t571 true t565 t566)) else (laws_FnTriangles.j0 k t568 t571 true t565 t566))) else (laws_FnTriangles.j0 k t568 t571 true t565 t566)) = some r := H
 have A9 := aM A90
 clear A90
 have HC10 := aM H
 clear H
 go_enter Tryz.func3, Tryz.ntmps3
 go_upto_region 9 with (first | (go_at_call 4; (with_reducible refine (laws_big.calls _ _ l0 false _ ?side1 ?side2 A2.out).mono ?_); (case side1 => repeat (first | exact HR0.out | (with_reducible refine Kd.C_alloc ?_ _) | (with_reducible refine Kd.C_drewN ?_ _) | (with_reducible refine Kd.C_drew ?_))); (case side2 => exact HC0.out); rintro e w' ⟨rfl, ⟨nd, rfl⟩⟩; (try first | exact ⟨rfl, _, World.drewN_drewN _ _ _⟩ | exact ⟨rfl, _, Eq.trans (World.drewN_drewN _ _ _) (congrArg (World.drewN _) (Nat.add_assoc _ _ _))⟩)) | (go_at_call 5; (with_reducible refine (spec_DrawTrianglesAround.calls k _ _ l0 t565 t566 _ ?side1 ?side2 A4.out).mono ?_); (case side1 => repeat (first | exact HR0.out | (with_reducible refine Kd.C_alloc ?_ _) | (with_reducible refine Kd.C_drewN ?_ _) | (with_reducible refine Kd.C_drew ?_))); (case side2 => exact HC0.out); rintro e w11 ⟨rfl, hb⟩; have n0_ := aM (below_step zb hb); clear HB; have HB := n0_; clear n0_; (try clear hb); (try clear hb2); (try clear hk); (try clear hi)) | ((with_reducible refine gate_dst (N := 3) rfl ?_); refine box_event ?hg (N := 3) ?hd (cs := #[.int .i64 0, .int .i64 0]) (t := 25) ?hr ?_; (case hd => rfl); (case hg => rfl); (case hr => first | (go_simp; done) | (go_simp; rfl)); intro gb567 hg w12 hbox hb; have n0_ := aM (below_step zb hb); have n1_ := aM (hbox); have n2_ := aM ((ze : w.heap.size ≤ gb567)); have n3_ := aM ((ze : w.heap.size ≤ gb567)); clear HB; have HB := n0_; have BK567 := n1_; have GW567 := n2_; have GE567 := n3_; clear n0_ n1_ n2_ n3_; clear hb hbox hg; have hcz13_0 : w12.cell? ⟨gb567, 0, none⟩ = some (.int .i64 0) := (blk_cell BK567.out 0).trans rfl; have hcz13_1 : w12.cell? ⟨gb567, 1, none⟩ = some (.int .i64 0) := (blk_cell BK567.out 1).trans rfl; have hfz13_0 := blk_frozen BK567.out 0; have hfz13_1 := blk_frozen BK567.out 1) | (go_at_call 6; (with_reducible refine (impl_TrianglesAround.calls t565 t566 t568 t571 _ A5.out).mono ?_); rintro e w14 ⟨v569, rfl, ho0, hb⟩; have n0_ := aM (Kd.R_lower (Kd.R_newB ho0 (g := gb567) (o := .cells #[.int .i64 t565, .int .i64 t566] 25 (0, 0)) (by (with_reducible repeat (first | refine blk_drewN ?_ _ | refine blk_drew ?_ | refine blk_alloc ?_ _)); refine blk_put (cs := #[.int .i64 t565, .int .i64 0]) ?_ 1 _ rfl; (with_reducible repeat (first | refine blk_drewN ?_ _ | refine blk_drew ?_ | refine blk_alloc ?_ _)); refine blk_put (cs := #[.int .i64 0, .int .i64 0]) ?_ 0 _ rfl; (with_reducible repeat (first | refine blk_drewN ?_ _ | refine blk_drew ?_ | refine blk_alloc ?_ _)); exact BK567.out)) (below_size (zs GE567.out))); have n1_ := aM (blk_below (g := gb567) (o := .cells #[.int .i64 t565, .int .i64 t566] 25 (0, 0)) (by (with_reducible repeat (first | refine blk_drewN ?_ _ | refine blk_drew ?_ | refine blk_alloc ?_ _)); refine blk_put (cs := #[.int .i64 t565, .int .i64 0]) ?_ 1 _ rfl; (with_reducible repeat (first | refine blk_drewN ?_ _ | refine blk_drew ?_ | refine blk_alloc ?_ _)); refine blk_put (cs := #[.int .i64 0, .int .i64 0]) ?_ 0 _ rfl; (with_reducible repeat (first | refine blk_drewN ?_ _ | refine blk_drew ?_ | refine blk_alloc ?_ _)); exact BK567.out) hb); have n2_ := aM (below_step (zs GE567.out) hb); clear BK567; clear HB; have HO570 := n0_; have BK567 := n1_; have HB := n2_; clear n0_ n1_ n2_; (try clear hb); (try clear hb2); (try clear hk); (try clear hi); (try clear ho0); have hcz15_0 : w14.cell? ⟨gb567, 0, none⟩ = some (.int .i64 t565) := (blk_cell BK567.out 0).trans rfl; have hcz15_1 : w14.cell? ⟨gb567, 1, none⟩ = some (.int .i64 t566) := (blk_cell BK567.out 1).trans rfl; have hfz15_0 := blk_frozen BK567.out 0; have hfz15_1 := blk_frozen BK567.out 1) | (go_at_call 7; (with_reducible refine (spec_TrianglesAround.calls t565 t566 t572 t575 _ A6.out).mono ?_); rintro e w16 ⟨v573, rfl, ho0, hb⟩; have n0_ := aM (Kd.R_elder' (mR_ HO570.out) (Kd.R_base ho0) hb); have n1_ := aM (Kd.R_lower (Kd.R_newB (Kd.R_new' ho0 (Kd.R_lt (mR_ HO570.out))) (g := gb567) (o := .cells #[.int .i64 t565, .int .i64 t566] 25 (0, 0)) (mB_ BK567.out)) (below_size (zs GE567.out))); have n2_ := aM (blk_below (g := gb567) (o := .cells #[.int .i64 t565, .int .i64 t566] 25 (0, 0)) (mB_ BK567.out) hb); have n3_ := aM (below_step (zs GE567.out) hb); clear HO570; clear BK567; clear HB; have HO570 := n0_; have HO574 := n1_; have BK567 := n2_; have HB := n3_; clear n0_ n1_ n2_ n3_; (try clear hb); (try clear hb2); (try clear hk); (try clear hi); (try clear ho0)) | (go_at_call 8; (with_reducible refine (spec_DrawCountTriangles.calls k _ _ l0 t576 _ ?side1 ?side2 A7.out).mono ?_); (case side1 => repeat (first | exact (Kd.C_below HR0.out HB.out) | (with_reducible refine Kd.C_alloc ?_ _) | (with_reducible refine Kd.C_drewN ?_ _) | (with_reducible refine Kd.C_drew ?_))); (case side2 => exact HC0.out); rintro e w17 ⟨rfl, hb⟩; have n0_ := aM (Kd.R_below (mR_ HO570.out) hb); have n1_ := aM (Kd.R_below (mR_ HO574.out) hb); have n2_ := aM (blk_below (g := gb567) (o := .cells #[.int .i64 t565, .int .i64 t566] 25 (0, 0)) (mB_ BK567.out) hb); have n3_ := aM (below_step (zs GE567.out) hb); clear HO570; clear HO574; clear BK567; clear HB; have HO570 := n0_; have HO574 := n1_; have BK567 := n2_; have HB := n3_; clear n0_ n1_ n2_ n3_; (try clear hb); (try clear hb2); (try clear hk); (try clear hi)) | (go_at_call 9; (with_reducible refine (impl_CountTriangles.calls k t576 t577 t578 t579 _ A8.out).mono ?_); rintro e w18 ⟨rfl, hb⟩; have n0_ := aM (Kd.R_below (mR_ HO570.out) hb); have n1_ := aM (Kd.R_below (mR_ HO574.out) hb); have n2_ := aM (blk_below (g := gb567) (o := .cells #[.int .i64 t565, .int .i64 t566] 25 (0, 0)) (mB_ BK567.out) hb); have n3_ := aM (below_step (zs GE567.out) hb); clear HO570; clear HO574; clear BK567; clear HB; have HO570 := n0_; have HO574 := n1_; have BK567 := n2_; have HB := n3_; clear n0_ n1_ n2_ n3_; (try clear hb); (try clear hb2); (try clear hk); (try clear hi)) | (go_at_call 10; (with_reducible refine (spec_CountTriangles.calls k t576 t580 t581 t582 _ A9.out).mono ?_); rintro e w19 ⟨rfl, hb⟩; have n0_ := aM (Kd.R_below (mR_ HO570.out) hb); have n1_ := aM (Kd.R_below (mR_ HO574.out) hb); have n2_ := aM (blk_below (g := gb567) (o := .cells #[.int .i64 t565, .int .i64 t566] 25 (0, 0)) (mB_ BK567.out) hb); have n3_ := aM (below_step (zs GE567.out) hb); clear HO570; clear HO574; clear BK567; clear HB; have HO570 := n0_; have HO574 := n1_; have BK567 := n2_; have HB := n3_; clear n0_ n1_ n2_ n3_; (try clear hb); (try clear hb2); (try clear hk); (try clear hi)))
 repeat (go_quiet (first | (go_at_call 4; (try simp only [i64_w]); (with_reducible refine (laws_big.calls _ _ l0 false _ ?side1 ?side2 A2.out).mono ?_); (case side1 => repeat (first | exact HR0.out | (with_reducible refine Kd.C_alloc ?_ _) | (with_reducible refine Kd.C_drewN ?_ _) | (with_reducible refine Kd.C_drew ?_))); (case side2 => exact HC0.out); rintro e w' ⟨rfl, ⟨nd, rfl⟩⟩; (try first | exact ⟨rfl, _, World.drewN_drewN _ _ _⟩ | exact ⟨rfl, _, Eq.trans (World.drewN_drewN _ _ _) (congrArg (World.drewN _) (Nat.add_assoc _ _ _))⟩)) | (go_at_call 5; (try simp only [i64_w]); (with_reducible refine (spec_DrawTrianglesAround.calls k _ _ l0 t565 t566 _ ?side1 ?side2 A4.out).mono ?_); (case side1 => repeat (first | exact HR0.out | (with_reducible refine Kd.C_alloc ?_ _) | (with_reducible refine Kd.C_drewN ?_ _) | (with_reducible refine Kd.C_drew ?_))); (case side2 => exact HC0.out); rintro e w11 ⟨rfl, hb⟩; have n0_ := aM (below_step zb hb); clear HB; have HB := n0_; clear n0_; (try clear hb); (try clear hb2); (try clear hk); (try clear hi)) | ((with_reducible refine gate_dst (N := 3) rfl ?_); refine box_event ?hg (N := 3) ?hd (cs := #[.int .i64 0, .int .i64 0]) (t := 25) ?hr ?_; (case hd => rfl); (case hg => rfl); (case hr => first | (go_simp; done) | (go_simp; rfl)); intro gb567 hg w12 hbox hb; have n0_ := aM (below_step zb hb); have n1_ := aM (hbox); have n2_ := aM ((ze : w.heap.size ≤ gb567)); have n3_ := aM ((ze : w.heap.size ≤ gb567)); clear HB; have HB := n0_; have BK567 := n1_; have GW567 := n2_; have GE567 := n3_; clear n0_ n1_ n2_ n3_; clear hb hbox hg; have hcz13_0 : w12.cell? ⟨gb567, 0, none⟩ = some (.int .i64 0) := (blk_cell BK567.out 0).trans rfl; have hcz13_1 : w12.cell? ⟨gb567, 1, none⟩ = some (.int .i64 0) := (blk_cell BK567.out 1).trans rfl; have hfz13_0 := blk_frozen BK567.out 0; have hfz13_1 := blk_frozen BK567.out 1) | (go_at_call 6; (try simp only [i64_w]); (with_reducible refine (impl_TrianglesAround.calls t565 t566 t568 t571 _ A5.out).mono ?_); rintro e w14 ⟨v569, rfl, ho0, hb⟩; have n0_ := aM (Kd.R_lower (Kd.R_newB ho0 (g := gb567) (o := .cells #[.int .i64 t565, .int .i64 t566] 25 (0, 0)) (by (with_reducible repeat (first | refine blk_drewN ?_ _ | refine blk_drew ?_ | refine blk_alloc ?_ _)); refine blk_put (cs := #[.int .i64 t565, .int .i64 0]) ?_ 1 _ rfl; (with_reducible repeat (first | refine blk_drewN ?_ _ | refine blk_drew ?_ | refine blk_alloc ?_ _)); refine blk_put (cs := #[.int .i64 0, .int .i64 0]) ?_ 0 _ rfl; (with_reducible repeat (first | refine blk_drewN ?_ _ | refine blk_drew ?_ | refine blk_alloc ?_ _)); exact BK567.out)) (below_size (zs GE567.out))); have n1_ := aM (blk_below (g := gb567) (o := .cells #[.int .i64 t565, .int .i64 t566] 25 (0, 0)) (by (with_reducible repeat (first | refine blk_drewN ?_ _ | refine blk_drew ?_ | refine blk_alloc ?_ _)); refine blk_put (cs := #[.int .i64 t565, .int .i64 0]) ?_ 1 _ rfl; (with_reducible repeat (first | refine blk_drewN ?_ _ | refine blk_drew ?_ | refine blk_alloc ?_ _)); refine blk_put (cs := #[.int .i64 0, .int .i64 0]) ?_ 0 _ rfl; (with_reducible repeat (first | refine blk_drewN ?_ _ | refine blk_drew ?_ | refine blk_alloc ?_ _)); exact BK567.out) hb); have n2_ := aM (below_step (zs GE567.out) hb); clear BK567; clear HB; have HO570 := n0_; have BK567 := n1_; have HB := n2_; clear n0_ n1_ n2_; (try clear hb); (try clear hb2); (try clear hk); (try clear hi); (try clear ho0); have hcz15_0 : w14.cell? ⟨gb567, 0, none⟩ = some (.int .i64 t565) := (blk_cell BK567.out 0).trans rfl; have hcz15_1 : w14.cell? ⟨gb567, 1, none⟩ = some (.int .i64 t566) := (blk_cell BK567.out 1).trans rfl; have hfz15_0 := blk_frozen BK567.out 0; have hfz15_1 := blk_frozen BK567.out 1) | (go_at_call 7; (try simp only [i64_w]); (with_reducible refine (spec_TrianglesAround.calls t565 t566 t572 t575 _ A6.out).mono ?_); rintro e w16 ⟨v573, rfl, ho0, hb⟩; have n0_ := aM (Kd.R_elder' (mR_ HO570.out) (Kd.R_base ho0) hb); have n1_ := aM (Kd.R_lower (Kd.R_newB (Kd.R_new' ho0 (Kd.R_lt (mR_ HO570.out))) (g := gb567) (o := .cells #[.int .i64 t565, .int .i64 t566] 25 (0, 0)) (mB_ BK567.out)) (below_size (zs GE567.out))); have n2_ := aM (blk_below (g := gb567) (o := .cells #[.int .i64 t565, .int .i64 t566] 25 (0, 0)) (mB_ BK567.out) hb); have n3_ := aM (below_step (zs GE567.out) hb); clear HO570; clear BK567; clear HB; have HO570 := n0_; have HO574 := n1_; have BK567 := n2_; have HB := n3_; clear n0_ n1_ n2_ n3_; (try clear hb); (try clear hb2); (try clear hk); (try clear hi); (try clear ho0)) | (go_at_call 8; (try simp only [i64_w]); (with_reducible refine (spec_DrawCountTriangles.calls k _ _ l0 t576 _ ?side1 ?side2 A7.out).mono ?_); (case side1 => repeat (first | exact (Kd.C_below HR0.out HB.out) | (with_reducible refine Kd.C_alloc ?_ _) | (with_reducible refine Kd.C_drewN ?_ _) | (with_reducible refine Kd.C_drew ?_))); (case side2 => exact HC0.out); rintro e w17 ⟨rfl, hb⟩; have n0_ := aM (Kd.R_below (mR_ HO570.out) hb); have n1_ := aM (Kd.R_below (mR_ HO574.out) hb); have n2_ := aM (blk_below (g := gb567) (o := .cells #[.int .i64 t565, .int .i64 t566] 25 (0, 0)) (mB_ BK567.out) hb); have n3_ := aM (below_step (zs GE567.out) hb); clear HO570; clear HO574; clear BK567; clear HB; have HO570 := n0_; have HO574 := n1_; have BK567 := n2_; have HB := n3_; clear n0_ n1_ n2_ n3_; (try clear hb); (try clear hb2); (try clear hk); (try clear hi)) | (go_at_call 9; (try simp only [i64_w]); (with_reducible refine (impl_CountTriangles.calls k t576 t577 t578 t579 _ A8.out).mono ?_); rintro e w18 ⟨rfl, hb⟩; have n0_ := aM (Kd.R_below (mR_ HO570.out) hb); have n1_ := aM (Kd.R_below (mR_ HO574.out) hb); have n2_ := aM (blk_below (g := gb567) (o := .cells #[.int .i64 t565, .int .i64 t566] 25 (0, 0)) (mB_ BK567.out) hb); have n3_ := aM (below_step (zs GE567.out) hb); clear HO570; clear HO574; clear BK567; clear HB; have HO570 := n0_; have HO574 := n1_; have BK567 := n2_; have HB := n3_; clear n0_ n1_ n2_ n3_; (try clear hb); (try clear hb2); (try clear hk); (try clear hi)) | (go_at_call 10; (try simp only [i64_w]); (with_reducible refine (spec_CountTriangles.calls k t576 t580 t581 t582 _ A9.out).mono ?_); rintro e w19 ⟨rfl, hb⟩; have n0_ := aM (Kd.R_below (mR_ HO570.out) hb); have n1_ := aM (Kd.R_below (mR_ HO574.out) hb); have n2_ := aM (blk_below (g := gb567) (o := .cells #[.int .i64 t565, .int .i64 t566] 25 (0, 0)) (mB_ BK567.out) hb); have n3_ := aM (below_step (zs GE567.out) hb); clear HO570; clear HO574; clear BK567; clear HB; have HO570 := n0_; have HO574 := n1_; have BK567 := n2_; have HB := n3_; clear n0_ n1_ n2_ n3_; (try clear hb); (try clear hb2); (try clear hk); (try clear hi))); go_upto_region 9 with (first | (go_at_call 4; (try simp only [i64_w]); (with_reducible refine (laws_big.calls _ _ l0 false _ ?side1 ?side2 A2.out).mono ?_); (case side1 => repeat (first | exact HR0.out | (with_reducible refine Kd.C_alloc ?_ _) | (with_reducible refine Kd.C_drewN ?_ _) | (with_reducible refine Kd.C_drew ?_))); (case side2 => exact HC0.out); rintro e w' ⟨rfl, ⟨nd, rfl⟩⟩; (try first | exact ⟨rfl, _, World.drewN_drewN _ _ _⟩ | exact ⟨rfl, _, Eq.trans (World.drewN_drewN _ _ _) (congrArg (World.drewN _) (Nat.add_assoc _ _ _))⟩)) | (go_at_call 5; (try simp only [i64_w]); (with_reducible refine (spec_DrawTrianglesAround.calls k _ _ l0 t565 t566 _ ?side1 ?side2 A4.out).mono ?_); (case side1 => repeat (first | exact HR0.out | (with_reducible refine Kd.C_alloc ?_ _) | (with_reducible refine Kd.C_drewN ?_ _) | (with_reducible refine Kd.C_drew ?_))); (case side2 => exact HC0.out); rintro e w11 ⟨rfl, hb⟩; have n0_ := aM (below_step zb hb); clear HB; have HB := n0_; clear n0_; (try clear hb); (try clear hb2); (try clear hk); (try clear hi)) | ((with_reducible refine gate_dst (N := 3) rfl ?_); refine box_event ?hg (N := 3) ?hd (cs := #[.int .i64 0, .int .i64 0]) (t := 25) ?hr ?_; (case hd => rfl); (case hg => rfl); (case hr => first | (go_simp; done) | (go_simp; rfl)); intro gb567 hg w12 hbox hb; have n0_ := aM (below_step zb hb); have n1_ := aM (hbox); have n2_ := aM ((ze : w.heap.size ≤ gb567)); have n3_ := aM ((ze : w.heap.size ≤ gb567)); clear HB; have HB := n0_; have BK567 := n1_; have GW567 := n2_; have GE567 := n3_; clear n0_ n1_ n2_ n3_; clear hb hbox hg; have hcz13_0 : w12.cell? ⟨gb567, 0, none⟩ = some (.int .i64 0) := (blk_cell BK567.out 0).trans rfl; have hcz13_1 : w12.cell? ⟨gb567, 1, none⟩ = some (.int .i64 0) := (blk_cell BK567.out 1).trans rfl; have hfz13_0 := blk_frozen BK567.out 0; have hfz13_1 := blk_frozen BK567.out 1) | (go_at_call 6; (try simp only [i64_w]); (with_reducible refine (impl_TrianglesAround.calls t565 t566 t568 t571 _ A5.out).mono ?_); rintro e w14 ⟨v569, rfl, ho0, hb⟩; have n0_ := aM (Kd.R_lower (Kd.R_newB ho0 (g := gb567) (o := .cells #[.int .i64 t565, .int .i64 t566] 25 (0, 0)) (by (with_reducible repeat (first | refine blk_drewN ?_ _ | refine blk_drew ?_ | refine blk_alloc ?_ _)); refine blk_put (cs := #[.int .i64 t565, .int .i64 0]) ?_ 1 _ rfl; (with_reducible repeat (first | refine blk_drewN ?_ _ | refine blk_drew ?_ | refine blk_alloc ?_ _)); refine blk_put (cs := #[.int .i64 0, .int .i64 0]) ?_ 0 _ rfl; (with_reducible repeat (first | refine blk_drewN ?_ _ | refine blk_drew ?_ | refine blk_alloc ?_ _)); exact BK567.out)) (below_size (zs GE567.out))); have n1_ := aM (blk_below (g := gb567) (o := .cells #[.int .i64 t565, .int .i64 t566] 25 (0, 0)) (by (with_reducible repeat (first | refine blk_drewN ?_ _ | refine blk_drew ?_ | refine blk_alloc ?_ _)); refine blk_put (cs := #[.int .i64 t565, .int .i64 0]) ?_ 1 _ rfl; (with_reducible repeat (first | refine blk_drewN ?_ _ | refine blk_drew ?_ | refine blk_alloc ?_ _)); refine blk_put (cs := #[.int .i64 0, .int .i64 0]) ?_ 0 _ rfl; (with_reducible repeat (first | refine blk_drewN ?_ _ | refine blk_drew ?_ | refine blk_alloc ?_ _)); exact BK567.out) hb); have n2_ := aM (below_step (zs GE567.out) hb); clear BK567; clear HB; have HO570 := n0_; have BK567 := n1_; have HB := n2_; clear n0_ n1_ n2_; (try clear hb); (try clear hb2); (try clear hk); (try clear hi); (try clear ho0); have hcz15_0 : w14.cell? ⟨gb567, 0, none⟩ = some (.int .i64 t565) := (blk_cell BK567.out 0).trans rfl; have hcz15_1 : w14.cell? ⟨gb567, 1, none⟩ = some (.int .i64 t566) := (blk_cell BK567.out 1).trans rfl; have hfz15_0 := blk_frozen BK567.out 0; have hfz15_1 := blk_frozen BK567.out 1) | (go_at_call 7; (try simp only [i64_w]); (with_reducible refine (spec_TrianglesAround.calls t565 t566 t572 t575 _ A6.out).mono ?_); rintro e w16 ⟨v573, rfl, ho0, hb⟩; have n0_ := aM (Kd.R_elder' (mR_ HO570.out) (Kd.R_base ho0) hb); have n1_ := aM (Kd.R_lower (Kd.R_newB (Kd.R_new' ho0 (Kd.R_lt (mR_ HO570.out))) (g := gb567) (o := .cells #[.int .i64 t565, .int .i64 t566] 25 (0, 0)) (mB_ BK567.out)) (below_size (zs GE567.out))); have n2_ := aM (blk_below (g := gb567) (o := .cells #[.int .i64 t565, .int .i64 t566] 25 (0, 0)) (mB_ BK567.out) hb); have n3_ := aM (below_step (zs GE567.out) hb); clear HO570; clear BK567; clear HB; have HO570 := n0_; have HO574 := n1_; have BK567 := n2_; have HB := n3_; clear n0_ n1_ n2_ n3_; (try clear hb); (try clear hb2); (try clear hk); (try clear hi); (try clear ho0)) | (go_at_call 8; (try simp only [i64_w]); (with_reducible refine (spec_DrawCountTriangles.calls k _ _ l0 t576 _ ?side1 ?side2 A7.out).mono ?_); (case side1 => repeat (first | exact (Kd.C_below HR0.out HB.out) | (with_reducible refine Kd.C_alloc ?_ _) | (with_reducible refine Kd.C_drewN ?_ _) | (with_reducible refine Kd.C_drew ?_))); (case side2 => exact HC0.out); rintro e w17 ⟨rfl, hb⟩; have n0_ := aM (Kd.R_below (mR_ HO570.out) hb); have n1_ := aM (Kd.R_below (mR_ HO574.out) hb); have n2_ := aM (blk_below (g := gb567) (o := .cells #[.int .i64 t565, .int .i64 t566] 25 (0, 0)) (mB_ BK567.out) hb); have n3_ := aM (below_step (zs GE567.out) hb); clear HO570; clear HO574; clear BK567; clear HB; have HO570 := n0_; have HO574 := n1_; have BK567 := n2_; have HB := n3_; clear n0_ n1_ n2_ n3_; (try clear hb); (try clear hb2); (try clear hk); (try clear hi)) | (go_at_call 9; (try simp only [i64_w]); (with_reducible refine (impl_CountTriangles.calls k t576 t577 t578 t579 _ A8.out).mono ?_); rintro e w18 ⟨rfl, hb⟩; have n0_ := aM (Kd.R_below (mR_ HO570.out) hb); have n1_ := aM (Kd.R_below (mR_ HO574.out) hb); have n2_ := aM (blk_below (g := gb567) (o := .cells #[.int .i64 t565, .int .i64 t566] 25 (0, 0)) (mB_ BK567.out) hb); have n3_ := aM (below_step (zs GE567.out) hb); clear HO570; clear HO574; clear BK567; clear HB; have HO570 := n0_; have HO574 := n1_; have BK567 := n2_; have HB := n3_; clear n0_ n1_ n2_ n3_; (try clear hb); (try clear hb2); (try clear hk); (try clear hi)) | (go_at_call 10; (try simp only [i64_w]); (with_reducible refine (spec_CountTriangles.calls k t576 t580 t581 t582 _ A9.out).mono ?_); rintro e w19 ⟨rfl, hb⟩; have n0_ := aM (Kd.R_below (mR_ HO570.out) hb); have n1_ := aM (Kd.R_below (mR_ HO574.out) hb); have n2_ := aM (blk_below (g := gb567) (o := .cells #[.int .i64 t565, .int .i64 t566] 25 (0, 0)) (mB_ BK567.out) hb); have n3_ := aM (below_step (zs GE567.out) hb); clear HO570; clear HO574; clear BK567; clear HB; have HO570 := n0_; have HO574 := n1_; have BK567 := n2_; have HB := n3_; clear n0_ n1_ n2_ n3_; (try clear hb); (try clear hb2); (try clear hk); (try clear hi))))
 (try simp only [Act.put, xA, xB, xC])
 go_cut [78] (fun v78 wc => ∃ (kq : Nat) (x78_9 : Bool), v78 = .bool x78_9 ∧ Aside0 (laws_FnTriangles.j0 kq t568 t571 x78_9 t565 t566 = some r) ∧ Aside0 (kq ≤ k) ∧ Aside0 (Kd.R k25 25 wc w.heap.size (fun k_ => k_ ≠ gb567) v569 t568) ∧ Aside0 (wc.heap[gb567]? = some (.cells #[.int .i64 t565, .int .i64 t566] 25 (0, 0))) ∧ Aside0 (Below w.heap.size w wc))
 case first =>
  have H := HC10.out
  clear HC10
  by_cases c20 : t571 = t575
  rotate_left
  ·rw [if_neg c20] at H
   have c20b0 : (t571 == t575) = false := beq_eq_false_iff_ne.mpr c20
   have c20b1 : (t571 != t575) = true := bne_iff_ne.mpr c20
   (first | rw [c20b0] | (simp only [i64_w, i32_w]; rw [c20b0]) | skip)
   have H' := aM H
   clear H
   go_wp2
   repeat (go_quiet (fail); try go_wp2)
   go_meet
   case rel => exact ⟨_, (true), zr, H', ⟨by first | omega | exact Nat.le_refl _⟩, ⟨by (with_reducible repeat (first | apply Kd.R_alloc | apply Kd.R_drewN | apply Kd.R_drew)); exact Kd.R_mono HO570.out (fun _ hk => hk.1.2)⟩, ⟨mB_ BK567.out⟩, ⟨zs GE567.out⟩⟩
  rw [if_pos c20] at H
  have c20b0 : (t571 == t575) = true := beq_iff_eq.mpr c20
  have c20b1 : (t571 != t575) = false := bne_eq_false_iff_eq.mpr c20
  clear c20
  (first | rw [c20b0] | (simp only [i64_w, i32_w]; rw [c20b0]) | skip)
  replace H := Option.bind_eq_some_iff.mp H
  obtain ⟨t583, A210, H⟩ := H
  replace H : (if t583 = true then (if t579 = t582 then (if t577 = t580 then (if t578 = t581 then ((impl_IsTriangle.f t565 t566).bind fun t584 => (laws_FnTriangles.j0 k t568 t571 (t584 != (t575 == 0)) t565 t566)) else (laws_FnTriangles.j0 k t568 t571 true t565 t566)) else (laws_FnTriangles.j0 k t568 t571 true t565 t566)) else (laws_FnTriangles.j0 k t568 t571 true t565 t566)) else (laws_FnTriangles.j0 k t568 t571 true t565 t566)) = some r := H
  have A21 := aM A210
  clear A210
  by_cases c22 : t583 = true
  rotate_left
  ·replace c22 := Bool.eq_false_iff.mpr c22
   subst c22
   have H1 : (laws_FnTriangles.j0 k t568 t571 true t565 t566) = some r := by rw [if_neg (show ¬ (false = true) by decide)] at H; exact H
   clear H
   have H := H1
   clear H1
   have H' := aM H
   clear H
   obtain ⟨Ao37, co37, eo37⟩ := Kd.R_slice HO570.out
   subst eo37
   obtain ⟨Ao38, co38, eo38⟩ := Kd.R_slice HO574.out
   subst eo38
   go_wp2_with (first | (go_at_call 11; (with_reducible refine (laws_likeCells.calls k _ _ t568 _ _ t572 false _ ?side1 ?side2 ?side3 ?side4 A21.out).mono ?_); (case side1 => repeat (first | exact (Kd.R_reads' HO570.out).2.2 | (with_reducible refine Kd.C_alloc ?_ _) | (with_reducible refine Kd.C_drewN ?_ _) | (with_reducible refine Kd.C_drew ?_))); (case side2 => exact (Kd.R_reads' HO570.out).2.1); (case side3 => repeat (first | exact (Kd.R_reads' HO574.out).2.2 | (with_reducible refine Kd.C_alloc ?_ _) | (with_reducible refine Kd.C_drewN ?_ _) | (with_reducible refine Kd.C_drew ?_))); (case side4 => exact (Kd.R_reads' HO574.out).2.1); rintro e w' ⟨rfl, ⟨nd, rfl⟩⟩; (try first | exact ⟨rfl, _, World.drewN_drewN _ _ _⟩ | exact ⟨rfl, _, Eq.trans (World.drewN_drewN _ _ _) (congrArg (World.drewN _) (Nat.add_assoc _ _ _))⟩)))
   repeat (go_quiet (first | (go_at_call 11; (try simp only [i64_w]); (with_reducible refine (laws_likeCells.calls k _ _ t568 _ _ t572 false _ ?side1 ?side2 ?side3 ?side4 A21.out).mono ?_); (case side1 => repeat (first | exact (Kd.R_reads' HO570.out).2.2 | (with_reducible refine Kd.C_alloc ?_ _) | (with_reducible refine Kd.C_drewN ?_ _) | (with_reducible refine Kd.C_drew ?_))); (case side2 => exact (Kd.R_reads' HO570.out).2.1); (case side3 => repeat (first | exact (Kd.R_reads' HO574.out).2.2 | (with_reducible refine Kd.C_alloc ?_ _) | (with_reducible refine Kd.C_drewN ?_ _) | (with_reducible refine Kd.C_drew ?_))); (case side4 => exact (Kd.R_reads' HO574.out).2.1); rintro e w' ⟨rfl, ⟨nd, rfl⟩⟩; (try first | exact ⟨rfl, _, World.drewN_drewN _ _ _⟩ | exact ⟨rfl, _, Eq.trans (World.drewN_drewN _ _ _) (congrArg (World.drewN _) (Nat.add_assoc _ _ _))⟩))); try go_wp2_with (first | (go_at_call 11; (try simp only [i64_w]); (with_reducible refine (laws_likeCells.calls k _ _ t568 _ _ t572 false _ ?side1 ?side2 ?side3 ?side4 A21.out).mono ?_); (case side1 => repeat (first | exact (Kd.R_reads' HO570.out).2.2 | (with_reducible refine Kd.C_alloc ?_ _) | (with_reducible refine Kd.C_drewN ?_ _) | (with_reducible refine Kd.C_drew ?_))); (case side2 => exact (Kd.R_reads' HO570.out).2.1); (case side3 => repeat (first | exact (Kd.R_reads' HO574.out).2.2 | (with_reducible refine Kd.C_alloc ?_ _) | (with_reducible refine Kd.C_drewN ?_ _) | (with_reducible refine Kd.C_drew ?_))); (case side4 => exact (Kd.R_reads' HO574.out).2.1); rintro e w' ⟨rfl, ⟨nd, rfl⟩⟩; (try first | exact ⟨rfl, _, World.drewN_drewN _ _ _⟩ | exact ⟨rfl, _, Eq.trans (World.drewN_drewN _ _ _) (congrArg (World.drewN _) (Nat.add_assoc _ _ _))⟩))))
   go_meet
   case rel => exact ⟨_, (true), zr, H', ⟨by first | omega | exact Nat.le_refl _⟩, ⟨by (with_reducible repeat (first | apply Kd.R_alloc | apply Kd.R_drewN | apply Kd.R_drew)); exact Kd.R_mono HO570.out (fun _ hk => hk.1.2)⟩, ⟨mB_ BK567.out⟩, ⟨zs GE567.out⟩⟩
  subst c22
  have H1 : (if t579 = t582 then (if t577 = t580 then (if t578 = t581 then ((impl_IsTriangle.f t565 t566).bind fun t584 => (laws_FnTriangles.j0 k t568 t571 (t584 != (t575 == 0)) t565 t566)) else (laws_FnTriangles.j0 k t568 t571 true t565 t566)) else (laws_FnTriangles.j0 k t568 t571 true t565 t566)) else (laws_FnTriangles.j0 k t568 t571 true t565 t566)) = some r := by rw [if_pos rfl] at H; exact H
  clear H
  have H := H1
  clear H1
  by_cases c23 : t579 = t582
  rotate_left
  ·rw [if_neg c23] at H
   have c23b0 : (t579 == t582) = false := beq_eq_false_iff_ne.mpr c23
   have c23b1 : (t579 != t582) = true := bne_iff_ne.mpr c23
   have H' := aM H
   clear H
   obtain ⟨Ao35, co35, eo35⟩ := Kd.R_slice HO570.out
   subst eo35
   obtain ⟨Ao36, co36, eo36⟩ := Kd.R_slice HO574.out
   subst eo36
   go_wp2_with (first | (go_at_call 11; (with_reducible refine (laws_likeCells.calls k _ _ t568 _ _ t572 true _ ?side1 ?side2 ?side3 ?side4 A21.out).mono ?_); (case side1 => repeat (first | exact (Kd.R_reads' HO570.out).2.2 | (with_reducible refine Kd.C_alloc ?_ _) | (with_reducible refine Kd.C_drewN ?_ _) | (with_reducible refine Kd.C_drew ?_))); (case side2 => exact (Kd.R_reads' HO570.out).2.1); (case side3 => repeat (first | exact (Kd.R_reads' HO574.out).2.2 | (with_reducible refine Kd.C_alloc ?_ _) | (with_reducible refine Kd.C_drewN ?_ _) | (with_reducible refine Kd.C_drew ?_))); (case side4 => exact (Kd.R_reads' HO574.out).2.1); rintro e w' ⟨rfl, ⟨nd, rfl⟩⟩; (try first | exact ⟨rfl, _, World.drewN_drewN _ _ _⟩ | exact ⟨rfl, _, Eq.trans (World.drewN_drewN _ _ _) (congrArg (World.drewN _) (Nat.add_assoc _ _ _))⟩)))
   repeat (go_quiet (first | (go_at_call 11; (try simp only [i64_w]); (with_reducible refine (laws_likeCells.calls k _ _ t568 _ _ t572 true _ ?side1 ?side2 ?side3 ?side4 A21.out).mono ?_); (case side1 => repeat (first | exact (Kd.R_reads' HO570.out).2.2 | (with_reducible refine Kd.C_alloc ?_ _) | (with_reducible refine Kd.C_drewN ?_ _) | (with_reducible refine Kd.C_drew ?_))); (case side2 => exact (Kd.R_reads' HO570.out).2.1); (case side3 => repeat (first | exact (Kd.R_reads' HO574.out).2.2 | (with_reducible refine Kd.C_alloc ?_ _) | (with_reducible refine Kd.C_drewN ?_ _) | (with_reducible refine Kd.C_drew ?_))); (case side4 => exact (Kd.R_reads' HO574.out).2.1); rintro e w' ⟨rfl, ⟨nd, rfl⟩⟩; (try first | exact ⟨rfl, _, World.drewN_drewN _ _ _⟩ | exact ⟨rfl, _, Eq.trans (World.drewN_drewN _ _ _) (congrArg (World.drewN _) (Nat.add_assoc _ _ _))⟩))); try go_wp2_with (first | (go_at_call 11; (try simp only [i64_w]); (with_reducible refine (laws_likeCells.calls k _ _ t568 _ _ t572 true _ ?side1 ?side2 ?side3 ?side4 A21.out).mono ?_); (case side1 => repeat (first | exact (Kd.R_reads' HO570.out).2.2 | (with_reducible refine Kd.C_alloc ?_ _) | (with_reducible refine Kd.C_drewN ?_ _) | (with_reducible refine Kd.C_drew ?_))); (case side2 => exact (Kd.R_reads' HO570.out).2.1); (case side3 => repeat (first | exact (Kd.R_reads' HO574.out).2.2 | (with_reducible refine Kd.C_alloc ?_ _) | (with_reducible refine Kd.C_drewN ?_ _) | (with_reducible refine Kd.C_drew ?_))); (case side4 => exact (Kd.R_reads' HO574.out).2.1); rintro e w' ⟨rfl, ⟨nd, rfl⟩⟩; (try first | exact ⟨rfl, _, World.drewN_drewN _ _ _⟩ | exact ⟨rfl, _, Eq.trans (World.drewN_drewN _ _ _) (congrArg (World.drewN _) (Nat.add_assoc _ _ _))⟩))))
   go_meet
   case rel => exact ⟨_, (true), zr, H', ⟨by first | omega | exact Nat.le_refl _⟩, ⟨by (with_reducible repeat (first | apply Kd.R_alloc | apply Kd.R_drewN | apply Kd.R_drew)); exact Kd.R_mono HO570.out (fun _ hk => hk.1.2)⟩, ⟨mB_ BK567.out⟩, ⟨zs GE567.out⟩⟩
  rw [if_pos c23] at H
  have c23b0 : (t579 == t582) = true := beq_iff_eq.mpr c23
  have c23b1 : (t579 != t582) = false := bne_eq_false_iff_eq.mpr c23
  clear c23
  by_cases c24 : t577 = t580
  rotate_left
  ·rw [if_neg c24] at H
   have c24b0 : (t577 == t580) = false := beq_eq_false_iff_ne.mpr c24
   have c24b1 : (t577 != t580) = true := bne_iff_ne.mpr c24
   have H' := aM H
   clear H
   obtain ⟨Ao33, co33, eo33⟩ := Kd.R_slice HO570.out
   subst eo33
   obtain ⟨Ao34, co34, eo34⟩ := Kd.R_slice HO574.out
   subst eo34
   go_wp2_with (first | (go_at_call 11; (with_reducible refine (laws_likeCells.calls k _ _ t568 _ _ t572 true _ ?side1 ?side2 ?side3 ?side4 A21.out).mono ?_); (case side1 => repeat (first | exact (Kd.R_reads' HO570.out).2.2 | (with_reducible refine Kd.C_alloc ?_ _) | (with_reducible refine Kd.C_drewN ?_ _) | (with_reducible refine Kd.C_drew ?_))); (case side2 => exact (Kd.R_reads' HO570.out).2.1); (case side3 => repeat (first | exact (Kd.R_reads' HO574.out).2.2 | (with_reducible refine Kd.C_alloc ?_ _) | (with_reducible refine Kd.C_drewN ?_ _) | (with_reducible refine Kd.C_drew ?_))); (case side4 => exact (Kd.R_reads' HO574.out).2.1); rintro e w' ⟨rfl, ⟨nd, rfl⟩⟩; (try first | exact ⟨rfl, _, World.drewN_drewN _ _ _⟩ | exact ⟨rfl, _, Eq.trans (World.drewN_drewN _ _ _) (congrArg (World.drewN _) (Nat.add_assoc _ _ _))⟩)))
   repeat (go_quiet (first | (go_at_call 11; (try simp only [i64_w]); (with_reducible refine (laws_likeCells.calls k _ _ t568 _ _ t572 true _ ?side1 ?side2 ?side3 ?side4 A21.out).mono ?_); (case side1 => repeat (first | exact (Kd.R_reads' HO570.out).2.2 | (with_reducible refine Kd.C_alloc ?_ _) | (with_reducible refine Kd.C_drewN ?_ _) | (with_reducible refine Kd.C_drew ?_))); (case side2 => exact (Kd.R_reads' HO570.out).2.1); (case side3 => repeat (first | exact (Kd.R_reads' HO574.out).2.2 | (with_reducible refine Kd.C_alloc ?_ _) | (with_reducible refine Kd.C_drewN ?_ _) | (with_reducible refine Kd.C_drew ?_))); (case side4 => exact (Kd.R_reads' HO574.out).2.1); rintro e w' ⟨rfl, ⟨nd, rfl⟩⟩; (try first | exact ⟨rfl, _, World.drewN_drewN _ _ _⟩ | exact ⟨rfl, _, Eq.trans (World.drewN_drewN _ _ _) (congrArg (World.drewN _) (Nat.add_assoc _ _ _))⟩))); try go_wp2_with (first | (go_at_call 11; (try simp only [i64_w]); (with_reducible refine (laws_likeCells.calls k _ _ t568 _ _ t572 true _ ?side1 ?side2 ?side3 ?side4 A21.out).mono ?_); (case side1 => repeat (first | exact (Kd.R_reads' HO570.out).2.2 | (with_reducible refine Kd.C_alloc ?_ _) | (with_reducible refine Kd.C_drewN ?_ _) | (with_reducible refine Kd.C_drew ?_))); (case side2 => exact (Kd.R_reads' HO570.out).2.1); (case side3 => repeat (first | exact (Kd.R_reads' HO574.out).2.2 | (with_reducible refine Kd.C_alloc ?_ _) | (with_reducible refine Kd.C_drewN ?_ _) | (with_reducible refine Kd.C_drew ?_))); (case side4 => exact (Kd.R_reads' HO574.out).2.1); rintro e w' ⟨rfl, ⟨nd, rfl⟩⟩; (try first | exact ⟨rfl, _, World.drewN_drewN _ _ _⟩ | exact ⟨rfl, _, Eq.trans (World.drewN_drewN _ _ _) (congrArg (World.drewN _) (Nat.add_assoc _ _ _))⟩))))
   go_meet
   case rel => exact ⟨_, (true), zr, H', ⟨by first | omega | exact Nat.le_refl _⟩, ⟨by (with_reducible repeat (first | apply Kd.R_alloc | apply Kd.R_drewN | apply Kd.R_drew)); exact Kd.R_mono HO570.out (fun _ hk => hk.1.2)⟩, ⟨mB_ BK567.out⟩, ⟨zs GE567.out⟩⟩
  rw [if_pos c24] at H
  have c24b0 : (t577 == t580) = true := beq_iff_eq.mpr c24
  have c24b1 : (t577 != t580) = false := bne_eq_false_iff_eq.mpr c24
  clear c24
  by_cases c25 : t578 = t581
  rotate_left
  ·rw [if_neg c25] at H
   have c25b0 : (t578 == t581) = false := beq_eq_false_iff_ne.mpr c25
   have c25b1 : (t578 != t581) = true := bne_iff_ne.mpr c25
   have H' := aM H
   clear H
   obtain ⟨Ao31, co31, eo31⟩ := Kd.R_slice HO570.out
   subst eo31
   obtain ⟨Ao32, co32, eo32⟩ := Kd.R_slice HO574.out
   subst eo32
   go_wp2_with (first | (go_at_call 11; (with_reducible refine (laws_likeCells.calls k _ _ t568 _ _ t572 true _ ?side1 ?side2 ?side3 ?side4 A21.out).mono ?_); (case side1 => repeat (first | exact (Kd.R_reads' HO570.out).2.2 | (with_reducible refine Kd.C_alloc ?_ _) | (with_reducible refine Kd.C_drewN ?_ _) | (with_reducible refine Kd.C_drew ?_))); (case side2 => exact (Kd.R_reads' HO570.out).2.1); (case side3 => repeat (first | exact (Kd.R_reads' HO574.out).2.2 | (with_reducible refine Kd.C_alloc ?_ _) | (with_reducible refine Kd.C_drewN ?_ _) | (with_reducible refine Kd.C_drew ?_))); (case side4 => exact (Kd.R_reads' HO574.out).2.1); rintro e w' ⟨rfl, ⟨nd, rfl⟩⟩; (try first | exact ⟨rfl, _, World.drewN_drewN _ _ _⟩ | exact ⟨rfl, _, Eq.trans (World.drewN_drewN _ _ _) (congrArg (World.drewN _) (Nat.add_assoc _ _ _))⟩)))
   repeat (go_quiet (first | (go_at_call 11; (try simp only [i64_w]); (with_reducible refine (laws_likeCells.calls k _ _ t568 _ _ t572 true _ ?side1 ?side2 ?side3 ?side4 A21.out).mono ?_); (case side1 => repeat (first | exact (Kd.R_reads' HO570.out).2.2 | (with_reducible refine Kd.C_alloc ?_ _) | (with_reducible refine Kd.C_drewN ?_ _) | (with_reducible refine Kd.C_drew ?_))); (case side2 => exact (Kd.R_reads' HO570.out).2.1); (case side3 => repeat (first | exact (Kd.R_reads' HO574.out).2.2 | (with_reducible refine Kd.C_alloc ?_ _) | (with_reducible refine Kd.C_drewN ?_ _) | (with_reducible refine Kd.C_drew ?_))); (case side4 => exact (Kd.R_reads' HO574.out).2.1); rintro e w' ⟨rfl, ⟨nd, rfl⟩⟩; (try first | exact ⟨rfl, _, World.drewN_drewN _ _ _⟩ | exact ⟨rfl, _, Eq.trans (World.drewN_drewN _ _ _) (congrArg (World.drewN _) (Nat.add_assoc _ _ _))⟩))); try go_wp2_with (first | (go_at_call 11; (try simp only [i64_w]); (with_reducible refine (laws_likeCells.calls k _ _ t568 _ _ t572 true _ ?side1 ?side2 ?side3 ?side4 A21.out).mono ?_); (case side1 => repeat (first | exact (Kd.R_reads' HO570.out).2.2 | (with_reducible refine Kd.C_alloc ?_ _) | (with_reducible refine Kd.C_drewN ?_ _) | (with_reducible refine Kd.C_drew ?_))); (case side2 => exact (Kd.R_reads' HO570.out).2.1); (case side3 => repeat (first | exact (Kd.R_reads' HO574.out).2.2 | (with_reducible refine Kd.C_alloc ?_ _) | (with_reducible refine Kd.C_drewN ?_ _) | (with_reducible refine Kd.C_drew ?_))); (case side4 => exact (Kd.R_reads' HO574.out).2.1); rintro e w' ⟨rfl, ⟨nd, rfl⟩⟩; (try first | exact ⟨rfl, _, World.drewN_drewN _ _ _⟩ | exact ⟨rfl, _, Eq.trans (World.drewN_drewN _ _ _) (congrArg (World.drewN _) (Nat.add_assoc _ _ _))⟩))))
   go_meet
   case rel => exact ⟨_, (true), zr, H', ⟨by first | omega | exact Nat.le_refl _⟩, ⟨by (with_reducible repeat (first | apply Kd.R_alloc | apply Kd.R_drewN | apply Kd.R_drew)); exact Kd.R_mono HO570.out (fun _ hk => hk.1.2)⟩, ⟨mB_ BK567.out⟩, ⟨zs GE567.out⟩⟩
  rw [if_pos c25] at H
  have c25b0 : (t578 == t581) = true := beq_iff_eq.mpr c25
  have c25b1 : (t578 != t581) = false := bne_eq_false_iff_eq.mpr c25
  clear c25
  replace H := Option.bind_eq_some_iff.mp H
  obtain ⟨t584, A260, H⟩ := H
  replace H : (laws_FnTriangles.j0 k t568 t571 (t584 != (t575 == 0)) t565 t566) = some r := H
  have A26 := aM A260
  clear A260
  have H' := aM H
  clear H
  obtain ⟨Ao27, co27, eo27⟩ := Kd.R_slice HO570.out
  subst eo27
  obtain ⟨Ao28, co28, eo28⟩ := Kd.R_slice HO574.out
  subst eo28
  go_wp2_with (first | (go_at_call 11; (with_reducible refine (laws_likeCells.calls k _ _ t568 _ _ t572 true _ ?side1 ?side2 ?side3 ?side4 A21.out).mono ?_); (case side1 => repeat (first | exact (Kd.R_reads' HO570.out).2.2 | (with_reducible refine Kd.C_alloc ?_ _) | (with_reducible refine Kd.C_drewN ?_ _) | (with_reducible refine Kd.C_drew ?_))); (case side2 => exact (Kd.R_reads' HO570.out).2.1); (case side3 => repeat (first | exact (Kd.R_reads' HO574.out).2.2 | (with_reducible refine Kd.C_alloc ?_ _) | (with_reducible refine Kd.C_drewN ?_ _) | (with_reducible refine Kd.C_drew ?_))); (case side4 => exact (Kd.R_reads' HO574.out).2.1); rintro e w' ⟨rfl, ⟨nd, rfl⟩⟩; (try first | exact ⟨rfl, _, World.drewN_drewN _ _ _⟩ | exact ⟨rfl, _, Eq.trans (World.drewN_drewN _ _ _) (congrArg (World.drewN _) (Nat.add_assoc _ _ _))⟩); have hcz29_0 : w19.cell? ⟨gb567, 0, none⟩ = some (.int .i64 t565) := (blk_cell BK567.out 0).trans rfl; have hcz29_1 : w19.cell? ⟨gb567, 1, none⟩ = some (.int .i64 t566) := (blk_cell BK567.out 1).trans rfl; have hfz29_0 := blk_frozen BK567.out 0; have hfz29_1 := blk_frozen BK567.out 1) | (go_at_call 12; (with_reducible refine (impl_IsTriangle.calls t565 t566 t584 _ A26.out).mono ?_); rintro e w30 ⟨rfl, hb⟩; have n0_ := aM (Kd.R_below (mR_ HO570.out) hb); have n1_ := aM (Kd.R_below (mR_ HO574.out) hb); have n2_ := aM (blk_below (g := gb567) (o := .cells #[.int .i64 t565, .int .i64 t566] 25 (0, 0)) (mB_ BK567.out) hb); have n3_ := aM (below_step (zs GE567.out) hb); clear HO570; clear HO574; clear BK567; clear HB; have HO570 := n0_; have HO574 := n1_; have BK567 := n2_; have HB := n3_; clear n0_ n1_ n2_ n3_; (try clear hb); (try clear hb2); (try clear hk); (try clear hi)))
  repeat (go_quiet (first | (go_at_call 11; (try simp only [i64_w]); (with_reducible refine (laws_likeCells.calls k _ _ t568 _ _ t572 true _ ?side1 ?side2 ?side3 ?side4 A21.out).mono ?_); (case side1 => repeat (first | exact (Kd.R_reads' HO570.out).2.2 | (with_reducible refine Kd.C_alloc ?_ _) | (with_reducible refine Kd.C_drewN ?_ _) | (with_reducible refine Kd.C_drew ?_))); (case side2 => exact (Kd.R_reads' HO570.out).2.1); (case side3 => repeat (first | exact (Kd.R_reads' HO574.out).2.2 | (with_reducible refine Kd.C_alloc ?_ _) | (with_reducible refine Kd.C_drewN ?_ _) | (with_reducible refine Kd.C_drew ?_))); (case side4 => exact (Kd.R_reads' HO574.out).2.1); rintro e w' ⟨rfl, ⟨nd, rfl⟩⟩; (try first | exact ⟨rfl, _, World.drewN_drewN _ _ _⟩ | exact ⟨rfl, _, Eq.trans (World.drewN_drewN _ _ _) (congrArg (World.drewN _) (Nat.add_assoc _ _ _))⟩); have hcz29_0 : w19.cell? ⟨gb567, 0, none⟩ = some (.int .i64 t565) := (blk_cell BK567.out 0).trans rfl; have hcz29_1 : w19.cell? ⟨gb567, 1, none⟩ = some (.int .i64 t566) := (blk_cell BK567.out 1).trans rfl; have hfz29_0 := blk_frozen BK567.out 0; have hfz29_1 := blk_frozen BK567.out 1) | (go_at_call 12; (try simp only [i64_w]); (with_reducible refine (impl_IsTriangle.calls t565 t566 t584 _ A26.out).mono ?_); rintro e w30 ⟨rfl, hb⟩; have n0_ := aM (Kd.R_below (mR_ HO570.out) hb); have n1_ := aM (Kd.R_below (mR_ HO574.out) hb); have n2_ := aM (blk_below (g := gb567) (o := .cells #[.int .i64 t565, .int .i64 t566] 25 (0, 0)) (mB_ BK567.out) hb); have n3_ := aM (below_step (zs GE567.out) hb); clear HO570; clear HO574; clear BK567; clear HB; have HO570 := n0_; have HO574 := n1_; have BK567 := n2_; have HB := n3_; clear n0_ n1_ n2_ n3_; (try clear hb); (try clear hb2); (try clear hk); (try clear hi))); try go_wp2_with (first | (go_at_call 11; (try simp only [i64_w]); (with_reducible refine (laws_likeCells.calls k _ _ t568 _ _ t572 true _ ?side1 ?side2 ?side3 ?side4 A21.out).mono ?_); (case side1 => repeat (first | exact (Kd.R_reads' HO570.out).2.2 | (with_reducible refine Kd.C_alloc ?_ _) | (with_reducible refine Kd.C_drewN ?_ _) | (with_reducible refine Kd.C_drew ?_))); (case side2 => exact (Kd.R_reads' HO570.out).2.1); (case side3 => repeat (first | exact (Kd.R_reads' HO574.out).2.2 | (with_reducible refine Kd.C_alloc ?_ _) | (with_reducible refine Kd.C_drewN ?_ _) | (with_reducible refine Kd.C_drew ?_))); (case side4 => exact (Kd.R_reads' HO574.out).2.1); rintro e w' ⟨rfl, ⟨nd, rfl⟩⟩; (try first | exact ⟨rfl, _, World.drewN_drewN _ _ _⟩ | exact ⟨rfl, _, Eq.trans (World.drewN_drewN _ _ _) (congrArg (World.drewN _) (Nat.add_assoc _ _ _))⟩); have hcz29_0 : w19.cell? ⟨gb567, 0, none⟩ = some (.int .i64 t565) := (blk_cell BK567.out 0).trans rfl; have hcz29_1 : w19.cell? ⟨gb567, 1, none⟩ = some (.int .i64 t566) := (blk_cell BK567.out 1).trans rfl; have hfz29_0 := blk_frozen BK567.out 0; have hfz29_1 := blk_frozen BK567.out 1) | (go_at_call 12; (try simp only [i64_w]); (with_reducible refine (impl_IsTriangle.calls t565 t566 t584 _ A26.out).mono ?_); rintro e w30 ⟨rfl, hb⟩; have n0_ := aM (Kd.R_below (mR_ HO570.out) hb); have n1_ := aM (Kd.R_below (mR_ HO574.out) hb); have n2_ := aM (blk_below (g := gb567) (o := .cells #[.int .i64 t565, .int .i64 t566] 25 (0, 0)) (mB_ BK567.out) hb); have n3_ := aM (below_step (zs GE567.out) hb); clear HO570; clear HO574; clear BK567; clear HB; have HO570 := n0_; have HO574 := n1_; have BK567 := n2_; have HB := n3_; clear n0_ n1_ n2_ n3_; (try clear hb); (try clear hb2); (try clear hk); (try clear hi))))
  go_meet
  case rel => exact ⟨_, ((t584 != (t575 == 0))), zr, H', ⟨by first | omega | exact Nat.le_refl _⟩, ⟨by (with_reducible repeat (first | apply Kd.R_alloc | apply Kd.R_drewN | apply Kd.R_drew)); exact Kd.R_mono HO570.out (fun _ hk => hk.1.2)⟩, ⟨mB_ BK567.out⟩, ⟨zs GE567.out⟩⟩
 case rest =>
  clear HC10
  try clear c2
  try clear p2
  try clear c3
  try clear c20
  try clear c20b0
  try clear c20b1
  try clear c22
  try clear c23
  try clear c23b0
  try clear c23b1
  try clear c24
  try clear c24b0
  try clear c24b1
  try clear c25
  try clear c25b0
  try clear c25b1
  try clear hcz13_0
  try clear hcz13_1
  try clear hcz15_0
  try clear hcz15_1
  try clear hcz29_0
  try clear hcz29_1
  try clear hfz13_0
  try clear hfz13_1
  try clear hfz15_0
  try clear hfz15_1
  try clear hfz29_0
  try clear hfz29_1
  obtain ⟨kq, x78_9, rfl, HA, HJ9, HO_4, BK567, HB⟩ := hcut
  cases kq with
  | zero => exact absurd HA.out (by simp [laws_FnTriangles.j0])
  | succ kj9 =>
   have H := HA.out
   clear HA
   simp only [laws_FnTriangles.j0] at H
   by_cases c39 : x78_9 = true
   ·subst c39
    have H1 : (some false) = some r := by rw [if_pos rfl] at H; exact H
    clear H
    have H := H1
    clear H1
    obtain rfl := Option.some.inj H
    go_wp2
    repeat (go_quiet (fail); try go_wp2)
    go_ret
    exact ⟨zw, zs GE567.out⟩
   replace c39 := Bool.eq_false_iff.mpr c39
   subst c39
   have H1 : (if t571 = 0 then (laws_FnTriangles.l0 kj9 t568 0 t565 t566) else (some true)) = some r := by rw [if_neg (show ¬ (false = true) by decide)] at H; exact H
   clear H
   have H := H1
   clear H1
   by_cases c40 : t571 = 0
   rotate_left
   ·rw [if_neg c40] at H
    have c40b0 : (t571 == 0) = false := beq_eq_false_iff_ne.mpr c40
    have c40b1 : (t571 != 0) = true := bne_iff_ne.mpr c40
    obtain rfl := Option.some.inj H
    go_wp2
    repeat (go_quiet (fail); try go_wp2)
    go_ret
    exact ⟨zw, zs GE567.out⟩
   rw [if_pos c40] at H
   have c40b0 : (t571 == 0) = true := beq_iff_eq.mpr c40
   have c40b1 : (t571 != 0) = false := bne_eq_false_iff_eq.mpr c40
   clear c40
   have H' := aM H
   clear H
   go_wp2
   repeat (go_quiet (fail); try go_wp2)
   go_loopg [15] kj9 (fun kq v15 w' => ∃ (x15_2 : Int), v15 = .int .i64 x15_2 ∧ Aside0 (laws_FnTriangles.l0 kq t568 x15_2 t565 t566 = some r) ∧ Aside0 (kq ≤ kj9) ∧ Aside0 (Kd.R k25 25 w' w.heap.size (fun k_ => k_ ≠ gb567) v569 t568) ∧ Aside0 (w'.heap[gb567]? = some (.cells #[.int .i64 t565, .int .i64 t566] 25 (0, 0))) ∧ Aside0 (Below w.heap.size w w'))
   case atStart => exact ⟨(0), zr, H', ⟨Nat.le_refl _⟩, ⟨mR_ HO_4.out⟩, ⟨mB_ BK567.out⟩, ⟨zs GE567.out⟩⟩
   case round =>
    clear H'
    try clear c2
    try clear p2
    try clear c3
    try clear c4
    try clear c20
    try clear c20b0
    try clear c20b1
    try clear c22
    try clear c23
    try clear c23b0
    try clear c23b1
    try clear c24
    try clear c24b0
    try clear c24b1
    try clear c25
    try clear c25b0
    try clear c25b1
    try clear c39
    try clear c40
    try clear c40b0
    try clear c40b1
    try clear hcz13_0
    try clear hcz13_1
    try clear hcz15_0
    try clear hcz15_1
    try clear hcz29_0
    try clear hcz29_1
    try clear hfz13_0
    try clear hfz13_1
    try clear hfz15_0
    try clear hfz15_1
    try clear hfz29_0
    try clear hfz29_1
    try clear p2
    obtain ⟨x15_2, rfl, HA, HK2, HO_4, BK567, HB⟩ := hrel
    cases gk with
    | zero => exact absurd HA.out (by simp [laws_FnTriangles.l0])
    | succ k2 =>
     have H := HA.out
     clear HA
     simp only [laws_FnTriangles.l0] at H
     by_cases c41 : x15_2 < (t568.length : Int)
     rotate_left
     ·rw [if_neg c41] at H
      have c41b0 : decide (x15_2 < (t568.length : Int)) = false := decide_eq_false c41
      clear c41
      obtain rfl := Option.some.inj H
      obtain ⟨Ao76, co76, eo76⟩ := Kd.R_slice HO_4.out
      subst eo76
      go_wp2
      repeat (go_quiet (fail); try go_wp2)
      go_ret
      exact ⟨zw, zs GE567.out⟩
     rw [if_pos c41] at H
     have c41b0 : decide (x15_2 < (t568.length : Int)) = true := decide_eq_true c41
     clear c41
     by_cases c42 : 0 ≤ x15_2
     rotate_left
     ·rw [if_neg c42] at H
      exact absurd H (by simp)
     rw [if_pos c42] at H
     have c42b0 : decide (0 ≤ x15_2) = true := decide_eq_true c42
     clear c42
     replace H := Option.bind_eq_some_iff.mp H
     obtain ⟨⟨t586, t589⟩, A430, H⟩ := H
     replace H : (if t589 = 0 then (laws_FnTriangles.l1 k2 t568 x15_2 t586 false 0 t565 t566) else ((impl_IsTriangle.f ((rd_T25 t568 x15_2).f0) ((rd_T25 t568 x15_2).f1)).bind fun t591 => (if t591 = true then (some false) else (if ((rd_T25 t568 x15_2).f0) > 100 then (some true) else (if ((rd_T25 t568 x15_2).f0) < (-100) then (some true) else (if ((rd_T25 t568 x15_2).f1) > 100 then (some true) else (some (decide (((rd_T25 t568 x15_2).f1) < (-100)))))))))) = some r := H
     have A43 := aM A430
     clear A430
     by_cases c44 : t589 = 0
     rotate_left
     ·rw [if_neg c44] at H
      have c44b0 : (t589 == 0) = false := beq_eq_false_iff_ne.mpr c44
      have c44b1 : (t589 != 0) = true := bne_iff_ne.mpr c44
      replace H := Option.bind_eq_some_iff.mp H
      obtain ⟨t591, A560, H⟩ := H
      replace H : (if t591 = true then (some false) else (if ((rd_T25 t568 x15_2).f0) > 100 then (some true) else (if ((rd_T25 t568 x15_2).f0) < (-100) then (some true) else (if ((rd_T25 t568 x15_2).f1) > 100 then (some true) else (some (decide (((rd_T25 t568 x15_2).f1) < (-100)))))))) = some r := H
      have A56 := aM A560
      clear A560
      by_cases c57 : t591 = true
      ·subst c57
       have H1 : (some false) = some r := by rw [if_pos rfl] at H; exact H
       clear H
       have H := H1
       clear H1
       obtain rfl := Option.some.inj H
       obtain ⟨Ao58, co58, eo58⟩ := Kd.R_slice HO_4.out
       subst eo58
       have p585 : 0 ≤ (x15_2 : Int) := of_decide_eq_true za
       have q585 : x15_2 < (t568.length : Int) := of_decide_eq_true za
       obtain ⟨ad585, e585, hx585_0, hx585_1⟩ := at_T25 (Kd.R_reads' HO_4.out).2.2 x15_2 p585 q585
       cases e585
       replace p585 := eq_true p585
       replace q585 := eq_true q585
       go_wp2_with (first | (go_at_call 6; (with_reducible refine (impl_TrianglesAround.calls ((rd_T25 t568 x15_2).f0) ((rd_T25 t568 x15_2).f1) t586 t589 _ A43.out).mono ?_); rintro e w59 ⟨v587, rfl, ho0, hb⟩; have n0_ := aM (Kd.R_elder' (mR_ HO_4.out) (Kd.R_base ho0) hb); have n1_ := aM (Kd.R_lower (Kd.R_newB (Kd.R_new' ho0 (Kd.R_lt (mR_ HO_4.out))) (g := gb567) (o := .cells #[.int .i64 t565, .int .i64 t566] 25 (0, 0)) (mB_ BK567.out)) (below_size (zs GE567.out))); have n2_ := aM (blk_below (g := gb567) (o := .cells #[.int .i64 t565, .int .i64 t566] 25 (0, 0)) (mB_ BK567.out) hb); have n3_ := aM (below_step (zs GE567.out) hb); clear HO_4; clear BK567; clear HB; have HO_4 := n0_; have HO588 := n1_; have BK567 := n2_; have HB := n3_; clear n0_ n1_ n2_ n3_; (try clear hb); (try clear hb2); (try clear hk); (try clear hi); (try clear ho0); have p590 : 0 ≤ (x15_2 : Int) := of_decide_eq_true za; have q590 : x15_2 < (t568.length : Int) := of_decide_eq_true za; obtain ⟨ad590, e590, hx590_0, hx590_1⟩ := at_T25 (Kd.R_reads' HO_4.out).2.2 x15_2 p590 q590; obtain rfl : ad585 = ad590 := (by injection e590); replace p590 := eq_true p590; replace q590 := eq_true q590) | (go_at_call 12; (with_reducible refine (impl_IsTriangle.calls ((rd_T25 t568 x15_2).f0) ((rd_T25 t568 x15_2).f1) true _ A56.out).mono ?_); rintro e w60 ⟨rfl, hb⟩; have n0_ := aM (Kd.R_below (mR_ HO_4.out) hb); have n1_ := aM (Kd.R_below (mR_ HO588.out) hb); have n2_ := aM (blk_below (g := gb567) (o := .cells #[.int .i64 t565, .int .i64 t566] 25 (0, 0)) (mB_ BK567.out) hb); have n3_ := aM (below_step (zs GE567.out) hb); clear HO_4; clear HO588; clear BK567; clear HB; have HO_4 := n0_; have HO588 := n1_; have BK567 := n2_; have HB := n3_; clear n0_ n1_ n2_ n3_; (try clear hb); (try clear hb2); (try clear hk); (try clear hi)))
       repeat (go_quiet (first | (go_at_call 6; (try simp only [i64_w]); (with_reducible refine (impl_TrianglesAround.calls ((rd_T25 t568 x15_2).f0) ((rd_T25 t568 x15_2).f1) t586 t589 _ A43.out).mono ?_); rintro e w59 ⟨v587, rfl, ho0, hb⟩; have n0_ := aM (Kd.R_elder' (mR_ HO_4.out) (Kd.R_base ho0) hb); have n1_ := aM (Kd.R_lower (Kd.R_newB (Kd.R_new' ho0 (Kd.R_lt (mR_ HO_4.out))) (g := gb567) (o := .cells #[.int .i64 t565, .int .i64 t566] 25 (0, 0)) (mB_ BK567.out)) (below_size (zs GE567.out))); have n2_ := aM (blk_below (g := gb567) (o := .cells #[.int .i64 t565, .int .i64 t566] 25 (0, 0)) (mB_ BK567.out) hb); have n3_ := aM (below_step (zs GE567.out) hb); clear HO_4; clear BK567; clear HB; have HO_4 := n0_; have HO588 := n1_; have BK567 := n2_; have HB := n3_; clear n0_ n1_ n2_ n3_; (try clear hb); (try clear hb2); (try clear hk); (try clear hi); (try clear ho0); have p590 : 0 ≤ (x15_2 : Int) := of_decide_eq_true za; have q590 : x15_2 < (t568.length : Int) := of_decide_eq_true za; obtain ⟨ad590, e590, hx590_0, hx590_1⟩ := at_T25 (Kd.R_reads' HO_4.out).2.2 x15_2 p590 q590; obtain rfl : ad585 = ad590 := (by injection e590); replace p590 := eq_true p590; replace q590 := eq_true q590) | (go_at_call 12; (try simp only [i64_w]); (with_reducible refine (impl_IsTriangle.calls ((rd_T25 t568 x15_2).f0) ((rd_T25 t568 x15_2).f1) true _ A56.out).mono ?_); rintro e w60 ⟨rfl, hb⟩; have n0_ := aM (Kd.R_below (mR_ HO_4.out) hb); have n1_ := aM (Kd.R_below (mR_ HO588.out) hb); have n2_ := aM (blk_below (g := gb567) (o := .cells #[.int .i64 t565, .int .i64 t566] 25 (0, 0)) (mB_ BK567.out) hb); have n3_ := aM (below_step (zs GE567.out) hb); clear HO_4; clear HO588; clear BK567; clear HB; have HO_4 := n0_; have HO588 := n1_; have BK567 := n2_; have HB := n3_; clear n0_ n1_ n2_ n3_; (try clear hb); (try clear hb2); (try clear hk); (try clear hi))); try go_wp2_with (first | (go_at_call 6; (try simp only [i64_w]); (with_reducible refine (impl_TrianglesAround.calls ((rd_T25 t568 x15_2).f0) ((rd_T25 t568 x15_2).f1) t586 t589 _ A43.out).mono ?_); rintro e w59 ⟨v587, rfl, ho0, hb⟩; have n0_ := aM (Kd.R_elder' (mR_ HO_4.out) (Kd.R_base ho0) hb); have n1_ := aM (Kd.R_lower (Kd.R_newB (Kd.R_new' ho0 (Kd.R_lt (mR_ HO_4.out))) (g := gb567) (o := .cells #[.int .i64 t565, .int .i64 t566] 25 (0, 0)) (mB_ BK567.out)) (below_size (zs GE567.out))); have n2_ := aM (blk_below (g := gb567) (o := .cells #[.int .i64 t565, .int .i64 t566] 25 (0, 0)) (mB_ BK567.out) hb); have n3_ := aM (below_step (zs GE567.out) hb); clear HO_4; clear BK567; clear HB; have HO_4 := n0_; have HO588 := n1_; have BK567 := n2_; have HB := n3_; clear n0_ n1_ n2_ n3_; (try clear hb); (try clear hb2); (try clear hk); (try clear hi); (try clear ho0); have p590 : 0 ≤ (x15_2 : Int) := of_decide_eq_true za; have q590 : x15_2 < (t568.length : Int) := of_decide_eq_true za; obtain ⟨ad590, e590, hx590_0, hx590_1⟩ := at_T25 (Kd.R_reads' HO_4.out).2.2 x15_2 p590 q590; obtain rfl : ad585 = ad590 := (by injection e590); replace p590 := eq_true p590; replace q590 := eq_true q590) | (go_at_call 12; (try simp only [i64_w]); (with_reducible refine (impl_IsTriangle.calls ((rd_T25 t568 x15_2).f0) ((rd_T25 t568 x15_2).f1) true _ A56.out).mono ?_); rintro e w60 ⟨rfl, hb⟩; have n0_ := aM (Kd.R_below (mR_ HO_4.out) hb); have n1_ := aM (Kd.R_below (mR_ HO588.out) hb); have n2_ := aM (blk_below (g := gb567) (o := .cells #[.int .i64 t565, .int .i64 t566] 25 (0, 0)) (mB_ BK567.out) hb); have n3_ := aM (below_step (zs GE567.out) hb); clear HO_4; clear HO588; clear BK567; clear HB; have HO_4 := n0_; have HO588 := n1_; have BK567 := n2_; have HB := n3_; clear n0_ n1_ n2_ n3_; (try clear hb); (try clear hb2); (try clear hk); (try clear hi))))
       go_ret
       exact ⟨zw, zs GE567.out⟩
      replace c57 := Bool.eq_false_iff.mpr c57
      subst c57
      have H1 : (if ((rd_T25 t568 x15_2).f0) > 100 then (some true) else (if ((rd_T25 t568 x15_2).f0) < (-100) then (some true) else (if ((rd_T25 t568 x15_2).f1) > 100 then (some true) else (some (decide (((rd_T25 t568 x15_2).f1) < (-100))))))) = some r := by rw [if_neg (show ¬ (false = true) by decide)] at H; exact H
      clear H
      have H := H1
      clear H1
      by_cases c61 : ((rd_T25 t568 x15_2).f0) > 100
      ·rw [if_pos c61] at H
       have c61b0 : decide (100 < ((rd_T25 t568 x15_2).f0)) = true := decide_eq_true c61
       clear c61
       obtain rfl := Option.some.inj H
       obtain ⟨Ao62, co62, eo62⟩ := Kd.R_slice HO_4.out
       subst eo62
       have p585 : 0 ≤ (x15_2 : Int) := of_decide_eq_true za
       have q585 : x15_2 < (t568.length : Int) := of_decide_eq_true za
       obtain ⟨ad585, e585, hx585_0, hx585_1⟩ := at_T25 (Kd.R_reads' HO_4.out).2.2 x15_2 p585 q585
       cases e585
       replace p585 := eq_true p585
       replace q585 := eq_true q585
       go_wp2_with (first | (go_at_call 6; (with_reducible refine (impl_TrianglesAround.calls ((rd_T25 t568 x15_2).f0) ((rd_T25 t568 x15_2).f1) t586 t589 _ A43.out).mono ?_); rintro e w63 ⟨v587, rfl, ho0, hb⟩; have n0_ := aM (Kd.R_elder' (mR_ HO_4.out) (Kd.R_base ho0) hb); have n1_ := aM (Kd.R_lower (Kd.R_newB (Kd.R_new' ho0 (Kd.R_lt (mR_ HO_4.out))) (g := gb567) (o := .cells #[.int .i64 t565, .int .i64 t566] 25 (0, 0)) (mB_ BK567.out)) (below_size (zs GE567.out))); have n2_ := aM (blk_below (g := gb567) (o := .cells #[.int .i64 t565, .int .i64 t566] 25 (0, 0)) (mB_ BK567.out) hb); have n3_ := aM (below_step (zs GE567.out) hb); clear HO_4; clear BK567; clear HB; have HO_4 := n0_; have HO588 := n1_; have BK567 := n2_; have HB := n3_; clear n0_ n1_ n2_ n3_; (try clear hb); (try clear hb2); (try clear hk); (try clear hi); (try clear ho0); have p590 : 0 ≤ (x15_2 : Int) := of_decide_eq_true za; have q590 : x15_2 < (t568.length : Int) := of_decide_eq_true za; obtain ⟨ad590, e590, hx590_0, hx590_1⟩ := at_T25 (Kd.R_reads' HO_4.out).2.2 x15_2 p590 q590; obtain rfl : ad585 = ad590 := (by injection e590); replace p590 := eq_true p590; replace q590 := eq_true q590) | (go_at_call 12; (with_reducible refine (impl_IsTriangle.calls ((rd_T25 t568 x15_2).f0) ((rd_T25 t568 x15_2).f1) false _ A56.out).mono ?_); rintro e w64 ⟨rfl, hb⟩; have n0_ := aM (Kd.R_below (mR_ HO_4.out) hb); have n1_ := aM (Kd.R_below (mR_ HO588.out) hb); have n2_ := aM (blk_below (g := gb567) (o := .cells #[.int .i64 t565, .int .i64 t566] 25 (0, 0)) (mB_ BK567.out) hb); have n3_ := aM (below_step (zs GE567.out) hb); clear HO_4; clear HO588; clear BK567; clear HB; have HO_4 := n0_; have HO588 := n1_; have BK567 := n2_; have HB := n3_; clear n0_ n1_ n2_ n3_; (try clear hb); (try clear hb2); (try clear hk); (try clear hi); have p592 : 0 ≤ (x15_2 : Int) := of_decide_eq_true za; have q592 : x15_2 < (t568.length : Int) := of_decide_eq_true za; obtain ⟨ad592, e592, hx592_0, hx592_1⟩ := at_T25 (Kd.R_reads' HO_4.out).2.2 x15_2 p592 q592; obtain rfl : ad585 = ad592 := (by injection e592); replace p592 := eq_true p592; replace q592 := eq_true q592))
       repeat (go_quiet (first | (go_at_call 6; (try simp only [i64_w]); (with_reducible refine (impl_TrianglesAround.calls ((rd_T25 t568 x15_2).f0) ((rd_T25 t568 x15_2).f1) t586 t589 _ A43.out).mono ?_); rintro e w63 ⟨v587, rfl, ho0, hb⟩; have n0_ := aM (Kd.R_elder' (mR_ HO_4.out) (Kd.R_base ho0) hb); have n1_ := aM (Kd.R_lower (Kd.R_newB (Kd.R_new' ho0 (Kd.R_lt (mR_ HO_4.out))) (g := gb567) (o := .cells #[.int .i64 t565, .int .i64 t566] 25 (0, 0)) (mB_ BK567.out)) (below_size (zs GE567.out))); have n2_ := aM (blk_below (g := gb567) (o := .cells #[.int .i64 t565, .int .i64 t566] 25 (0, 0)) (mB_ BK567.out) hb); have n3_ := aM (below_step (zs GE567.out) hb); clear HO_4; clear BK567; clear HB; have HO_4 := n0_; have HO588 := n1_; have BK567 := n2_; have HB := n3_; clear n0_ n1_ n2_ n3_; (try clear hb); (try clear hb2); (try clear hk); (try clear hi); (try clear ho0); have p590 : 0 ≤ (x15_2 : Int) := of_decide_eq_true za; have q590 : x15_2 < (t568.length : Int) := of_decide_eq_true za; obtain ⟨ad590, e590, hx590_0, hx590_1⟩ := at_T25 (Kd.R_reads' HO_4.out).2.2 x15_2 p590 q590; obtain rfl : ad585 = ad590 := (by injection e590); replace p590 := eq_true p590; replace q590 := eq_true q590) | (go_at_call 12; (try simp only [i64_w]); (with_reducible refine (impl_IsTriangle.calls ((rd_T25 t568 x15_2).f0) ((rd_T25 t568 x15_2).f1) false _ A56.out).mono ?_); rintro e w64 ⟨rfl, hb⟩; have n0_ := aM (Kd.R_below (mR_ HO_4.out) hb); have n1_ := aM (Kd.R_below (mR_ HO588.out) hb); have n2_ := aM (blk_below (g := gb567) (o := .cells #[.int .i64 t565, .int .i64 t566] 25 (0, 0)) (mB_ BK567.out) hb); have n3_ := aM (below_step (zs GE567.out) hb); clear HO_4; clear HO588; clear BK567; clear HB; have HO_4 := n0_; have HO588 := n1_; have BK567 := n2_; have HB := n3_; clear n0_ n1_ n2_ n3_; (try clear hb); (try clear hb2); (try clear hk); (try clear hi); have p592 : 0 ≤ (x15_2 : Int) := of_decide_eq_true za; have q592 : x15_2 < (t568.length : Int) := of_decide_eq_true za; obtain ⟨ad592, e592, hx592_0, hx592_1⟩ := at_T25 (Kd.R_reads' HO_4.out).2.2 x15_2 p592 q592; obtain rfl : ad585 = ad592 := (by injection e592); replace p592 := eq_true p592; replace q592 := eq_true q592)); try go_wp2_with (first | (go_at_call 6; (try simp only [i64_w]); (with_reducible refine (impl_TrianglesAround.calls ((rd_T25 t568 x15_2).f0) ((rd_T25 t568 x15_2).f1) t586 t589 _ A43.out).mono ?_); rintro e w63 ⟨v587, rfl, ho0, hb⟩; have n0_ := aM (Kd.R_elder' (mR_ HO_4.out) (Kd.R_base ho0) hb); have n1_ := aM (Kd.R_lower (Kd.R_newB (Kd.R_new' ho0 (Kd.R_lt (mR_ HO_4.out))) (g := gb567) (o := .cells #[.int .i64 t565, .int .i64 t566] 25 (0, 0)) (mB_ BK567.out)) (below_size (zs GE567.out))); have n2_ := aM (blk_below (g := gb567) (o := .cells #[.int .i64 t565, .int .i64 t566] 25 (0, 0)) (mB_ BK567.out) hb); have n3_ := aM (below_step (zs GE567.out) hb); clear HO_4; clear BK567; clear HB; have HO_4 := n0_; have HO588 := n1_; have BK567 := n2_; have HB := n3_; clear n0_ n1_ n2_ n3_; (try clear hb); (try clear hb2); (try clear hk); (try clear hi); (try clear ho0); have p590 : 0 ≤ (x15_2 : Int) := of_decide_eq_true za; have q590 : x15_2 < (t568.length : Int) := of_decide_eq_true za; obtain ⟨ad590, e590, hx590_0, hx590_1⟩ := at_T25 (Kd.R_reads' HO_4.out).2.2 x15_2 p590 q590; obtain rfl : ad585 = ad590 := (by injection e590); replace p590 := eq_true p590; replace q590 := eq_true q590) | (go_at_call 12; (try simp only [i64_w]); (with_reducible refine (impl_IsTriangle.calls ((rd_T25 t568 x15_2).f0) ((rd_T25 t568 x15_2).f1) false _ A56.out).mono ?_); rintro e w64 ⟨rfl, hb⟩; have n0_ := aM (Kd.R_below (mR_ HO_4.out) hb); have n1_ := aM (Kd.R_below (mR_ HO588.out) hb); have n2_ := aM (blk_below (g := gb567) (o := .cells #[.int .i64 t565, .int .i64 t566] 25 (0, 0)) (mB_ BK567.out) hb); have n3_ := aM (below_step (zs GE567.out) hb); clear HO_4; clear HO588; clear BK567; clear HB; have HO_4 := n0_; have HO588 := n1_; have BK567 := n2_; have HB := n3_; clear n0_ n1_ n2_ n3_; (try clear hb); (try clear hb2); (try clear hk); (try clear hi); have p592 : 0 ≤ (x15_2 : Int) := of_decide_eq_true za; have q592 : x15_2 < (t568.length : Int) := of_decide_eq_true za; obtain ⟨ad592, e592, hx592_0, hx592_1⟩ := at_T25 (Kd.R_reads' HO_4.out).2.2 x15_2 p592 q592; obtain rfl : ad585 = ad592 := (by injection e592); replace p592 := eq_true p592; replace q592 := eq_true q592)))
       go_ret
       exact ⟨zw, zs GE567.out⟩
      rw [if_neg c61] at H
      have c61b0 : decide (100 < ((rd_T25 t568 x15_2).f0)) = false := decide_eq_false c61
      clear c61
      by_cases c65 : ((rd_T25 t568 x15_2).f0) < (-100)
      ·rw [if_pos c65] at H
       have c65b0 : decide (((rd_T25 t568 x15_2).f0) < (-100)) = true := decide_eq_true c65
       clear c65
       obtain rfl := Option.some.inj H
       obtain ⟨Ao66, co66, eo66⟩ := Kd.R_slice HO_4.out
       subst eo66
       have p585 : 0 ≤ (x15_2 : Int) := of_decide_eq_true za
       have q585 : x15_2 < (t568.length : Int) := of_decide_eq_true za
       obtain ⟨ad585, e585, hx585_0, hx585_1⟩ := at_T25 (Kd.R_reads' HO_4.out).2.2 x15_2 p585 q585
       cases e585
       replace p585 := eq_true p585
       replace q585 := eq_true q585
       go_wp2_with (first | (go_at_call 6; (with_reducible refine (impl_TrianglesAround.calls ((rd_T25 t568 x15_2).f0) ((rd_T25 t568 x15_2).f1) t586 t589 _ A43.out).mono ?_); rintro e w67 ⟨v587, rfl, ho0, hb⟩; have n0_ := aM (Kd.R_elder' (mR_ HO_4.out) (Kd.R_base ho0) hb); have n1_ := aM (Kd.R_lower (Kd.R_newB (Kd.R_new' ho0 (Kd.R_lt (mR_ HO_4.out))) (g := gb567) (o := .cells #[.int .i64 t565, .int .i64 t566] 25 (0, 0)) (mB_ BK567.out)) (below_size (zs GE567.out))); have n2_ := aM (blk_below (g := gb567) (o := .cells #[.int .i64 t565, .int .i64 t566] 25 (0, 0)) (mB_ BK567.out) hb); have n3_ := aM (below_step (zs GE567.out) hb); clear HO_4; clear BK567; clear HB; have HO_4 := n0_; have HO588 := n1_; have BK567 := n2_; have HB := n3_; clear n0_ n1_ n2_ n3_; (try clear hb); (try clear hb2); (try clear hk); (try clear hi); (try clear ho0); have p590 : 0 ≤ (x15_2 : Int) := of_decide_eq_true za; have q590 : x15_2 < (t568.length : Int) := of_decide_eq_true za; obtain ⟨ad590, e590, hx590_0, hx590_1⟩ := at_T25 (Kd.R_reads' HO_4.out).2.2 x15_2 p590 q590; obtain rfl : ad585 = ad590 := (by injection e590); replace p590 := eq_true p590; replace q590 := eq_true q590) | (go_at_call 12; (with_reducible refine (impl_IsTriangle.calls ((rd_T25 t568 x15_2).f0) ((rd_T25 t568 x15_2).f1) false _ A56.out).mono ?_); rintro e w68 ⟨rfl, hb⟩; have n0_ := aM (Kd.R_below (mR_ HO_4.out) hb); have n1_ := aM (Kd.R_below (mR_ HO588.out) hb); have n2_ := aM (blk_below (g := gb567) (o := .cells #[.int .i64 t565, .int .i64 t566] 25 (0, 0)) (mB_ BK567.out) hb); have n3_ := aM (below_step (zs GE567.out) hb); clear HO_4; clear HO588; clear BK567; clear HB; have HO_4 := n0_; have HO588 := n1_; have BK567 := n2_; have HB := n3_; clear n0_ n1_ n2_ n3_; (try clear hb); (try clear hb2); (try clear hk); (try clear hi); have p592 : 0 ≤ (x15_2 : Int) := of_decide_eq_true za; have q592 : x15_2 < (t568.length : Int) := of_decide_eq_true za; obtain ⟨ad592, e592, hx592_0, hx592_1⟩ := at_T25 (Kd.R_reads' HO_4.out).2.2 x15_2 p592 q592; obtain rfl : ad585 = ad592 := (by injection e592); replace p592 := eq_true p592; replace q592 := eq_true q592; have p593 : 0 ≤ (x15_2 : Int) := of_decide_eq_true za; have q593 : x15_2 < (t568.length : Int) := of_decide_eq_true za; obtain ⟨ad593, e593, hx593_0, hx593_1⟩ := at_T25 (Kd.R_reads' HO_4.out).2.2 x15_2 p593 q593; obtain rfl : ad585 = ad593 := (by injection e593); replace p593 := eq_true p593; replace q593 := eq_true q593))
       repeat (go_quiet (first | (go_at_call 6; (try simp only [i64_w]); (with_reducible refine (impl_TrianglesAround.calls ((rd_T25 t568 x15_2).f0) ((rd_T25 t568 x15_2).f1) t586 t589 _ A43.out).mono ?_); rintro e w67 ⟨v587, rfl, ho0, hb⟩; have n0_ := aM (Kd.R_elder' (mR_ HO_4.out) (Kd.R_base ho0) hb); have n1_ := aM (Kd.R_lower (Kd.R_newB (Kd.R_new' ho0 (Kd.R_lt (mR_ HO_4.out))) (g := gb567) (o := .cells #[.int .i64 t565, .int .i64 t566] 25 (0, 0)) (mB_ BK567.out)) (below_size (zs GE567.out))); have n2_ := aM (blk_below (g := gb567) (o := .cells #[.int .i64 t565, .int .i64 t566] 25 (0, 0)) (mB_ BK567.out) hb); have n3_ := aM (below_step (zs GE567.out) hb); clear HO_4; clear BK567; clear HB; have HO_4 := n0_; have HO588 := n1_; have BK567 := n2_; have HB := n3_; clear n0_ n1_ n2_ n3_; (try clear hb); (try clear hb2); (try clear hk); (try clear hi); (try clear ho0); have p590 : 0 ≤ (x15_2 : Int) := of_decide_eq_true za; have q590 : x15_2 < (t568.length : Int) := of_decide_eq_true za; obtain ⟨ad590, e590, hx590_0, hx590_1⟩ := at_T25 (Kd.R_reads' HO_4.out).2.2 x15_2 p590 q590; obtain rfl : ad585 = ad590 := (by injection e590); replace p590 := eq_true p590; replace q590 := eq_true q590) | (go_at_call 12; (try simp only [i64_w]); (with_reducible refine (impl_IsTriangle.calls ((rd_T25 t568 x15_2).f0) ((rd_T25 t568 x15_2).f1) false _ A56.out).mono ?_); rintro e w68 ⟨rfl, hb⟩; have n0_ := aM (Kd.R_below (mR_ HO_4.out) hb); have n1_ := aM (Kd.R_below (mR_ HO588.out) hb); have n2_ := aM (blk_below (g := gb567) (o := .cells #[.int .i64 t565, .int .i64 t566] 25 (0, 0)) (mB_ BK567.out) hb); have n3_ := aM (below_step (zs GE567.out) hb); clear HO_4; clear HO588; clear BK567; clear HB; have HO_4 := n0_; have HO588 := n1_; have BK567 := n2_; have HB := n3_; clear n0_ n1_ n2_ n3_; (try clear hb); (try clear hb2); (try clear hk); (try clear hi); have p592 : 0 ≤ (x15_2 : Int) := of_decide_eq_true za; have q592 : x15_2 < (t568.length : Int) := of_decide_eq_true za; obtain ⟨ad592, e592, hx592_0, hx592_1⟩ := at_T25 (Kd.R_reads' HO_4.out).2.2 x15_2 p592 q592; obtain rfl : ad585 = ad592 := (by injection e592); replace p592 := eq_true p592; replace q592 := eq_true q592; have p593 : 0 ≤ (x15_2 : Int) := of_decide_eq_true za; have q593 : x15_2 < (t568.length : Int) := of_decide_eq_true za; obtain ⟨ad593, e593, hx593_0, hx593_1⟩ := at_T25 (Kd.R_reads' HO_4.out).2.2 x15_2 p593 q593; obtain rfl : ad585 = ad593 := (by injection e593); replace p593 := eq_true p593; replace q593 := eq_true q593)); try go_wp2_with (first | (go_at_call 6; (try simp only [i64_w]); (with_reducible refine (impl_TrianglesAround.calls ((rd_T25 t568 x15_2).f0) ((rd_T25 t568 x15_2).f1) t586 t589 _ A43.out).mono ?_); rintro e w67 ⟨v587, rfl, ho0, hb⟩; have n0_ := aM (Kd.R_elder' (mR_ HO_4.out) (Kd.R_base ho0) hb); have n1_ := aM (Kd.R_lower (Kd.R_newB (Kd.R_new' ho0 (Kd.R_lt (mR_ HO_4.out))) (g := gb567) (o := .cells #[.int .i64 t565, .int .i64 t566] 25 (0, 0)) (mB_ BK567.out)) (below_size (zs GE567.out))); have n2_ := aM (blk_below (g := gb567) (o := .cells #[.int .i64 t565, .int .i64 t566] 25 (0, 0)) (mB_ BK567.out) hb); have n3_ := aM (below_step (zs GE567.out) hb); clear HO_4; clear BK567; clear HB; have HO_4 := n0_; have HO588 := n1_; have BK567 := n2_; have HB := n3_; clear n0_ n1_ n2_ n3_; (try clear hb); (try clear hb2); (try clear hk); (try clear hi); (try clear ho0); have p590 : 0 ≤ (x15_2 : Int) := of_decide_eq_true za; have q590 : x15_2 < (t568.length : Int) := of_decide_eq_true za; obtain ⟨ad590, e590, hx590_0, hx590_1⟩ := at_T25 (Kd.R_reads' HO_4.out).2.2 x15_2 p590 q590; obtain rfl : ad585 = ad590 := (by injection e590); replace p590 := eq_true p590; replace q590 := eq_true q590) | (go_at_call 12; (try simp only [i64_w]); (with_reducible refine (impl_IsTriangle.calls ((rd_T25 t568 x15_2).f0) ((rd_T25 t568 x15_2).f1) false _ A56.out).mono ?_); rintro e w68 ⟨rfl, hb⟩; have n0_ := aM (Kd.R_below (mR_ HO_4.out) hb); have n1_ := aM (Kd.R_below (mR_ HO588.out) hb); have n2_ := aM (blk_below (g := gb567) (o := .cells #[.int .i64 t565, .int .i64 t566] 25 (0, 0)) (mB_ BK567.out) hb); have n3_ := aM (below_step (zs GE567.out) hb); clear HO_4; clear HO588; clear BK567; clear HB; have HO_4 := n0_; have HO588 := n1_; have BK567 := n2_; have HB := n3_; clear n0_ n1_ n2_ n3_; (try clear hb); (try clear hb2); (try clear hk); (try clear hi); have p592 : 0 ≤ (x15_2 : Int) := of_decide_eq_true za; have q592 : x15_2 < (t568.length : Int) := of_decide_eq_true za; obtain ⟨ad592, e592, hx592_0, hx592_1⟩ := at_T25 (Kd.R_reads' HO_4.out).2.2 x15_2 p592 q592; obtain rfl : ad585 = ad592 := (by injection e592); replace p592 := eq_true p592; replace q592 := eq_true q592; have p593 : 0 ≤ (x15_2 : Int) := of_decide_eq_true za; have q593 : x15_2 < (t568.length : Int) := of_decide_eq_true za; obtain ⟨ad593, e593, hx593_0, hx593_1⟩ := at_T25 (Kd.R_reads' HO_4.out).2.2 x15_2 p593 q593; obtain rfl : ad585 = ad593 := (by injection e593); replace p593 := eq_true p593; replace q593 := eq_true q593)))
       go_ret
       exact ⟨zw, zs GE567.out⟩
      rw [if_neg c65] at H
      have c65b0 : decide (((rd_T25 t568 x15_2).f0) < (-100)) = false := decide_eq_false c65
      clear c65
      by_cases c69 : ((rd_T25 t568 x15_2).f1) > 100
      ·rw [if_pos c69] at H
       have c69b0 : decide (100 < ((rd_T25 t568 x15_2).f1)) = true := decide_eq_true c69
       clear c69
       obtain rfl := Option.some.inj H
       obtain ⟨Ao70, co70, eo70⟩ := Kd.R_slice HO_4.out
       subst eo70
       have p585 : 0 ≤ (x15_2 : Int) := of_decide_eq_true za
       have q585 : x15_2 < (t568.length : Int) := of_decide_eq_true za
       obtain ⟨ad585, e585, hx585_0, hx585_1⟩ := at_T25 (Kd.R_reads' HO_4.out).2.2 x15_2 p585 q585
       cases e585
       replace p585 := eq_true p585
       replace q585 := eq_true q585
       go_wp2_with (first | (go_at_call 6; (with_reducible refine (impl_TrianglesAround.calls ((rd_T25 t568 x15_2).f0) ((rd_T25 t568 x15_2).f1) t586 t589 _ A43.out).mono ?_); rintro e w71 ⟨v587, rfl, ho0, hb⟩; have n0_ := aM (Kd.R_elder' (mR_ HO_4.out) (Kd.R_base ho0) hb); have n1_ := aM (Kd.R_lower (Kd.R_newB (Kd.R_new' ho0 (Kd.R_lt (mR_ HO_4.out))) (g := gb567) (o := .cells #[.int .i64 t565, .int .i64 t566] 25 (0, 0)) (mB_ BK567.out)) (below_size (zs GE567.out))); have n2_ := aM (blk_below (g := gb567) (o := .cells #[.int .i64 t565, .int .i64 t566] 25 (0, 0)) (mB_ BK567.out) hb); have n3_ := aM (below_step (zs GE567.out) hb); clear HO_4; clear BK567; clear HB; have HO_4 := n0_; have HO588 := n1_; have BK567 := n2_; have HB := n3_; clear n0_ n1_ n2_ n3_; (try clear hb); (try clear hb2); (try clear hk); (try clear hi); (try clear ho0); have p590 : 0 ≤ (x15_2 : Int) := of_decide_eq_true za; have q590 : x15_2 < (t568.length : Int) := of_decide_eq_true za; obtain ⟨ad590, e590, hx590_0, hx590_1⟩ := at_T25 (Kd.R_reads' HO_4.out).2.2 x15_2 p590 q590; obtain rfl : ad585 = ad590 := (by injection e590); replace p590 := eq_true p590; replace q590 := eq_true q590) | (go_at_call 12; (with_reducible refine (impl_IsTriangle.calls ((rd_T25 t568 x15_2).f0) ((rd_T25 t568 x15_2).f1) false _ A56.out).mono ?_); rintro e w72 ⟨rfl, hb⟩; have n0_ := aM (Kd.R_below (mR_ HO_4.out) hb); have n1_ := aM (Kd.R_below (mR_ HO588.out) hb); have n2_ := aM (blk_below (g := gb567) (o := .cells #[.int .i64 t565, .int .i64 t566] 25 (0, 0)) (mB_ BK567.out) hb); have n3_ := aM (below_step (zs GE567.out) hb); clear HO_4; clear HO588; clear BK567; clear HB; have HO_4 := n0_; have HO588 := n1_; have BK567 := n2_; have HB := n3_; clear n0_ n1_ n2_ n3_; (try clear hb); (try clear hb2); (try clear hk); (try clear hi); have p592 : 0 ≤ (x15_2 : Int) := of_decide_eq_true za; have q592 : x15_2 < (t568.length : Int) := of_decide_eq_true za; obtain ⟨ad592, e592, hx592_0, hx592_1⟩ := at_T25 (Kd.R_reads' HO_4.out).2.2 x15_2 p592 q592; obtain rfl : ad585 = ad592 := (by injection e592); replace p592 := eq_true p592; replace q592 := eq_true q592; have p593 : 0 ≤ (x15_2 : Int) := of_decide_eq_true za; have q593 : x15_2 < (t568.length : Int) := of_decide_eq_true za; obtain ⟨ad593, e593, hx593_0, hx593_1⟩ := at_T25 (Kd.R_reads' HO_4.out).2.2 x15_2 p593 q593; obtain rfl : ad585 = ad593 := (by injection e593); replace p593 := eq_true p593; replace q593 := eq_true q593; have p594 : 0 ≤ (x15_2 : Int) := of_decide_eq_true za; have q594 : x15_2 < (t568.length : Int) := of_decide_eq_true za; obtain ⟨ad594, e594, hx594_0, hx594_1⟩ := at_T25 (Kd.R_reads' HO_4.out).2.2 x15_2 p594 q594; obtain rfl : ad585 = ad594 := (by injection e594); replace p594 := eq_true p594; replace q594 := eq_true q594))
       repeat (go_quiet (first | (go_at_call 6; (try simp only [i64_w]); (with_reducible refine (impl_TrianglesAround.calls ((rd_T25 t568 x15_2).f0) ((rd_T25 t568 x15_2).f1) t586 t589 _ A43.out).mono ?_); rintro e w71 ⟨v587, rfl, ho0, hb⟩; have n0_ := aM (Kd.R_elder' (mR_ HO_4.out) (Kd.R_base ho0) hb); have n1_ := aM (Kd.R_lower (Kd.R_newB (Kd.R_new' ho0 (Kd.R_lt (mR_ HO_4.out))) (g := gb567) (o := .cells #[.int .i64 t565, .int .i64 t566] 25 (0, 0)) (mB_ BK567.out)) (below_size (zs GE567.out))); have n2_ := aM (blk_below (g := gb567) (o := .cells #[.int .i64 t565, .int .i64 t566] 25 (0, 0)) (mB_ BK567.out) hb); have n3_ := aM (below_step (zs GE567.out) hb); clear HO_4; clear BK567; clear HB; have HO_4 := n0_; have HO588 := n1_; have BK567 := n2_; have HB := n3_; clear n0_ n1_ n2_ n3_; (try clear hb); (try clear hb2); (try clear hk); (try clear hi); (try clear ho0); have p590 : 0 ≤ (x15_2 : Int) := of_decide_eq_true za; have q590 : x15_2 < (t568.length : Int) := of_decide_eq_true za; obtain ⟨ad590, e590, hx590_0, hx590_1⟩ := at_T25 (Kd.R_reads' HO_4.out).2.2 x15_2 p590 q590; obtain rfl : ad585 = ad590 := (by injection e590); replace p590 := eq_true p590; replace q590 := eq_true q590) | (go_at_call 12; (try simp only [i64_w]); (with_reducible refine (impl_IsTriangle.calls ((rd_T25 t568 x15_2).f0) ((rd_T25 t568 x15_2).f1) false _ A56.out).mono ?_); rintro e w72 ⟨rfl, hb⟩; have n0_ := aM (Kd.R_below (mR_ HO_4.out) hb); have n1_ := aM (Kd.R_below (mR_ HO588.out) hb); have n2_ := aM (blk_below (g := gb567) (o := .cells #[.int .i64 t565, .int .i64 t566] 25 (0, 0)) (mB_ BK567.out) hb); have n3_ := aM (below_step (zs GE567.out) hb); clear HO_4; clear HO588; clear BK567; clear HB; have HO_4 := n0_; have HO588 := n1_; have BK567 := n2_; have HB := n3_; clear n0_ n1_ n2_ n3_; (try clear hb); (try clear hb2); (try clear hk); (try clear hi); have p592 : 0 ≤ (x15_2 : Int) := of_decide_eq_true za; have q592 : x15_2 < (t568.length : Int) := of_decide_eq_true za; obtain ⟨ad592, e592, hx592_0, hx592_1⟩ := at_T25 (Kd.R_reads' HO_4.out).2.2 x15_2 p592 q592; obtain rfl : ad585 = ad592 := (by injection e592); replace p592 := eq_true p592; replace q592 := eq_true q592; have p593 : 0 ≤ (x15_2 : Int) := of_decide_eq_true za; have q593 : x15_2 < (t568.length : Int) := of_decide_eq_true za; obtain ⟨ad593, e593, hx593_0, hx593_1⟩ := at_T25 (Kd.R_reads' HO_4.out).2.2 x15_2 p593 q593; obtain rfl : ad585 = ad593 := (by injection e593); replace p593 := eq_true p593; replace q593 := eq_true q593; have p594 : 0 ≤ (x15_2 : Int) := of_decide_eq_true za; have q594 : x15_2 < (t568.length : Int) := of_decide_eq_true za; obtain ⟨ad594, e594, hx594_0, hx594_1⟩ := at_T25 (Kd.R_reads' HO_4.out).2.2 x15_2 p594 q594; obtain rfl : ad585 = ad594 := (by injection e594); replace p594 := eq_true p594; replace q594 := eq_true q594)); try go_wp2_with (first | (go_at_call 6; (try simp only [i64_w]); (with_reducible refine (impl_TrianglesAround.calls ((rd_T25 t568 x15_2).f0) ((rd_T25 t568 x15_2).f1) t586 t589 _ A43.out).mono ?_); rintro e w71 ⟨v587, rfl, ho0, hb⟩; have n0_ := aM (Kd.R_elder' (mR_ HO_4.out) (Kd.R_base ho0) hb); have n1_ := aM (Kd.R_lower (Kd.R_newB (Kd.R_new' ho0 (Kd.R_lt (mR_ HO_4.out))) (g := gb567) (o := .cells #[.int .i64 t565, .int .i64 t566] 25 (0, 0)) (mB_ BK567.out)) (below_size (zs GE567.out))); have n2_ := aM (blk_below (g := gb567) (o := .cells #[.int .i64 t565, .int .i64 t566] 25 (0, 0)) (mB_ BK567.out) hb); have n3_ := aM (below_step (zs GE567.out) hb); clear HO_4; clear BK567; clear HB; have HO_4 := n0_; have HO588 := n1_; have BK567 := n2_; have HB := n3_; clear n0_ n1_ n2_ n3_; (try clear hb); (try clear hb2); (try clear hk); (try clear hi); (try clear ho0); have p590 : 0 ≤ (x15_2 : Int) := of_decide_eq_true za; have q590 : x15_2 < (t568.length : Int) := of_decide_eq_true za; obtain ⟨ad590, e590, hx590_0, hx590_1⟩ := at_T25 (Kd.R_reads' HO_4.out).2.2 x15_2 p590 q590; obtain rfl : ad585 = ad590 := (by injection e590); replace p590 := eq_true p590; replace q590 := eq_true q590) | (go_at_call 12; (try simp only [i64_w]); (with_reducible refine (impl_IsTriangle.calls ((rd_T25 t568 x15_2).f0) ((rd_T25 t568 x15_2).f1) false _ A56.out).mono ?_); rintro e w72 ⟨rfl, hb⟩; have n0_ := aM (Kd.R_below (mR_ HO_4.out) hb); have n1_ := aM (Kd.R_below (mR_ HO588.out) hb); have n2_ := aM (blk_below (g := gb567) (o := .cells #[.int .i64 t565, .int .i64 t566] 25 (0, 0)) (mB_ BK567.out) hb); have n3_ := aM (below_step (zs GE567.out) hb); clear HO_4; clear HO588; clear BK567; clear HB; have HO_4 := n0_; have HO588 := n1_; have BK567 := n2_; have HB := n3_; clear n0_ n1_ n2_ n3_; (try clear hb); (try clear hb2); (try clear hk); (try clear hi); have p592 : 0 ≤ (x15_2 : Int) := of_decide_eq_true za; have q592 : x15_2 < (t568.length : Int) := of_decide_eq_true za; obtain ⟨ad592, e592, hx592_0, hx592_1⟩ := at_T25 (Kd.R_reads' HO_4.out).2.2 x15_2 p592 q592; obtain rfl : ad585 = ad592 := (by injection e592); replace p592 := eq_true p592; replace q592 := eq_true q592; have p593 : 0 ≤ (x15_2 : Int) := of_decide_eq_true za; have q593 : x15_2 < (t568.length : Int) := of_decide_eq_true za; obtain ⟨ad593, e593, hx593_0, hx593_1⟩ := at_T25 (Kd.R_reads' HO_4.out).2.2 x15_2 p593 q593; obtain rfl : ad585 = ad593 := (by injection e593); replace p593 := eq_true p593; replace q593 := eq_true q593; have p594 : 0 ≤ (x15_2 : Int) := of_decide_eq_true za; have q594 : x15_2 < (t568.length : Int) := of_decide_eq_true za; obtain ⟨ad594, e594, hx594_0, hx594_1⟩ := at_T25 (Kd.R_reads' HO_4.out).2.2 x15_2 p594 q594; obtain rfl : ad585 = ad594 := (by injection e594); replace p594 := eq_true p594; replace q594 := eq_true q594)))
       go_ret
       exact ⟨zw, zs GE567.out⟩
      rw [if_neg c69] at H
      have c69b0 : decide (100 < ((rd_T25 t568 x15_2).f1)) = false := decide_eq_false c69
      clear c69
      obtain rfl := Option.some.inj H
      obtain ⟨Ao73, co73, eo73⟩ := Kd.R_slice HO_4.out
      subst eo73
      have p585 : 0 ≤ (x15_2 : Int) := of_decide_eq_true za
      have q585 : x15_2 < (t568.length : Int) := of_decide_eq_true za
      obtain ⟨ad585, e585, hx585_0, hx585_1⟩ := at_T25 (Kd.R_reads' HO_4.out).2.2 x15_2 p585 q585
      cases e585
      replace p585 := eq_true p585
      replace q585 := eq_true q585
      go_wp2_with (first | (go_at_call 6; (with_reducible refine (impl_TrianglesAround.calls ((rd_T25 t568 x15_2).f0) ((rd_T25 t568 x15_2).f1) t586 t589 _ A43.out).mono ?_); rintro e w74 ⟨v587, rfl, ho0, hb⟩; have n0_ := aM (Kd.R_elder' (mR_ HO_4.out) (Kd.R_base ho0) hb); have n1_ := aM (Kd.R_lower (Kd.R_newB (Kd.R_new' ho0 (Kd.R_lt (mR_ HO_4.out))) (g := gb567) (o := .cells #[.int .i64 t565, .int .i64 t566] 25 (0, 0)) (mB_ BK567.out)) (below_size (zs GE567.out))); have n2_ := aM (blk_below (g := gb567) (o := .cells #[.int .i64 t565, .int .i64 t566] 25 (0, 0)) (mB_ BK567.out) hb); have n3_ := aM (below_step (zs GE567.out) hb); clear HO_4; clear BK567; clear HB; have HO_4 := n0_; have HO588 := n1_; have BK567 := n2_; have HB := n3_; clear n0_ n1_ n2_ n3_; (try clear hb); (try clear hb2); (try clear hk); (try clear hi); (try clear ho0); have p590 : 0 ≤ (x15_2 : Int) := of_decide_eq_true za; have q590 : x15_2 < (t568.length : Int) := of_decide_eq_true za; obtain ⟨ad590, e590, hx590_0, hx590_1⟩ := at_T25 (Kd.R_reads' HO_4.out).2.2 x15_2 p590 q590; obtain rfl : ad585 = ad590 := (by injection e590); replace p590 := eq_true p590; replace q590 := eq_true q590) | (go_at_call 12; (with_reducible refine (impl_IsTriangle.calls ((rd_T25 t568 x15_2).f0) ((rd_T25 t568 x15_2).f1) false _ A56.out).mono ?_); rintro e w75 ⟨rfl, hb⟩; have n0_ := aM (Kd.R_below (mR_ HO_4.out) hb); have n1_ := aM (Kd.R_below (mR_ HO588.out) hb); have n2_ := aM (blk_below (g := gb567) (o := .cells #[.int .i64 t565, .int .i64 t566] 25 (0, 0)) (mB_ BK567.out) hb); have n3_ := aM (below_step (zs GE567.out) hb); clear HO_4; clear HO588; clear BK567; clear HB; have HO_4 := n0_; have HO588 := n1_; have BK567 := n2_; have HB := n3_; clear n0_ n1_ n2_ n3_; (try clear hb); (try clear hb2); (try clear hk); (try clear hi); have p592 : 0 ≤ (x15_2 : Int) := of_decide_eq_true za; have q592 : x15_2 < (t568.length : Int) := of_decide_eq_true za; obtain ⟨ad592, e592, hx592_0, hx592_1⟩ := at_T25 (Kd.R_reads' HO_4.out).2.2 x15_2 p592 q592; obtain rfl : ad585 = ad592 := (by injection e592); replace p592 := eq_true p592; replace q592 := eq_true q592; have p593 : 0 ≤ (x15_2 : Int) := of_decide_eq_true za; have q593 : x15_2 < (t568.length : Int) := of_decide_eq_true za; obtain ⟨ad593, e593, hx593_0, hx593_1⟩ := at_T25 (Kd.R_reads' HO_4.out).2.2 x15_2 p593 q593; obtain rfl : ad585 = ad593 := (by injection e593); replace p593 := eq_true p593; replace q593 := eq_true q593; have p594 : 0 ≤ (x15_2 : Int) := of_decide_eq_true za; have q594 : x15_2 < (t568.length : Int) := of_decide_eq_true za; obtain ⟨ad594, e594, hx594_0, hx594_1⟩ := at_T25 (Kd.R_reads' HO_4.out).2.2 x15_2 p594 q594; obtain rfl : ad585 = ad594 := (by injection e594); replace p594 := eq_true p594; replace q594 := eq_true q594; have p595 : 0 ≤ (x15_2 : Int) := of_decide_eq_true za; have q595 : x15_2 < (t568.length : Int) := of_decide_eq_true za; obtain ⟨ad595, e595, hx595_0, hx595_1⟩ := at_T25 (Kd.R_reads' HO_4.out).2.2 x15_2 p595 q595; obtain rfl : ad585 = ad595 := (by injection e595); replace p595 := eq_true p595; replace q595 := eq_true q595))
      repeat (go_quiet (first | (go_at_call 6; (try simp only [i64_w]); (with_reducible refine (impl_TrianglesAround.calls ((rd_T25 t568 x15_2).f0) ((rd_T25 t568 x15_2).f1) t586 t589 _ A43.out).mono ?_); rintro e w74 ⟨v587, rfl, ho0, hb⟩; have n0_ := aM (Kd.R_elder' (mR_ HO_4.out) (Kd.R_base ho0) hb); have n1_ := aM (Kd.R_lower (Kd.R_newB (Kd.R_new' ho0 (Kd.R_lt (mR_ HO_4.out))) (g := gb567) (o := .cells #[.int .i64 t565, .int .i64 t566] 25 (0, 0)) (mB_ BK567.out)) (below_size (zs GE567.out))); have n2_ := aM (blk_below (g := gb567) (o := .cells #[.int .i64 t565, .int .i64 t566] 25 (0, 0)) (mB_ BK567.out) hb); have n3_ := aM (below_step (zs GE567.out) hb); clear HO_4; clear BK567; clear HB; have HO_4 := n0_; have HO588 := n1_; have BK567 := n2_; have HB := n3_; clear n0_ n1_ n2_ n3_; (try clear hb); (try clear hb2); (try clear hk); (try clear hi); (try clear ho0); have p590 : 0 ≤ (x15_2 : Int) := of_decide_eq_true za; have q590 : x15_2 < (t568.length : Int) := of_decide_eq_true za; obtain ⟨ad590, e590, hx590_0, hx590_1⟩ := at_T25 (Kd.R_reads' HO_4.out).2.2 x15_2 p590 q590; obtain rfl : ad585 = ad590 := (by injection e590); replace p590 := eq_true p590; replace q590 := eq_true q590) | (go_at_call 12; (try simp only [i64_w]); (with_reducible refine (impl_IsTriangle.calls ((rd_T25 t568 x15_2).f0) ((rd_T25 t568 x15_2).f1) false _ A56.out).mono ?_); rintro e w75 ⟨rfl, hb⟩; have n0_ := aM (Kd.R_below (mR_ HO_4.out) hb); have n1_ := aM (Kd.R_below (mR_ HO588.out) hb); have n2_ := aM (blk_below (g := gb567) (o := .cells #[.int .i64 t565, .int .i64 t566] 25 (0, 0)) (mB_ BK567.out) hb); have n3_ := aM (below_step (zs GE567.out) hb); clear HO_4; clear HO588; clear BK567; clear HB; have HO_4 := n0_; have HO588 := n1_; have BK567 := n2_; have HB := n3_; clear n0_ n1_ n2_ n3_; (try clear hb); (try clear hb2); (try clear hk); (try clear hi); have p592 : 0 ≤ (x15_2 : Int) := of_decide_eq_true za; have q592 : x15_2 < (t568.length : Int) := of_decide_eq_true za; obtain ⟨ad592, e592, hx592_0, hx592_1⟩ := at_T25 (Kd.R_reads' HO_4.out).2.2 x15_2 p592 q592; obtain rfl : ad585 = ad592 := (by injection e592); replace p592 := eq_true p592; replace q592 := eq_true q592; have p593 : 0 ≤ (x15_2 : Int) := of_decide_eq_true za; have q593 : x15_2 < (t568.length : Int) := of_decide_eq_true za; obtain ⟨ad593, e593, hx593_0, hx593_1⟩ := at_T25 (Kd.R_reads' HO_4.out).2.2 x15_2 p593 q593; obtain rfl : ad585 = ad593 := (by injection e593); replace p593 := eq_true p593; replace q593 := eq_true q593; have p594 : 0 ≤ (x15_2 : Int) := of_decide_eq_true za; have q594 : x15_2 < (t568.length : Int) := of_decide_eq_true za; obtain ⟨ad594, e594, hx594_0, hx594_1⟩ := at_T25 (Kd.R_reads' HO_4.out).2.2 x15_2 p594 q594; obtain rfl : ad585 = ad594 := (by injection e594); replace p594 := eq_true p594; replace q594 := eq_true q594; have p595 : 0 ≤ (x15_2 : Int) := of_decide_eq_true za; have q595 : x15_2 < (t568.length : Int) := of_decide_eq_true za; obtain ⟨ad595, e595, hx595_0, hx595_1⟩ := at_T25 (Kd.R_reads' HO_4.out).2.2 x15_2 p595 q595; obtain rfl : ad585 = ad595 := (by injection e595); replace p595 := eq_true p595; replace q595 := eq_true q595)); try go_wp2_with (first | (go_at_call 6; (try simp only [i64_w]); (with_reducible refine (impl_TrianglesAround.calls ((rd_T25 t568 x15_2).f0) ((rd_T25 t568 x15_2).f1) t586 t589 _ A43.out).mono ?_); rintro e w74 ⟨v587, rfl, ho0, hb⟩; have n0_ := aM (Kd.R_elder' (mR_ HO_4.out) (Kd.R_base ho0) hb); have n1_ := aM (Kd.R_lower (Kd.R_newB (Kd.R_new' ho0 (Kd.R_lt (mR_ HO_4.out))) (g := gb567) (o := .cells #[.int .i64 t565, .int .i64 t566] 25 (0, 0)) (mB_ BK567.out)) (below_size (zs GE567.out))); have n2_ := aM (blk_below (g := gb567) (o := .cells #[.int .i64 t565, .int .i64 t566] 25 (0, 0)) (mB_ BK567.out) hb); have n3_ := aM (below_step (zs GE567.out) hb); clear HO_4; clear BK567; clear HB; have HO_4 := n0_; have HO588 := n1_; have BK567 := n2_; have HB := n3_; clear n0_ n1_ n2_ n3_; (try clear hb); (try clear hb2); (try clear hk); (try clear hi); (try clear ho0); have p590 : 0 ≤ (x15_2 : Int) := of_decide_eq_true za; have q590 : x15_2 < (t568.length : Int) := of_decide_eq_true za; obtain ⟨ad590, e590, hx590_0, hx590_1⟩ := at_T25 (Kd.R_reads' HO_4.out).2.2 x15_2 p590 q590; obtain rfl : ad585 = ad590 := (by injection e590); replace p590 := eq_true p590; replace q590 := eq_true q590) | (go_at_call 12; (try simp only [i64_w]); (with_reducible refine (impl_IsTriangle.calls ((rd_T25 t568 x15_2).f0) ((rd_T25 t568 x15_2).f1) false _ A56.out).mono ?_); rintro e w75 ⟨rfl, hb⟩; have n0_ := aM (Kd.R_below (mR_ HO_4.out) hb); have n1_ := aM (Kd.R_below (mR_ HO588.out) hb); have n2_ := aM (blk_below (g := gb567) (o := .cells #[.int .i64 t565, .int .i64 t566] 25 (0, 0)) (mB_ BK567.out) hb); have n3_ := aM (below_step (zs GE567.out) hb); clear HO_4; clear HO588; clear BK567; clear HB; have HO_4 := n0_; have HO588 := n1_; have BK567 := n2_; have HB := n3_; clear n0_ n1_ n2_ n3_; (try clear hb); (try clear hb2); (try clear hk); (try clear hi); have p592 : 0 ≤ (x15_2 : Int) := of_decide_eq_true za; have q592 : x15_2 < (t568.length : Int) := of_decide_eq_true za; obtain ⟨ad592, e592, hx592_0, hx592_1⟩ := at_T25 (Kd.R_reads' HO_4.out).2.2 x15_2 p592 q592; obtain rfl : ad585 = ad592 := (by injection e592); replace p592 := eq_true p592; replace q592 := eq_true q592; have p593 : 0 ≤ (x15_2 : Int) := of_decide_eq_true za; have q593 : x15_2 < (t568.length : Int) := of_decide_eq_true za; obtain ⟨ad593, e593, hx593_0, hx593_1⟩ := at_T25 (Kd.R_reads' HO_4.out).2.2 x15_2 p593 q593; obtain rfl : ad585 = ad593 := (by injection e593); replace p593 := eq_true p593; replace q593 := eq_true q593; have p594 : 0 ≤ (x15_2 : Int) := of_decide_eq_true za; have q594 : x15_2 < (t568.length : Int) := of_decide_eq_true za; obtain ⟨ad594, e594, hx594_0, hx594_1⟩ := at_T25 (Kd.R_reads' HO_4.out).2.2 x15_2 p594 q594; obtain rfl : ad585 = ad594 := (by injection e594); replace p594 := eq_true p594; replace q594 := eq_true q594; have p595 : 0 ≤ (x15_2 : Int) := of_decide_eq_true za; have q595 : x15_2 < (t568.length : Int) := of_decide_eq_true za; obtain ⟨ad595, e595, hx595_0, hx595_1⟩ := at_T25 (Kd.R_reads' HO_4.out).2.2 x15_2 p595 q595; obtain rfl : ad585 = ad595 := (by injection e595); replace p595 := eq_true p595; replace q595 := eq_true q595)))
      go_ret
      exact ⟨zw, zs GE567.out⟩
     rw [if_pos c44] at H
     have c44b0 : (t589 == 0) = true := beq_iff_eq.mpr c44
     have c44b1 : (t589 != 0) = false := bne_eq_false_iff_eq.mpr c44
     clear c44
     have H' := aM H
     clear H
     obtain ⟨Ao45, co45, eo45⟩ := Kd.R_slice HO_4.out
     subst eo45
     have p585 : 0 ≤ (x15_2 : Int) := of_decide_eq_true za
     have q585 : x15_2 < (t568.length : Int) := of_decide_eq_true za
     obtain ⟨ad585, e585, hx585_0, hx585_1⟩ := at_T25 (Kd.R_reads' HO_4.out).2.2 x15_2 p585 q585
     cases e585
     replace p585 := eq_true p585
     replace q585 := eq_true q585
     go_wp2_with (first | (go_at_call 6; (with_reducible refine (impl_TrianglesAround.calls ((rd_T25 t568 x15_2).f0) ((rd_T25 t568 x15_2).f1) t586 t589 _ A43.out).mono ?_); rintro e w46 ⟨v587, rfl, ho0, hb⟩; have n0_ := aM (Kd.R_elder' (mR_ HO_4.out) (Kd.R_base ho0) hb); have n1_ := aM (Kd.R_lower (Kd.R_newB (Kd.R_new' ho0 (Kd.R_lt (mR_ HO_4.out))) (g := gb567) (o := .cells #[.int .i64 t565, .int .i64 t566] 25 (0, 0)) (mB_ BK567.out)) (below_size (zs GE567.out))); have n2_ := aM (blk_below (g := gb567) (o := .cells #[.int .i64 t565, .int .i64 t566] 25 (0, 0)) (mB_ BK567.out) hb); have n3_ := aM (below_step (zs GE567.out) hb); clear HO_4; clear BK567; clear HB; have HO_4 := n0_; have HO588 := n1_; have BK567 := n2_; have HB := n3_; clear n0_ n1_ n2_ n3_; (try clear hb); (try clear hb2); (try clear hk); (try clear hi); (try clear ho0)))
     repeat (go_quiet (first | (go_at_call 6; (try simp only [i64_w]); (with_reducible refine (impl_TrianglesAround.calls ((rd_T25 t568 x15_2).f0) ((rd_T25 t568 x15_2).f1) t586 t589 _ A43.out).mono ?_); rintro e w46 ⟨v587, rfl, ho0, hb⟩; have n0_ := aM (Kd.R_elder' (mR_ HO_4.out) (Kd.R_base ho0) hb); have n1_ := aM (Kd.R_lower (Kd.R_newB (Kd.R_new' ho0 (Kd.R_lt (mR_ HO_4.out))) (g := gb567) (o := .cells #[.int .i64 t565, .int .i64 t566] 25 (0, 0)) (mB_ BK567.out)) (below_size (zs GE567.out))); have n2_ := aM (blk_below (g := gb567) (o := .cells #[.int .i64 t565, .int .i64 t566] 25 (0, 0)) (mB_ BK567.out) hb); have n3_ := aM (below_step (zs GE567.out) hb); clear HO_4; clear BK567; clear HB; have HO_4 := n0_; have HO588 := n1_; have BK567 := n2_; have HB := n3_; clear n0_ n1_ n2_ n3_; (try clear hb); (try clear hb2); (try clear hk); (try clear hi); (try clear ho0))); try go_wp2_with (first | (go_at_call 6; (try simp only [i64_w]); (with_reducible refine (impl_TrianglesAround.calls ((rd_T25 t568 x15_2).f0) ((rd_T25 t568 x15_2).f1) t586 t589 _ A43.out).mono ?_); rintro e w46 ⟨v587, rfl, ho0, hb⟩; have n0_ := aM (Kd.R_elder' (mR_ HO_4.out) (Kd.R_base ho0) hb); have n1_ := aM (Kd.R_lower (Kd.R_newB (Kd.R_new' ho0 (Kd.R_lt (mR_ HO_4.out))) (g := gb567) (o := .cells #[.int .i64 t565, .int .i64 t566] 25 (0, 0)) (mB_ BK567.out)) (below_size (zs GE567.out))); have n2_ := aM (blk_below (g := gb567) (o := .cells #[.int .i64 t565, .int .i64 t566] 25 (0, 0)) (mB_ BK567.out) hb); have n3_ := aM (below_step (zs GE567.out) hb); clear HO_4; clear BK567; clear HB; have HO_4 := n0_; have HO588 := n1_; have BK567 := n2_; have HB := n3_; clear n0_ n1_ n2_ n3_; (try clear hb); (try clear hb2); (try clear hk); (try clear hi); (try clear ho0))))
     go_loopg [18, 19] k2 (fun kq v18 v19 w' => ∃ (x18_3 : Bool) (x19_3 : Int), v18 = .bool x18_3 ∧ v19 = .int .i64 x19_3 ∧ Aside0 (laws_FnTriangles.l1 kq t568 x15_2 t586 x18_3 x19_3 t565 t566 = some r) ∧ Aside0 (kq ≤ k2) ∧ Aside0 (Kd.R k25 25 w' w.heap.size (fun k_ => some k_ ≠ (v587 : Value).ownBlock ∧ k_ ≠ gb567) (.slice (some ad585) t568.length co45) t568) ∧ Aside0 (Kd.R k25 25 w' w.heap.size (fun k_ => some k_ ≠ ((.slice (some ad585) t568.length co45) : Value).ownBlock ∧ k_ ≠ gb567) v587 t586) ∧ Aside0 (w'.heap[gb567]? = some (.cells #[.int .i64 t565, .int .i64 t566] 25 (0, 0))) ∧ Aside0 (Below w.heap.size w w'))
     case atStart => exact ⟨(false), (0), zr, zr, H', ⟨Nat.le_refl _⟩, ⟨by (with_reducible repeat (first | apply Kd.R_alloc | apply Kd.R_drewN | apply Kd.R_drew)); exact Kd.R_mono HO_4.out (fun _ hk => ⟨hk.2, hk.1⟩)⟩, ⟨by (with_reducible repeat (first | apply Kd.R_alloc | apply Kd.R_drewN | apply Kd.R_drew)); exact Kd.R_mono HO588.out (fun _ hk => ⟨hk.1.2, hk.2⟩)⟩, ⟨mB_ BK567.out⟩, ⟨zs GE567.out⟩⟩
     case round =>
      clear H'
      try clear c2
      try clear p2
      try clear c3
      try clear c4
      try clear p5
      try clear q5
      try clear hx5
      try clear c20
      try clear c20b0
      try clear c20b1
      try clear c22
      try clear c23
      try clear c23b0
      try clear c23b1
      try clear c24
      try clear c24b0
      try clear c24b1
      try clear c25
      try clear c25b0
      try clear c25b1
      try clear c39
      try clear c40
      try clear c40b0
      try clear c40b1
      try clear c41
      try clear c41b0
      try clear c42
      try clear c42b0
      try clear c44
      try clear c44b0
      try clear c44b1
      try clear hcz13_0
      try clear hcz13_1
      try clear hcz15_0
      try clear hcz15_1
      try clear hcz29_0
      try clear hcz29_1
      try clear hfz13_0
      try clear hfz13_1
      try clear hfz15_0
      try clear hfz15_1
      try clear hfz29_0
      try clear hfz29_1
      try clear hx585_0
      try clear hx585_1
      try clear p2
      try clear p585
      try clear q585
      obtain ⟨x18_3, x19_3, rfl, rfl, HA, HK3, HO_4, HO_16, BK567, HB⟩ := hrel
      cases gk with
      | zero => exact absurd HA.out (by simp [laws_FnTriangles.l1])
      | succ k3 =>
       have H := HA.out
       clear HA
       simp only [laws_FnTriangles.l1] at H
       by_cases c47 : x19_3 < (t586.length : Int)
       rotate_left
       ·rw [if_neg c47] at H
        have c47b0 : decide (x19_3 < (t586.length : Int)) = false := decide_eq_false c47
        clear c47
        by_cases c53 : x18_3 = true
        rotate_left
        ·replace c53 := Bool.eq_false_iff.mpr c53
         subst c53
         have H1 : (some false) = some r := by rw [if_neg (show ¬ (false = true) by decide)] at H; exact H
         clear H
         have H := H1
         clear H1
         obtain rfl := Option.some.inj H
         obtain ⟨Ao55, co55, eo55⟩ := Kd.R_slice HO_16.out
         subst eo55
         go_wp2
         repeat (go_quiet (fail); try go_wp2)
         go_ret
         exact ⟨zw, zs GE567.out⟩
        subst c53
        have H1 : (laws_FnTriangles.l0 k3 t568 (wrap64 (x15_2 + 1)) t565 t566) = some r := by rw [if_pos rfl] at H; exact H
        clear H
        have H := H1
        clear H1
        have H' := aM H
        clear H
        obtain ⟨Ao54, co54, eo54⟩ := Kd.R_slice HO_16.out
        subst eo54
        go_wp2
        repeat (go_quiet (fail); try go_wp2)
        go_roundg k3
        case measure => have := HJ9.out; have := HK2.out; have := HK3.out; omega
        case rel => exact ⟨(wrap64 (x15_2 + 1)), zr, H', ⟨by have := HJ9.out; have := HK2.out; have := HK3.out; omega⟩, ⟨by (with_reducible repeat (first | apply Kd.R_alloc | apply Kd.R_drewN | apply Kd.R_drew)); exact Kd.R_mono HO_4.out (fun _ hk => hk.2)⟩, ⟨mB_ BK567.out⟩, ⟨zs GE567.out⟩⟩
       rw [if_pos c47] at H
       have c47b0 : decide (x19_3 < (t586.length : Int)) = true := decide_eq_true c47
       clear c47
       by_cases c48 : x18_3 = true
       ·subst c48
        have H1 : (laws_FnTriangles.l1 k3 t568 x15_2 t586 true (wrap64 (x19_3 + 1)) t565 t566) = some r := by rw [if_pos rfl] at H; exact H
        clear H
        have H := H1
        clear H1
        have H' := aM H
        clear H
        obtain ⟨Ao49, co49, eo49⟩ := Kd.R_slice HO_16.out
        subst eo49
        go_wp2
        repeat (go_quiet (fail); try go_wp2)
        go_roundg k3
        case measure => have := HJ9.out; have := HK2.out; have := HK3.out; omega
        case rel => exact ⟨(true), (wrap64 (x19_3 + 1)), zr, zr, H', ⟨by have := HJ9.out; have := HK2.out; have := HK3.out; omega⟩, ⟨mR_ HO_4.out⟩, ⟨mR_ HO_16.out⟩, ⟨mB_ BK567.out⟩, ⟨zs GE567.out⟩⟩
       replace c48 := Bool.eq_false_iff.mpr c48
       subst c48
       have H1 : (if 0 ≤ x19_3 then (laws_FnTriangles.l1 k3 t568 x15_2 t586 (((rd_T25 t586 x19_3).f0) == t565 && (((rd_T25 t586 x19_3).f1) == t566)) (wrap64 (x19_3 + 1)) t565 t566) else (none)) = some r := by rw [if_neg (show ¬ (false = true) by decide)] at H; exact H
       clear H
       have H := H1
       clear H1
       by_cases c50 : 0 ≤ x19_3
       rotate_left
       ·rw [if_neg c50] at H
        exact absurd H (by simp)
       rw [if_pos c50] at H
       have c50b0 : decide (0 ≤ x19_3) = true := decide_eq_true c50
       clear c50
       have H' := aM H
       clear H
       obtain ⟨Ao51, co51, eo51⟩ := Kd.R_slice HO_16.out
       subst eo51
       have p596 : 0 ≤ (x19_3 : Int) := of_decide_eq_true za
       have q596 : x19_3 < (t586.length : Int) := of_decide_eq_true za
       obtain ⟨ad596, e596, hx596_0, hx596_1⟩ := at_T25 (Kd.R_reads' HO_16.out).2.2 x19_3 p596 q596
       cases e596
       replace p596 := eq_true p596
       replace q596 := eq_true q596
       have hcz52_0 : wr.cell? ⟨gb567, 0, none⟩ = some (.int .i64 t565) := (blk_cell BK567.out 0).trans rfl
       have hcz52_1 : wr.cell? ⟨gb567, 1, none⟩ = some (.int .i64 t566) := (blk_cell BK567.out 1).trans rfl
       have hfz52_0 := blk_frozen BK567.out 0
       have hfz52_1 := blk_frozen BK567.out 1
       go_wp2
       repeat (go_quiet (fail); try go_wp2)
       go_roundg k3
       case measure => have := HJ9.out; have := HK2.out; have := HK3.out; omega
       case rel => exact ⟨((((rd_T25 t586 x19_3).f0) == t565 && (((rd_T25 t586 x19_3).f1) == t566))), (wrap64 (x19_3 + 1)), zr, zr, H', ⟨by have := HJ9.out; have := HK2.out; have := HK3.out; omega⟩, ⟨mR_ HO_4.out⟩, ⟨mR_ HO_16.out⟩, ⟨mB_ BK567.out⟩, ⟨zs GE567.out⟩⟩
end Go.Proofs.YtlnliahadgmbcaaGreat.F
end
section
namespace Go.Proofs.YtlnliahadgmbcaaGreat.Open
open Go.ChangeShapes Go.WideShapes Go.Deep Go.RowKit Go.Proofs.YtlnliahadgmbcaaGreatW.PrintWords
def Opens {α : Type} (P : Program) (d : Kd α) (t : TypeId) (V : α → Prop) : Prop :=
  ∀ (H : Type) (enc : TypeId × Value → H) (w : World) (base : Nat) (spare : Nat → Bool) (held : Bool) (fuel : Nat) (cs : List Value) (x : DataW H × List MemPlace),
    DataW.trod enc P w base spare held fuel t cs = some x → ∃ a : α, d.K w a cs ∧ V a
theorem Opens.int {P : Program} {t : TypeId} {k : IntKind} (ht : P.underlying t = some (.int k)) : Opens P (Kd.int k) t (fun a => (Lit.int k a).wf = true) := by
  intro H enc w base spare held fuel cs x h
  obtain ⟨n, hcs, _, hw⟩ := DataW.trod_int ht h
  exact ⟨n, hcs, hw⟩
theorem Opens.bool {P : Program} {t : TypeId} (ht : P.underlying t = some .bool) : Opens P Kd.bool t (fun _ => True) := by
  intro H enc w base spare held fuel cs x h
  obtain ⟨b, hcs, _⟩ := DataW.trod_bool ht h
  exact ⟨b, hcs, trivial⟩
theorem Opens.slice {α : Type} [Inhabited α] {P : Program} {t e : TypeId} {d : Kd α} {V : α → Prop} (ht : P.underlying t = some (.slice e)) (hsz : P.cellsOf e = d.sz) (ho : Opens P d e V) :
    Opens P (Kd.slice e d) t (fun l => l.length ≤ 9223372036854775807 ∧ ∀ a ∈ l, V a) := by
  intro H enc w base spare held fuel cs x h
  rcases open_slice ht h with ⟨rfl, _⟩ | ⟨a, len, cap, m, n, D, Pl, rfl, hb, hl, hm, hmm, _, hi⟩
  · exact ⟨[], ⟨none, 0, rfl, Nat.le_refl _, rfl, by simp, fun hp => absurd hp (by simp)⟩, by simp, by simp⟩
  · have hlm : len ≤ m := by rw [hmm]; split <;> omega
    have hx : ∀ i, i < len → ∃ y : α, V y ∧ ∃ c : List Value, c.length = d.sz ∧ d.K w y c ∧ ∀ j u, c[j]? = some u → w.cell? (a.add (i * d.sz + j)) = some u := by
      intro i hil
      obtain ⟨cs', hc, ht'⟩ := hi i (by omega)
      obtain ⟨y, hk, hv⟩ := ho H enc w base spare held n cs' _ ht'
      obtain ⟨_, hcl, hat⟩ := World.cells?_some hc
      refine ⟨y, hv, cs', d.K_len hk, hk, fun j u hj => ?_⟩
      have hjl : j < cs'.length := (List.getElem?_eq_some_iff.1 hj).1
      have := hat j (by rw [hsz, ← d.K_len hk]; exact hjl)
      rw [Go.Deep.add_add, hsz] at this
      rw [this, hj]
    obtain ⟨f, hf⟩ := choose_lt hx
    have hlen : ((List.range len).map f).length = len := by simp
    refine ⟨(List.range len).map f, ⟨some a, cap, by rw [hlen], by rw [hlen]; exact hl, rfl, ?_, fun _ => ⟨a, rfl, fun j p hj => ?_⟩⟩, ?_⟩
    · rw [hlen]; unfold maxLen at hm; omega
    · have hjl : j < len := by
        have := (List.getElem?_eq_some_iff.1 hj).1
        rwa [hlen] at this
      have hp : f j = p := by
        rw [List.getElem?_map, List.getElem?_range hjl] at hj
        simpa using hj
      obtain ⟨_, c, h1, h2, h3⟩ := hf j hjl
      rw [hp] at h2
      exact ⟨c, h1, h2, h3⟩
    · refine ⟨by rw [hlen]; unfold maxLen at hm; omega, fun y hy => ?_⟩
      obtain ⟨i, hi', rfl⟩ := List.mem_map.1 hy
      exact (hf i (List.mem_range.1 hi')).1
theorem arg_open {α : Type} {P : Program} {t : TypeId} {d : Kd α} {V : α → Prop} (ho : Opens P d t V) {H : Type} {enc : TypeId × Value → H} {w : World} {base : Nat} {spare : Nat → Bool} {held : Bool} {v : Value} {x : DataW H} {p : List MemPlace}
    (h : DataW.Trod enc P w base spare held t v x p) : ∃ a : α, d.K w a v.cells.toList ∧ V a := by
  obtain ⟨fuel, hf⟩ := h
  exact ho _ _ _ _ _ _ _ _ _ hf
theorem slice_arg {α : Type} {d : Kd α} {e : Nat} {w : World} {l : List α} {a : Option Addr} {len cap : Nat} (h : (Kd.slice e d).K w l (Value.slice a len cap).cells.toList) : l.length = len ∧ l.length ≤ cap ∧ d.C w a l.length l := by
  obtain ⟨A, c, hcs, hl, hr⟩ := h
  simp [Value.cells] at hcs
  obtain ⟨rfl, rfl, rfl⟩ := hcs
  exact ⟨rfl, hl, hr⟩
end Go.Proofs.YtlnliahadgmbcaaGreat.Open
end
section
namespace Go.Proofs.YtlnliahadgmbcaaGreat.L
open Go.RowKit Go.Proofs.YtlnliahadgmbcaaGreatW.PrintWords
theorem Ev.pos {α : Type} {c : Prop} [Decidable c] {f g : Nat → Option α} {r : α} (h : c) (e : Ev f r) : Ev (fun k => if c then f k else g k) r := by
  obtain ⟨K, e⟩ := e
  exact ⟨K, fun k hk => (if_pos h).trans (e k hk)⟩
theorem Ev.neg {α : Type} {c : Prop} [Decidable c] {f g : Nat → Option α} {r : α} (h : ¬ c) (e : Ev g r) : Ev (fun k => if c then f k else g k) r := by
  obtain ⟨K, e⟩ := e
  exact ⟨K, fun k hk => (if_neg h).trans (e k hk)⟩
theorem Ev.if_ {α : Type} {c : Prop} [Decidable c] {f g : Nat → Option α} {r s : α} (h : c → Ev f r) (h' : ¬ c → Ev g s) : Ev (fun k => if c then f k else g k) (if c then r else s) := by
  by_cases hc : c
  · rw [if_pos hc]; exact Ev.pos hc (h hc)
  · rw [if_neg hc]; exact Ev.neg hc (h' hc)
theorem Ev.of_eq {α : Type} {g : Nat → Option α} {r s : α} (h : Ev g r) (e : r = s) : Ev g s := e ▸ h
theorem Ev.bind0 {α β : Type} {o : Option α} {f : Nat → α → Option β} {a : α} {r : β} (h : o = some a) (k : Ev (fun n => f n a) r) : Ev (fun n => o.bind (f n)) r := by
  subst h
  exact k
theorem Ev.succ {α : Type} {g : Nat → Option α} {r : α} (h : Ev (fun k => g (k + 1)) r) : Ev g r := by
  obtain ⟨K, h⟩ := h
  refine ⟨K + 1, fun n hn => ?_⟩
  obtain ⟨m, rfl⟩ : ∃ m, n = m + 1 := ⟨n - 1, by omega⟩
  exact h m (by omega)
theorem w64 {n : Int} (h : -9223372036854775808 ≤ n) (h' : n ≤ 9223372036854775807) : wrap64 n = n := by
  unfold wrap64
  omega
theorem tmod_bd (a : Int) {m : Int} (hm : 0 < m) : -m < Int.tmod a m ∧ Int.tmod a m < m :=
  ⟨Int.neg_lt_of_neg_lt (by have := Int.tmod_lt_of_pos (-a) hm; rwa [Int.neg_tmod] at this), Int.tmod_lt_of_pos a hm⟩
theorem tmod_emod (a : Int) (m : Int) : Int.tmod a m % m = a % m := by
  have := Int.mul_tdiv_add_tmod a m
  rw [← this, Int.mul_add_emod_self_left] 
  rw [this]
theorem mod_eq (a m : Int) (h0 : 0 < m) (h1 : m ≤ 4611686018427387904) : Int.tmod (wrap64 (Int.tmod a m + m)) m = a % m := by
  have hb := tmod_bd a h0
  rw [w64 (by omega) (by omega), Int.tmod_eq_emod_of_nonneg (by omega), Int.add_emod_right, tmod_emod]
theorem getD_at {α : Type} (pre suf : List α) (c d : α) : (pre ++ c :: suf).getD (pre.length : Int).toNat d = c := by
  simp [List.getD]
end Go.Proofs.YtlnliahadgmbcaaGreat.L
namespace Go.Proofs.YtlnliahadgmbcaaGreat.L
open Go.RowKit Go.Proofs.YtlnliahadgmbcaaGreatW.PrintWords
theorem loop_list {α σ ρ : Type} (xs : List α) (l : Nat → Int → σ → Option ρ) (g : List α → List α → σ → ρ) (Inv : List α → σ → Prop)
    (hn : ∀ s, Inv xs s → Ev (fun k => l (k + 1) (xs.length : Int) s) (g xs [] s))
    (hs : ∀ (pre : List α) (c : α) (suf : List α) (s : σ), xs = pre ++ c :: suf → Inv pre s → (∀ s', Inv (pre ++ [c]) s' → Ev (fun k => l k ((pre.length : Int) + 1) s') (g (pre ++ [c]) suf s')) → Ev (fun k => l (k + 1) (pre.length : Int) s) (g pre (c :: suf) s)) :
    ∀ s, Inv [] s → Ev (fun k => l k 0 s) (g [] xs s) := by
  have key : ∀ (suf pre : List α), xs = pre ++ suf → ∀ s, Inv pre s → Ev (fun k => l k (pre.length : Int) s) (g pre suf s) := by
    intro suf
    induction suf with
    | nil =>
      intro pre hx s hi
      rw [List.append_nil] at hx
      subst hx
      exact Ev.succ (hn s hi)
    | cons c suf ih =>
      intro pre hx s hi
      refine Ev.succ (hs pre c suf s hx hi fun s' hi' => ?_)
      have := ih (pre ++ [c]) (by rw [hx]; simp) s' hi'
      rw [List.length_append] at this
      exact this
  intro s hi
  exact key xs [] rfl s hi
end Go.Proofs.YtlnliahadgmbcaaGreat.L
end
section
namespace Go.Proofs.YtlnliahadgmbcaaGreat.L
open Go.RowKit Go.Proofs.YtlnliahadgmbcaaGreatW.PrintWords Go.Proofs.YtlnliahadgmbcaaGreatW.PrintLast Go.Proofs.YtlnliahadgmbcaaGreatW.PrintMore Go.Proofs.YtlnliahadgmbcaaGreat.F
set_option linter.unusedVariables false
set_option linter.unusedSimpArgs false
abbrev Cell := S25
theorem in_eq (a b c : Int) : spec_l01In.f a b c = some (decide (b ≤ a ∧ a ≤ c)) := by
  unfold spec_l01In.f
  by_cases h : a ≥ b
  · rw [if_pos h]; simp [show b ≤ a from h]
  · rw [if_neg h]; simp [show ¬ b ≤ a from h]
theorem within_eq (a b c : Int) : impl_within.f a b c = some (decide (b ≤ a ∧ a ≤ c)) := by
  unfold impl_within.f
  by_cases h : a ≥ b
  · rw [if_pos h]; simp [show b ≤ a from h]
  · rw [if_neg h]; simp [show ¬ b ≤ a from h]
def ok1 (n : Int) : Prop := -100 ≤ n ∧ n ≤ 100
instance (n : Int) : Decidable (ok1 n) := by unfold ok1; infer_instance
def okC (c : Cell) : Prop := ok1 c.f0 ∧ ok1 c.f1
instance (c : Cell) : Decidable (okC c) := by unfold okC; infer_instance
def ltC (a b : Cell) : Prop := a.f1 < b.f1 ∨ a.f1 = b.f1 ∧ a.f0 < b.f0
instance (a b : Cell) : Decidable (ltC a b) := by unfold ltC; infer_instance
theorem isCoordinate_eq (n : Int) : impl_isCoordinate.f n = some (decide (ok1 n)) := by
  unfold impl_isCoordinate.f
  rw [within_eq]
  rfl
theorem l02Cell_eq (x y : Int) : spec_l02Cell.f x y = some (decide (ok1 x ∧ ok1 y)) := by
  unfold spec_l02Cell.f
  rw [in_eq, in_eq]
  simp only [Option.bind_some]
  by_cases h : -100 ≤ x ∧ x ≤ 100
  · have h' : ok1 x := h
    simp only [h, and_self, decide_true, if_true, true_and, h', ok1]
  · have h' : ¬ ok1 x := h
    simp [h, h']
def small {α : Type} (l : List α) : Prop := l.length ≤ 4611686018427387904
theorem pre_lt {α : Type} {xs pre suf : List α} {c : α} (h : xs = pre ++ c :: suf) : ((pre.length : Int) < (xs.length : Int)) = True := by
  subst h; simp; omega
theorem pre_w {α : Type} {xs pre suf : List α} {c : α} (h : xs = pre ++ c :: suf) (hs : small xs) : wrap64 ((pre.length : Int) + 1) = (pre.length : Int) + 1 := by
  subst h
  unfold small at hs
  rw [List.length_append, List.length_cons] at hs
  exact w64 (by omega) (by omega)
theorem pre_0 {α : Type} (pre : List α) : (0 ≤ (pre.length : Int)) = True := by simp
theorem len_lt {α : Type} (xs : List α) : ((xs.length : Int) < (xs.length : Int)) = False := by simp
theorem at_pre {xs pre suf : List Cell} {c : Cell} (h : xs = pre ++ c :: suf) : rd_T25 xs (pre.length : Int) = c := by
  subst h; exact getD_at pre suf c _
theorem pre_len {α : Type} {xs pre suf : List α} {c : α} (h : xs = pre ++ c :: suf) : pre.length < xs.length := by
  subst h; simp
def cmpI (a b : Int) : Int := if a < b then -1 else if a > b then 1 else 0
theorem compare_eq (a b : Int) : cmp_Compare_int64.f a b = some (cmpI a b) := by
  unfold cmp_Compare_int64.f cmp_isNaN_int64.f cmpI
  simp only [bne_self_eq_false, Option.bind_some, Bool.false_eq_true, if_false]
  split
  · rfl
  · split <;> rfl
theorem l02Less_eq (a b c d : Int) : spec_l02Less.f a b c d = some (decide (b < d ∨ b = d ∧ a < c)) := by
  unfold spec_l02Less.f
  by_cases h : b < d
  · simp [h]
  · by_cases h' : b = d <;> simp [h, h']
    
def cmpC (a b : Cell) : Int := if cmpI a.f1 b.f1 = 0 then cmpI a.f0 b.f0 else cmpI a.f1 b.f1
theorem compareCells_eq (a b : Cell) : impl_compareCells.f a.f0 a.f1 b.f0 b.f1 = some (cmpC a b) := by
  unfold impl_compareCells.f cmpC
  simp only [compare_eq, Option.bind_some]
  split <;> rfl
theorem cmpC_lt {a b : Cell} : cmpC a b < 0 ↔ ltC a b := by
  unfold cmpC cmpI ltC
  repeat' split
  all_goals constructor <;> intro h <;> omega
theorem cmpC_ge {a b : Cell} : cmpC a b ≥ 0 ↔ ¬ ltC a b := by
  rw [← cmpC_lt]; omega
def goodFrom : Option Cell → List Cell → Bool
  | _, [] => true
  | p, c :: r => decide (okC c) && (match p with | none => true | some q => decide (ltC q c)) && goodFrom (some c) r
def shapeB (l : List Cell) : Bool := goodFrom none l && decide (1 ≤ (l.length : Int) ∧ (l.length : Int) ≤ 40)
theorem specIsShape_ev (l : List Cell) (hs : small l) : Ev (fun k => spec_IsShape.f k l) (shapeB l) := by
  unfold spec_IsShape.f
  refine loop_list l (fun k i (_ : Unit) => spec_IsShape.l0 k l i) (fun pre suf _ => goodFrom pre.getLast? suf && decide (1 ≤ (l.length : Int) ∧ (l.length : Int) ≤ 40)) (fun _ _ => True) ?_ ?_ () trivial
  · intro _ _
    simp only [spec_IsShape.l0, len_lt, if_false, in_eq, Option.bind_some]
    refine Ev.of_eq (Ev.now _) ?_
    simp [goodFrom]
  · intro pre c suf _ hx _ ih
    simp only [spec_IsShape.l0, pre_lt hx, pre_0, if_true, at_pre hx, l02Cell_eq, Option.bind_some, pre_w hx hs]
    by_cases hc : okC c
    · have hc' : ok1 c.f0 ∧ ok1 c.f1 := hc
      simp only [hc', and_self, decide_true, if_true]
      rcases List.eq_nil_or_concat pre with rfl | ⟨L, b, rfl⟩
      · refine Ev.neg (by simp) (Ev.of_eq (ih () trivial) ?_)
        simp [goodFrom, hc]
      · rw [List.concat_eq_append] at hx ih ⊢
        have hx2 : l = L ++ b :: (c :: suf) := by rw [hx]; simp
        have e1 : wrap64 (((L ++ [b]).length : Int) - 1) = (L.length : Int) := by
          unfold small at hs
          rw [hx2] at hs
          simp only [List.length_append, List.length_cons, List.length_nil] at hs ⊢
          rw [w64 (by omega) (by omega)]; omega
        refine Ev.pos (by simp <;> omega) ?_
        simp only [e1, pre_0, if_true, pre_lt hx2, at_pre hx2, l02Less_eq, Option.bind_some]
        by_cases hl : ltC b c
        · have hl' : b.f1 < c.f1 ∨ b.f1 = c.f1 ∧ b.f0 < c.f0 := hl
          refine Ev.pos (by simpa using hl') (Ev.of_eq (ih () trivial) ?_)
          simp [goodFrom, hc, hl]
        · have hl' : ¬ (b.f1 < c.f1 ∨ b.f1 = c.f1 ∧ b.f0 < c.f0) := hl
          refine Ev.neg (by simpa using hl') (Ev.of_eq (Ev.now _) ?_)
          simp [goodFrom, hc, hl]
    · have hc' : ¬ (ok1 c.f0 ∧ ok1 c.f1) := hc
      simp only [hc', decide_false, Bool.false_eq_true, if_false]
      refine Ev.of_eq (Ev.now _) ?_
      simp [goodFrom, hc]
theorem implIsShape_ev (l : List Cell) (hs : small l) : Ev (fun k => impl_IsShape.f k l) (shapeB l) := by
  unfold impl_IsShape.f
  refine loop_list l (fun k i (_ : Unit) => impl_IsShape.l0 k l l (l.length : Int) i) (fun pre suf _ => goodFrom pre.getLast? suf && decide (1 ≤ (l.length : Int) ∧ (l.length : Int) ≤ 40)) (fun _ _ => True) ?_ ?_ () trivial
  · intro _ _
    simp only [impl_IsShape.l0, len_lt, if_false]
    refine Ev.of_eq (Ev.if_ (fun _ => Ev.now _) (fun _ => Ev.now _)) ?_
    by_cases h : (l.length : Int) ≥ 1
    · rw [if_pos h]; simp [goodFrom, show 1 ≤ (l.length : Int) from h]
    · rw [if_neg h]; simp [goodFrom, show ¬ 1 ≤ (l.length : Int) from h]
  · intro pre c suf _ hx _ ih
    simp only [impl_IsShape.l0, pre_lt hx, pre_0, if_true, at_pre hx, isCoordinate_eq, Option.bind_some, pre_w hx hs]
    by_cases hc : okC c
    · have hc' : ok1 c.f0 ∧ ok1 c.f1 := hc
      simp only [hc'.1, hc'.2, decide_true, if_true]
      rcases List.eq_nil_or_concat pre with rfl | ⟨L, b, rfl⟩
      · refine Ev.neg (by simp) (Ev.of_eq (ih () trivial) ?_)
        simp [goodFrom, hc]
      · rw [List.concat_eq_append] at hx ih ⊢
        have hx2 : l = L ++ b :: (c :: suf) := by rw [hx]; simp
        have e1 : wrap64 (((L ++ [b]).length : Int) - 1) = (L.length : Int) := by
          unfold small at hs
          rw [hx2] at hs
          simp only [List.length_append, List.length_cons, List.length_nil] at hs ⊢
          rw [w64 (by omega) (by omega)]; omega
        refine Ev.pos (by simp <;> omega) ?_
        simp only [e1, pre_0, if_true, pre_lt hx2, at_pre hx2, compareCells_eq, Option.bind_some]
        by_cases hl : ltC b c
        · refine Ev.neg (fun h => cmpC_ge.1 h hl) (Ev.of_eq (ih () trivial) ?_)
          simp [goodFrom, hc, hl]
        · refine Ev.pos (cmpC_ge.2 hl) (Ev.of_eq (Ev.now _) ?_)
          simp [goodFrom, hc, hl]
    · by_cases h0 : ok1 c.f0
      · have h1 : ¬ ok1 c.f1 := fun h => hc ⟨h0, h⟩
        simp only [h0, h1, decide_true, if_true, decide_false, Bool.false_eq_true, if_false]
        refine Ev.of_eq (Ev.now _) ?_
        simp [goodFrom, hc]
      · simp only [h0, decide_false, Bool.false_eq_true, if_false]
        refine Ev.of_eq (Ev.now _) ?_
        simp [goodFrom, hc]
theorem goodFrom_ok : ∀ (l : List Cell) (p : Option Cell), goodFrom p l = true → ∀ c ∈ l, okC c
  | [], _, _, c, h => by simp at h
  | a :: r, p, hg, c, h => by
    simp only [goodFrom, Bool.and_eq_true, decide_eq_true_eq] at hg
    rcases List.mem_cons.1 h with rfl | h
    · exact hg.1.1
    · exact goodFrom_ok r _ hg.2 c h
theorem ltC_trans {a b c : Cell} (h : ltC a b) (h' : ltC b c) : ltC a c := by unfold ltC at *; omega
theorem goodFrom_lt : ∀ (l : List Cell) (p : Option Cell), goodFrom p l = true → (∀ q, p = some q → ∀ c ∈ l, ltC q c) ∧ l.Pairwise ltC
  | [], _, _ => ⟨fun _ _ c h => by simp at h, List.Pairwise.nil⟩
  | a :: r, p, hg => by
    simp only [goodFrom, Bool.and_eq_true, decide_eq_true_eq] at hg
    obtain ⟨h1, h2⟩ := goodFrom_lt r (some a) hg.2
    have h3 := h1 a rfl
    refine ⟨fun q hq c hc => ?_, List.pairwise_cons.2 ⟨h3, h2⟩⟩
    subst hq
    have h4 : ltC q a := by simpa using hg.1.2
    rcases List.mem_cons.1 hc with rfl | hc
    · exact h4
    · exact ltC_trans h4 (h3 c hc)
theorem goodFrom_of : ∀ (l : List Cell) (p : Option Cell), (∀ c ∈ l, okC c) → (∀ q, p = some q → ∀ c ∈ l, ltC q c) → l.Pairwise ltC → goodFrom p l = true
  | [], _, _, _, _ => rfl
  | a :: r, p, h0, h1, h2 => by
    obtain ⟨h3, h4⟩ := List.pairwise_cons.1 h2
    simp only [goodFrom, Bool.and_eq_true, decide_eq_true_eq]
    refine ⟨⟨h0 a List.mem_cons_self, ?_⟩, goodFrom_of r (some a) (fun c hc => h0 c (List.mem_cons_of_mem _ hc)) (fun q hq c hc => by injection hq with hq; subst hq; exact h3 c hc) h4⟩
    cases p with
    | none => rfl
    | some q => simpa using h1 q rfl a List.mem_cons_self
theorem shapeB_iff {l : List Cell} : shapeB l = true ↔ (∀ c ∈ l, okC c) ∧ l.Pairwise ltC ∧ 1 ≤ l.length ∧ l.length ≤ 40 := by
  unfold shapeB
  rw [Bool.and_eq_true, decide_eq_true_eq]
  constructor
  · rintro ⟨h, h'⟩
    exact ⟨goodFrom_ok l _ h, (goodFrom_lt l _ h).2, by omega, by omega⟩
  · rintro ⟨h1, h2, h3, h4⟩
    exact ⟨goodFrom_of l none h1 (fun _ h => by cases h) h2, by omega, by omega⟩
def minX : Int → List Cell → Int := fun z l => l.foldl (fun m c => mn m c.f0) z
def minY : Int → List Cell → Int := fun z l => l.foldl (fun m c => mn m c.f1) z
def leastOf (l : List Cell) : Int × Int := match l with | [] => (0, 0) | c :: r => (minX c.f0 r, minY c.f1 r)
theorem implCorner_ev (l : List Cell) (hs : small l) (h0 : 0 < l.length) : Ev (fun k => impl_corner.f k l) (leastOf l) := by
  unfold impl_corner.f
  obtain ⟨c, r, rfl⟩ : ∃ c r, l = c :: r := by cases l with | nil => simp at h0 | cons c r => exact ⟨c, r, rfl⟩
  refine Ev.pos (by simp <;> omega) ?_
  have h1 : rd_T25 (c :: r) 0 = c := rfl
  rw [h1]
  have := loop_list (c :: r) (fun k i (s : Int × Int) => impl_corner.l0 k (c :: r) ((c :: r).length : Int) i s.1 s.2) (fun _ suf s => (minX s.1 suf, minY s.2 suf)) (fun _ _ => True) ?_ ?_ (c.f0, c.f1) trivial
  · refine Ev.of_eq this ?_
    simp [leastOf, minX, minY, mn]
  · rintro s _
    simp only [impl_corner.l0, len_lt, if_false]
    exact Ev.now _
  · rintro pre d suf s hx _ ih
    simp only [impl_corner.l0, pre_lt hx, pre_0, if_true, at_pre hx, pre_w hx hs]
    exact ih (mn s.1 d.f0, mn s.2 d.f1) trivial
theorem loop_tail {α σ ρ : Type} (c : α) (r : List α) (l : Nat → Int → σ → Option ρ) (g : List α → List α → σ → ρ) (Inv : List α → σ → Prop)
    (hn : ∀ s, Inv (c :: r) s → Ev (fun k => l (k + 1) ((c :: r).length : Int) s) (g (c :: r) [] s))
    (hs : ∀ (pre : List α) (d : α) (suf : List α) (s : σ), c :: r = pre ++ d :: suf → pre ≠ [] → Inv pre s → (∀ s', Inv (pre ++ [d]) s' → Ev (fun k => l k ((pre.length : Int) + 1) s') (g (pre ++ [d]) suf s')) → Ev (fun k => l (k + 1) (pre.length : Int) s) (g pre (d :: suf) s)) :
    ∀ s, Inv [c] s → Ev (fun k => l k 1 s) (g [c] r s) := by
  have key : ∀ (suf pre : List α), c :: r = pre ++ suf → pre ≠ [] → ∀ s, Inv pre s → Ev (fun k => l k (pre.length : Int) s) (g pre suf s) := by
    intro suf
    induction suf with
    | nil =>
      intro pre hx _ s hi
      rw [List.append_nil] at hx
      subst hx
      exact Ev.succ (hn s hi)
    | cons d suf ih =>
      intro pre hx hp s hi
      refine Ev.succ (hs pre d suf s hx hp hi fun s' hi' => ?_)
      have := ih (pre ++ [d]) (by rw [hx]; simp) (by simp) s' hi'
      rw [List.length_append] at this
      exact this
  intro s hi
  exact key r [c] rfl (by simp) s hi
theorem specLeast_ev (l : List Cell) (hs : small l) (h0 : 0 < l.length) : Ev (fun k => spec_l02Least.f k l) (leastOf l) := by
  unfold spec_l02Least.f
  obtain ⟨c, r, rfl⟩ : ∃ c r, l = c :: r := by cases l with | nil => simp at h0 | cons c r => exact ⟨c, r, rfl⟩
  refine Ev.pos (by simp <;> omega) ?_
  have h1 : rd_T25 (c :: r) 0 = c := rfl
  rw [h1]
  refine loop_tail c r (fun k i (s : Int × Int) => spec_l02Least.l0 k (c :: r) s.1 s.2 i) (fun _ suf s => (minX s.1 suf, minY s.2 suf)) (fun _ _ => True) ?_ ?_ (c.f0, c.f1) trivial
  · rintro s _
    simp only [spec_l02Least.l0, len_lt, if_false]
    exact Ev.now _
  · rintro pre d suf s hx _ _ ih
    simp only [spec_l02Least.l0, pre_lt hx, pre_0, if_true, at_pre hx, pre_w hx hs]
    exact ih (mn s.1 d.f0, mn s.2 d.f1) trivial
theorem minX_le : ∀ (l : List Cell) (z : Int), minX z l ≤ z ∧ (∀ c ∈ l, minX z l ≤ c.f0) ∧ (minX z l = z ∨ ∃ c ∈ l, minX z l = c.f0)
  | [], z => ⟨Int.le_refl _, fun c h => by simp at h, .inl rfl⟩
  | a :: r, z => by
    obtain ⟨h1, h2, h3⟩ := minX_le r (mn z a.f0)
    have h4 : mn z a.f0 ≤ z ∧ mn z a.f0 ≤ a.f0 ∧ (mn z a.f0 = z ∨ mn z a.f0 = a.f0) := by unfold mn; split <;> omega
    have e : minX z (a :: r) = minX (mn z a.f0) r := rfl
    rw [e]
    refine ⟨by omega, fun c hc => ?_, ?_⟩
    · rcases List.mem_cons.1 hc with rfl | hc
      · omega
      · exact h2 c hc
    · rcases h3 with h3 | ⟨c, hc, h3⟩
      · rcases h4.2.2 with h5 | h5
        · exact .inl (h3.trans h5)
        · exact .inr ⟨a, List.mem_cons_self, h3.trans h5⟩
      · exact .inr ⟨c, List.mem_cons_of_mem _ hc, h3⟩
theorem minY_le : ∀ (l : List Cell) (z : Int), minY z l ≤ z ∧ (∀ c ∈ l, minY z l ≤ c.f1) ∧ (minY z l = z ∨ ∃ c ∈ l, minY z l = c.f1)
  | [], z => ⟨Int.le_refl _, fun c h => by simp at h, .inl rfl⟩
  | a :: r, z => by
    obtain ⟨h1, h2, h3⟩ := minY_le r (mn z a.f1)
    have h4 : mn z a.f1 ≤ z ∧ mn z a.f1 ≤ a.f1 ∧ (mn z a.f1 = z ∨ mn z a.f1 = a.f1) := by unfold mn; split <;> omega
    have e : minY z (a :: r) = minY (mn z a.f1) r := rfl
    rw [e]
    refine ⟨by omega, fun c hc => ?_, ?_⟩
    · rcases List.mem_cons.1 hc with rfl | hc
      · omega
      · exact h2 c hc
    · rcases h3 with h3 | ⟨c, hc, h3⟩
      · rcases h4.2.2 with h5 | h5
        · exact .inl (h3.trans h5)
        · exact .inr ⟨a, List.mem_cons_self, h3.trans h5⟩
      · exact .inr ⟨c, List.mem_cons_of_mem _ hc, h3⟩
theorem least_le {l : List Cell} {c : Cell} (h : c ∈ l) : (leastOf l).1 ≤ c.f0 ∧ (leastOf l).2 ≤ c.f1 := by
  cases l with
  | nil => simp at h
  | cons a r =>
    have hx := minX_le r a.f0
    have hy := minY_le r a.f1
    show minX a.f0 r ≤ c.f0 ∧ minY a.f1 r ≤ c.f1
    rcases List.mem_cons.1 h with rfl | h
    · exact ⟨hx.1, hy.1⟩
    · exact ⟨hx.2.1 c h, hy.2.1 c h⟩
theorem least_mem {l : List Cell} (h : l ≠ []) : (∃ c ∈ l, (leastOf l).1 = c.f0) ∧ (∃ c ∈ l, (leastOf l).2 = c.f1) := by
  cases l with
  | nil => exact absurd rfl h
  | cons a r =>
    refine ⟨?_, ?_⟩
    · rcases (minX_le r a.f0).2.2 with e | ⟨c, hc, e⟩
      · exact ⟨a, List.mem_cons_self, e⟩
      · exact ⟨c, List.mem_cons_of_mem _ hc, e⟩
    · rcases (minY_le r a.f1).2.2 with e | ⟨c, hc, e⟩
      · exact ⟨a, List.mem_cons_self, e⟩
      · exact ⟨c, List.mem_cons_of_mem _ hc, e⟩
def sameC (a b : Cell) : Bool := decide (a.f0 = b.f0) && decide (a.f1 = b.f1)
theorem sameC_iff {a b : Cell} : sameC a b = true ↔ a = b := by
  obtain ⟨a0, a1⟩ := a
  obtain ⟨b0, b1⟩ := b
  simp [sameC]
def idxF : List Cell → Cell → Int → Int
  | [], _, _ => -1
  | a :: r, c, i => if sameC a c = true then i else idxF r c (i + 1)
def idxC (l : List Cell) (c : Cell) : Int := idxF l c 0
theorem specIndex_ev (l : List Cell) (c : Cell) (hs : small l) : Ev (fun k => spec_l02Index.f k l c.f0 c.f1) (idxC l c) := by
  unfold spec_l02Index.f
  refine loop_list l (fun k i (_ : Unit) => spec_l02Index.l0 k l i c.f0 c.f1) (fun pre suf _ => idxF suf c (pre.length : Int)) (fun _ _ => True) ?_ ?_ () trivial
  · intro _ _
    simp only [spec_l02Index.l0, len_lt, if_false]
    exact Ev.now _
  · intro pre d suf _ hx _ ih
    simp only [spec_l02Index.l0, pre_lt hx, pre_0, if_true, at_pre hx, pre_w hx hs, idxF]
    have e : (d.f0 == c.f0 && d.f1 == c.f1) = sameC d c := by simp [sameC, BEq.beq]
    rw [e]
    refine Ev.if_ (fun _ => Ev.now _) (fun _ => Ev.of_eq (ih () trivial) ?_)
    simp
theorem idxF_spec : ∀ (l : List Cell) (c : Cell) (i : Int), 0 ≤ i → (idxF l c i = -1 ∧ c ∉ l) ∨ (∃ j : Nat, j < l.length ∧ idxF l c i = i + (j : Int) ∧ l[j]? = some c ∧ ∀ q : Nat, q < j → l[q]? ≠ some c)
  | [], c, i, _ => .inl ⟨rfl, by simp⟩
  | a :: r, c, i, hi => by
    unfold idxF
    by_cases h : sameC a c = true
    · rw [if_pos h]
      exact .inr ⟨0, by simp, by simp, by simp [sameC_iff.1 h], fun q hq => by omega⟩
    · rw [if_neg h]
      have hne : a ≠ c := fun e => h (sameC_iff.2 e)
      rcases idxF_spec r c (i + 1) (by omega) with ⟨h1, h2⟩ | ⟨j, h1, h2, h3, h4⟩
      · exact .inl ⟨h1, by simp only [List.mem_cons, not_or]; exact ⟨fun e => hne e.symm, h2⟩⟩
      · refine .inr ⟨j + 1, by simpa using h1, by rw [h2]; simp; omega, by simpa using h3, fun q hq => ?_⟩
        cases q with
        | zero => simpa using hne
        | succ q => simpa using h4 q (by omega)
theorem idxC_spec (l : List Cell) (c : Cell) : (idxC l c = -1 ∧ c ∉ l) ∨ (∃ j : Nat, j < l.length ∧ idxC l c = (j : Int) ∧ l[j]? = some c ∧ ∀ q : Nat, q < j → l[q]? ≠ some c) := by
  rcases idxF_spec l c 0 (Int.le_refl _) with h | ⟨j, h1, h2, h3⟩
  · exact .inl h
  · exact .inr ⟨j, h1, by unfold idxC; rw [h2]; omega, h3⟩
theorem idxC_mem (l : List Cell) (c : Cell) : idxC l c ≥ 0 ↔ c ∈ l := by
  rcases idxC_spec l c with ⟨h1, h2⟩ | ⟨j, h1, h2, h3, _⟩
  · rw [h1]; constructor
    · intro h; omega
    · intro h; exact absurd h h2
  · rw [h2]; constructor
    · intro _; exact List.mem_of_getElem? h3
    · intro _; omega
theorem ltC_irrefl (a : Cell) : ¬ ltC a a := by unfold ltC; omega
theorem ltC_total {a b : Cell} (h : ¬ ltC a b) (h' : ¬ ltC b a) : a = b := by
  obtain ⟨a0, a1⟩ := a
  obtain ⟨b0, b1⟩ := b
  unfold ltC at *
  simp only [S25.mk.injEq]
  simp only at h h'
  omega
instance (priority := low) : DecidableEq Cell := fun a b => decidable_of_iff (sameC a b = true) sameC_iff
def cmpL : List Cell → List Cell → Int
  | [], _ => 0
  | _ :: _, [] => 0
  | a :: r, b :: s => if ltC a b then -1 else if ltC b a then 1 else cmpL r s
def cmpS (a b : List Cell) : Int := if a.length = b.length then cmpL a b else if a.length < b.length then -1 else 1
theorem cmpL_zero : ∀ (a b : List Cell), a.length = b.length → (cmpL a b = 0 ↔ a = b)
  | [], b, h => by
    have : b = [] := List.length_eq_zero_iff.1 h.symm
    simp [cmpL, this]
  | a :: r, [], h => by simp at h
  | a :: r, b :: s, h => by
    unfold cmpL
    by_cases h1 : ltC a b
    · rw [if_pos h1]
      have : a ≠ b := fun e => ltC_irrefl b (e ▸ h1)
      simp [this]
    · rw [if_neg h1]
      by_cases h2 : ltC b a
      · rw [if_pos h2]
        have : a ≠ b := fun e => ltC_irrefl b (e ▸ h2)
        simp [this]
      · rw [if_neg h2, cmpL_zero r s (by simpa using h)]
        simp [ltC_total h1 h2]
theorem cmpS_zero (a b : List Cell) : cmpS a b = 0 ↔ a = b := by
  unfold cmpS
  by_cases h : a.length = b.length
  · rw [if_pos h]; exact cmpL_zero a b h
  · rw [if_neg h]
    have : a ≠ b := fun e => h (by rw [e])
    split <;> simp [this]
theorem specCompare_ev (a b : List Cell) (ha : small a) : Ev (fun k => spec_CompareShapes.f k a b) (cmpS a b) := by
  unfold spec_CompareShapes.f cmpS
  by_cases hl : a.length = b.length
  · rw [if_pos hl]
    refine Ev.pos (by omega) ?_
    refine loop_list a (fun k i (_ : Unit) => spec_CompareShapes.l0 k a b i) (fun pre suf _ => cmpL suf (b.drop pre.length)) (fun _ _ => True) ?_ ?_ () trivial
    · intro _ _
      simp only [spec_CompareShapes.l0, len_lt, if_false]
      exact Ev.of_eq (Ev.now _) (by simp [cmpL])
    · intro pre c suf _ hx _ ih
      have hp := pre_len hx
      have hpb : pre.length < b.length := by omega
      have hlt : ((pre.length : Int) < (b.length : Int)) = True := by simp; omega
      have eb : rd_T25 b (pre.length : Int) = b[pre.length] := by
        unfold rd_T25
        rw [List.getD_eq_getElem?_getD, Int.toNat_natCast, List.getElem?_eq_getElem hpb]
        rfl
      simp only [spec_CompareShapes.l0, pre_lt hx, pre_0, if_true, hlt, at_pre hx, pre_w hx ha, eb, l02Less_eq, Option.bind_some]
      rw [List.drop_eq_getElem_cons hpb, cmpL]
      have hih := ih () trivial
      rw [List.length_append, List.length_singleton] at hih
      generalize b.drop (pre.length + 1) = R at hih ⊢
      generalize b[pre.length] = d at hih ⊢
      by_cases h1 : ltC c d
      · have h1' : c.f1 < d.f1 ∨ c.f1 = d.f1 ∧ c.f0 < d.f0 := h1
        rw [if_pos h1]
        exact Ev.pos (by simpa using h1') (Ev.now _)
      · have h1' : ¬ (c.f1 < d.f1 ∨ c.f1 = d.f1 ∧ c.f0 < d.f0) := h1
        rw [if_neg h1]
        refine Ev.neg (by simpa using h1') ?_
        by_cases h2 : ltC d c
        · have h2' : d.f1 < c.f1 ∨ d.f1 = c.f1 ∧ d.f0 < c.f0 := h2
          rw [if_pos h2]
          exact Ev.pos (by simpa using h2') (Ev.now _)
        · have h2' : ¬ (d.f1 < c.f1 ∨ d.f1 = c.f1 ∧ d.f0 < c.f0) := h2
          rw [if_neg h2]
          exact Ev.neg (by simpa using h2') hih
  · rw [if_neg hl]
    refine Ev.neg (by omega) ?_
    by_cases h : a.length < b.length
    · rw [if_pos h]; exact Ev.pos (by omega) (Ev.now _)
    · rw [if_neg h]; exact Ev.neg (by omega) (Ev.now _)
theorem cmpC_val (c d : Cell) : cmpC c d = if ltC c d then -1 else if ltC d c then 1 else 0 := by
  unfold cmpC cmpI ltC
  repeat' split
  all_goals omega
theorem implCompareS_ev (a b : List Cell) (ha : small a) : Ev (fun k => impl_compareShapes.f k a b) (cmpS a b) := by
  unfold impl_compareShapes.f cmpS
  by_cases hl : a.length = b.length
  · rw [if_pos hl]
    refine Ev.pos (by omega) (Ev.bind ?_ (Ev.now _))
    unfold impl_Cell_85__impl_compareCells.f
    refine loop_list a (fun k i (_ : Unit) => impl_Cell_85__impl_compareCells.l0 k a b a (a.length : Int) i) (fun pre suf _ => cmpL suf (b.drop pre.length)) (fun _ _ => True) ?_ ?_ () trivial
    · intro _ _
      simp only [impl_Cell_85__impl_compareCells.l0, len_lt, if_false]
      exact Ev.neg (by omega) (Ev.of_eq (Ev.now _) (by simp [cmpL]))
    · intro pre c suf _ hx _ ih
      have hp := pre_len hx
      have hpb : pre.length < b.length := by omega
      have eb : rd_T25 b (pre.length : Int) = b[pre.length] := by
        unfold rd_T25
        rw [List.getD_eq_getElem?_getD, Int.toNat_natCast, List.getElem?_eq_getElem hpb]
        rfl
      simp only [impl_Cell_85__impl_compareCells.l0, pre_lt hx, pre_0, if_true, at_pre hx, pre_w hx ha, eb, compareCells_eq, Option.bind_some]
      refine Ev.neg (by omega) (Ev.pos (by omega) ?_)
      rw [List.drop_eq_getElem_cons hpb, cmpL]
      have hih := ih () trivial
      rw [List.length_append, List.length_singleton] at hih
      generalize b.drop (pre.length + 1) = R at hih ⊢
      generalize b[pre.length] = d at hih ⊢
      have hv := cmpC_val c d
      by_cases h1 : ltC c d
      · rw [if_pos h1] at hv ⊢
        exact Ev.neg (by omega) (Ev.of_eq (Ev.now _) hv)
      · rw [if_neg h1] at hv ⊢
        by_cases h2 : ltC d c
        · rw [if_pos h2] at hv ⊢
          exact Ev.neg (by omega) (Ev.of_eq (Ev.now _) hv)
        · rw [if_neg h2] at hv ⊢
          exact Ev.pos hv hih
  · rw [if_neg hl]
    refine Ev.neg (by omega) ?_
    by_cases h : a.length < b.length
    · rw [if_pos h]; exact Ev.pos (by omega) (Ev.now _)
    · rw [if_neg h]; exact Ev.neg (by omega) (Ev.now _)
def minS : List Cell → List (List Cell) → List Cell
  | m, [] => m
  | m, x :: r => minS (if cmpS x m < 0 then x else m) r
theorem at_preL2 {xs pre suf : List (List Cell)} {c : List Cell} (h : xs = pre ++ c :: suf) : rd_L2 xs (pre.length : Int) = c := by
  subst h; exact getD_at pre suf c _
theorem implMin_ev (c : List Cell) (r : List (List Cell)) (hs : small (c :: r)) (hx_ : ∀ x ∈ c :: r, small x) : Ev (fun k => impl_leastOf.f k (c :: r)) (minS c r) := by
  unfold impl_leastOf.f
  refine Ev.bind ?_ (Ev.now _)
  unfold impl_Cell_68__impl_compareShapes.f
  refine Ev.neg (by rw [List.length_cons]; omega) (Ev.pos (by rw [List.length_cons]; omega) ?_)
  have h1 : rd_L2 (c :: r) 0 = c := rfl
  rw [h1]
  refine loop_tail c r (fun k i (s : List Cell) => impl_Cell_68__impl_compareShapes.l0 k (c :: r) s i) (fun _ suf s => minS s suf) (fun _ s => True) ?_ ?_ c trivial
  · rintro s _
    simp only [impl_Cell_68__impl_compareShapes.l0, len_lt, if_false]
    exact Ev.now _
  · rintro pre d suf s hx _ _ ih
    simp only [impl_Cell_68__impl_compareShapes.l0, pre_lt hx, pre_0, if_true, at_preL2 hx, pre_w hx hs]
    refine Ev.bind (implCompareS_ev d s (hx_ d (by rw [hx]; simp))) ?_
    unfold minS
    by_cases h : cmpS d s < 0
    · rw [if_pos h]; exact Ev.pos h (ih d trivial)
    · rw [if_neg h]; exact Ev.neg h (ih s trivial)
end Go.Proofs.YtlnliahadgmbcaaGreat.L
end
section
namespace Go.Proofs.YtlnliahadgmbcaaGreat.L
open Go.RowKit Go.Proofs.YtlnliahadgmbcaaGreatW.PrintWords Go.Proofs.YtlnliahadgmbcaaGreatW.PrintLast Go.Proofs.YtlnliahadgmbcaaGreatW.PrintMore Go.Proofs.YtlnliahadgmbcaaGreat.F
set_option linter.unusedVariables false
set_option linter.unusedSimpArgs false
theorem cmpV_ltC (a b : Cell) : cmpV a b = if ltC a b then -1 else if ltC b a then 1 else 0 := by
  unfold cmpV cI ltC
  repeat' split
  all_goals omega
theorem ordL_eq : ∀ a b : List Cell, ordL a b = cmpL a b
  | [], _ => by simp [ordL, cmpL]
  | _ :: _, [] => by simp [ordL, cmpL]
  | a :: r, b :: s => by
    unfold ordL cmpL
    rw [cmpV_ltC, ordL_eq r s]
    by_cases h1 : ltC a b
    · rw [if_pos h1, if_pos h1, if_neg (by omega)]
    · rw [if_neg h1, if_neg h1]
      by_cases h2 : ltC b a
      · rw [if_pos h2, if_pos h2, if_neg (by omega)]
      · rw [if_neg h2, if_neg h2, if_pos rfl]
theorem ordS_eq (a b : List Cell) : ordS a b = cmpS a b := by unfold ordS cmpS; rw [ordL_eq]
theorem cmpS_self (a : List Cell) : cmpS a a = 0 := (cmpS_zero a a).2 rfl
theorem cmpS_anti (a b : List Cell) : cmpS b a = -cmpS a b := by rw [← ordS_eq, ← ordS_eq]; exact ordS_anti a b
theorem cmpS_trans {a b c : List Cell} (h1 : cmpS a b ≤ 0) (h2 : cmpS b c ≤ 0) : cmpS a c ≤ 0 := by
  rw [← ordS_eq] at *
  exact ordS_trans h1 h2
theorem cmpS_lt_trans {a b c : List Cell} (h1 : cmpS a b < 0) (h2 : cmpS b c < 0) : cmpS a c < 0 := by
  have h3 := cmpS_trans (a := a) (b := b) (c := c) (by omega) (by omega)
  by_cases e : cmpS a c = 0
  · have := (cmpS_zero a c).1 e
    subst this
    have := cmpS_anti a b
    omega
  · omega
def asc (l : List (List Cell)) : Prop := l.Pairwise fun a b => cmpS a b < 0
theorem asc_eq : ∀ (a b : List (List Cell)), asc a → asc b → (∀ x, x ∈ a ↔ x ∈ b) → a = b
  | [], [], _, _, _ => rfl
  | [], b :: s, _, _, h => absurd ((h b).2 List.mem_cons_self) (by simp)
  | a :: r, [], _, _, h => absurd ((h a).1 List.mem_cons_self) (by simp)
  | a :: r, b :: s, ha, hb, h => by
    obtain ⟨h1, h2⟩ := List.pairwise_cons.1 ha
    obtain ⟨h3, h4⟩ := List.pairwise_cons.1 hb
    have e : a = b := by
      rcases List.mem_cons.1 ((h a).1 List.mem_cons_self) with e | e
      · exact e
      · rcases List.mem_cons.1 ((h b).2 List.mem_cons_self) with e' | e'
        · exact e'.symm
        · have := h1 b e'
          have := h3 a e
          have := cmpS_anti a b
          omega
    subst e
    congr 1
    refine asc_eq r s h2 h4 fun x => ⟨fun hx => ?_, fun hx => ?_⟩
    · rcases List.mem_cons.1 ((h x).1 (List.mem_cons_of_mem _ hx)) with e | e
      · have := h1 x hx
        rw [e, cmpS_self] at this
        omega
      · exact e
    · rcases List.mem_cons.1 ((h x).2 (List.mem_cons_of_mem _ hx)) with e | e
      · have := h3 x hx
        rw [e, cmpS_self] at this
        omega
      · exact e
theorem sortS_sorted (l : List (List Cell)) : (sortS l).Pairwise fun a b => cmpS a b ≤ 0 := by
  have := List.pairwise_mergeSort (le := fun x y : List Cell => !Go.Proofs.ltOf ordS y x) (fun a b c h1 h2 => by
    simp only [Bool.not_eq_true'] at *
    exact swoS.ntrans c b a h2 h1) (fun a b => by
    rw [Bool.or_eq_true]
    by_cases e : Go.Proofs.ltOf ordS b a = true
    · right
      simp only [Bool.not_eq_true']
      rw [ltS_iff]
      unfold Go.Proofs.ltOf at e
      rw [decide_eq_true_eq] at e
      rw [ordS_anti]
      omega
    · left
      simpa using e) l
  refine this.imp fun {a b} h => ?_
  simp only [Bool.not_eq_true'] at h
  rw [ltS_iff, ordS_eq] at h
  have := cmpS_anti a b
  omega
theorem sortS_mem {l : List (List Cell)} {x : List Cell} : x ∈ sortS l ↔ x ∈ l := (List.mergeSort_perm _ _).mem_iff
theorem compG_mem {β : Type} [DecidableEq β] : ∀ (l : List β) (p x : β), x ∈ compG p l ∨ x = p ↔ x ∈ l ∨ x = p
  | [], p, x => by simp [compG]
  | a :: r, p, x => by
    have ih := compG_mem r a x
    rw [compG]
    by_cases h : a = p
    · subst h
      rw [if_pos rfl, ih, List.mem_cons]
      constructor
      · rintro (h1 | h1)
        · exact .inl (.inr h1)
        · exact .inr h1
      · rintro ((h1 | h1) | h1)
        · exact .inr h1
        · exact .inl h1
        · exact .inr h1
    · rw [if_neg h, List.mem_cons, List.mem_cons]
      constructor
      · rintro ((h1 | h1) | h1)
        · exact .inl (.inl h1)
        · rcases ih.1 (.inl h1) with h2 | h2
          · exact .inl (.inr h2)
          · exact .inl (.inl h2)
        · exact .inr h1
      · rintro ((h1 | h1) | h1)
        · exact .inl (.inl h1)
        · rcases ih.2 (.inl h1) with h2 | h2
          · exact .inl (.inr h2)
          · exact .inl (.inl h2)
        · exact .inr h1
theorem compF_mem {β : Type} [DecidableEq β] {l : List β} {x : β} : x ∈ compF l ↔ x ∈ l := by
  cases l with
  | nil => simp [compF]
  | cons a r =>
    have := compG_mem r a x
    rw [compF, List.mem_cons, List.mem_cons]
    constructor
    · rintro (h | h)
      · exact .inl h
      · rcases this.1 (.inl h) with h | h
        · exact .inr h
        · exact .inl h
    · rintro (h | h)
      · exact .inl h
      · rcases this.2 (.inl h) with h | h
        · exact .inr h
        · exact .inl h
theorem compG_asc : ∀ (l : List (List Cell)) (p : List Cell), (p :: l).Pairwise (fun a b => cmpS a b ≤ 0) → asc (p :: compG p l)
  | [], p, _ => by simp [compG, asc]
  | a :: r, p, h => by
    obtain ⟨h1, h2⟩ := List.pairwise_cons.1 h
    have ih := compG_asc r a h2
    rw [compG]
    by_cases e : a = p
    · subst e
      rw [if_pos rfl]
      exact ih
    · rw [if_neg e]
      have hpa : cmpS p a < 0 := by
        have := h1 a List.mem_cons_self
        have hne : cmpS p a ≠ 0 := fun h => e ((cmpS_zero p a).1 h).symm
        omega
      refine List.pairwise_cons.2 ⟨fun b hb => ?_, ih⟩
      rcases List.mem_cons.1 hb with rfl | hb
      · exact hpa
      · exact cmpS_lt_trans hpa ((List.pairwise_cons.1 ih).1 b hb)
end Go.Proofs.YtlnliahadgmbcaaGreat.L
end
