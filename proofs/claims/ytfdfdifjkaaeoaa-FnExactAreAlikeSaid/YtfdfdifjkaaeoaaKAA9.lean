/- The row of FnExactAreAlike, with what it needs: text 10 of 12. -/
import Derived.Test.YtfdfdifjkaaeoaaKAA8
import Derived.ChangeArms
import Derived.ChangeSame
import Derived.Deep.Fields
import Derived.Deep.Slices
import Derived.Deep.Strs
import Derived.WideShapes
set_option maxHeartbeats 8000000
set_option maxRecDepth 100000
section
namespace Go.Proofs.Ytfdfdifjkaaeoaa.F
open Go.RowKit Go.Proofs.YtfdfdifjkaaeoaaW.PrintWords Go.Proofs.YtfdfdifjkaaeoaaW.PrintLast Go.Proofs.YtfdfdifjkaaeoaaW.PrintMore
attribute [local go_sem] max2_int min2_int max_two min_two max_three min_three max_four min_four
set_option linter.unusedVariables false
set_option linter.unusedSimpArgs false
theorem laws_FnExactAreAlike.calls (k : Nat) (A0_0 : Option Addr) (c0_0 : Nat) (l0_0 : List (S72)) (a0_1 : Int) (a0_2 : Bool) (A1_0 : Option Addr) (c1_0 : Nat) (l1_0 : List (S72)) (a1_1 : Int) (a1_2 : Bool) (r : Bool) (w : World) (hr0_0 : Kd.C k72 w A0_0 l0_0.length l0_0) (hc0_0 : l0_0.length ≤ c0_0) (hr1_0 : Kd.C k72 w A1_0 l1_0.length l1_0) (hc1_0 : l1_0.length ≤ c1_0) (h : laws_FnExactAreAlike.f k l0_0 a0_1 a0_2 l1_0 a1_1 a1_2 = some r) :
  Calls Try.prog 6 #[.agg #[.slice A0_0 l0_0.length c0_0, .int .i64 a0_1, .bool a0_2], .agg #[.slice A1_0 l1_0.length c1_0, .int .i64 a1_1, .bool a1_2]] w fun e w' => e = .returned (.bool r) ∧ Below w.heap.size w w' := by
 have hu47 := Try.underlying47
 have hu51 := Try.underlying51
 have HR0_0 := aM hr0_0
 have HC0_0 := aM hc0_0
 clear hr0_0 hc0_0
 have HR1_0 := aM hr1_0
 have HC1_0 := aM hc1_0
 clear hr1_0 hc1_0
 have HB := aM (Below.refl w.heap.size w)
 have H : ((laws_szPiece.f l0_0 a0_1 a0_2 1048576).bind fun t860 => (if t860 < 0 then (some true) else ((laws_szPiece.f l1_0 a1_1 a1_2 t860).bind fun t861 => (if t861 < 0 then (some true) else ((laws_toPiece.f k l0_0 a0_1 a0_2).bind fun bt862 => ((laws_toPiece.f k l1_0 a1_1 a1_2).bind fun bt867 => ((spec_AreAlike.f k bt862.1 bt862.2.1 bt862.2.2 bt867.1 bt867.2.1 bt867.2.2).bind fun t872 => ((laws_toPiece.f k l0_0 a0_1 a0_2).bind fun bt873 => ((laws_toPiece.f k l1_0 a1_1 a1_2).bind fun bt879 => ((impl_AreAlike.f k bt873.1 bt873.2.1 bt873.2.2 bt879.1 bt879.2.1 bt879.2.2).bind fun t885 => (if (t885 != t872) = true then (some false) else ((laws_toPiece.f k l0_0 a0_1 a0_2).bind fun bt886 => ((laws_eqPiece.f k bt873.1 bt873.2.1 bt873.2.2 bt886.1 bt886.2.1 bt886.2.2).bind fun t891 => (if t891 = true then ((laws_toPiece.f k l1_0 a1_1 a1_2).bind fun bt892 => ((laws_eqPiece.f k bt879.1 bt879.2.1 bt879.2.2 bt892.1 bt892.2.1 bt892.2.2).bind fun t897 => (if t897 = true then (some true) else (some false)))) else (some false))))))))))))))) = some r := h
 clear h
 replace H := Option.bind_eq_some_iff.mp H
 obtain ⟨t860, A30, H⟩ := H
 replace H : (if t860 < 0 then (some true) else ((laws_szPiece.f l1_0 a1_1 a1_2 t860).bind fun t861 => (if t861 < 0 then (some true) else ((laws_toPiece.f k l0_0 a0_1 a0_2).bind fun bt862 => ((laws_toPiece.f k l1_0 a1_1 a1_2).bind fun bt867 => ((spec_AreAlike.f k bt862.1 bt862.2.1 bt862.2.2 bt867.1 bt867.2.1 bt867.2.2).bind fun t872 => ((laws_toPiece.f k l0_0 a0_1 a0_2).bind fun bt873 => ((laws_toPiece.f k l1_0 a1_1 a1_2).bind fun bt879 => ((impl_AreAlike.f k bt873.1 bt873.2.1 bt873.2.2 bt879.1 bt879.2.1 bt879.2.2).bind fun t885 => (if (t885 != t872) = true then (some false) else ((laws_toPiece.f k l0_0 a0_1 a0_2).bind fun bt886 => ((laws_eqPiece.f k bt873.1 bt873.2.1 bt873.2.2 bt886.1 bt886.2.1 bt886.2.2).bind fun t891 => (if t891 = true then ((laws_toPiece.f k l1_0 a1_1 a1_2).bind fun bt892 => ((laws_eqPiece.f k bt879.1 bt879.2.1 bt879.2.2 bt892.1 bt892.2.1 bt892.2.2).bind fun t897 => (if t897 = true then (some true) else (some false)))) else (some false)))))))))))))) = some r := H
 have A3 := aM A30
 clear A30
 by_cases c4 : t860 < 0
 ·rw [if_pos c4] at H
  have c4b0 : decide (t860 < 0) = true := decide_eq_true c4
  clear c4
  obtain rfl := Option.some.inj H
  go_enter Try.func6, Try.ntmps6
  go_wp2_with (first | ((with_reducible refine gate_dst (N := 2) rfl ?_); refine zx 2 #[.slice A0_0 l0_0.length c0_0, .int .i64 a0_1, .bool a0_2] 47 ?_; intro gb858 hg w5 hbox hb; have n0_ := aM (below_step zb hb); have n1_ := aM (hbox); have n2_ := aM ((ze : w.heap.size ≤ gb858)); have n3_ := aM ((ze : w.heap.size ≤ gb858)); clear HB; have HB := n0_; have BK858 := n1_; have GW858 := n2_; have GE858 := n3_; clear n0_ n1_ n2_ n3_; clear hb hbox hg) | ((with_reducible refine gate_dst (N := 3) rfl ?_); refine zx 3 #[.slice A1_0 l1_0.length c1_0, .int .i64 a1_1, .bool a1_2] 47 ?_; intro gb859 hg w6 hbox hb; have n0_ := aM (blk_below (g := gb858) (o := .cells #[.slice A0_0 l0_0.length c0_0, .int .i64 a0_1, .bool a0_2] 47 (0, 0)) (mB_ BK858.out) hb); have n1_ := aM (below_step (zs GE858.out) hb); have n2_ := aM (hbox); have n3_ := aM ((zf GE858.out : w.heap.size ≤ gb859)); have n4_ := aM ((zf GE858.out : w.heap.size ≤ gb859)); have n5_ := aM ((zl BK858.out : gb858 ≠ gb859)); have n6_ := aM ((zn BK858.out : gb859 ≠ gb858)); clear BK858 HB; have BK858 := n0_; have HB := n1_; have BK859 := n2_; have GW859 := n3_; have GE859 := n4_; have NB858_859 := n5_; have NB859_858 := n6_; clear n0_ n1_ n2_ n3_ n4_ n5_ n6_ hb hbox hg; have hnb7 := NB858_859.out; have hnc7 := NB859_858.out; have hcz8_0 : w6.cell? ⟨gb858, 0, none⟩ = some (.slice A0_0 l0_0.length c0_0) := (blk_cell BK858.out 0).trans rfl; have hcz8_1 : w6.cell? ⟨gb858, 1, none⟩ = some (.int .i64 a0_1) := (blk_cell BK858.out 1).trans rfl; have hcz8_2 : w6.cell? ⟨gb858, 2, none⟩ = some (.bool a0_2) := (blk_cell BK858.out 2).trans rfl; have hfz8_0 := blk_frozen BK858.out 0; have hfz8_1 := blk_frozen BK858.out 1; have hfz8_2 := blk_frozen BK858.out 2) | ((with_reducible refine gate_callee (f := 32) rfl ?_); refine goesL_ (some 12) rfl rfl Try.func32 (by kernel_rfl) rfl #[.agg #[.slice A0_0 l0_0.length c0_0, .int .i64 a0_1, .bool a0_2], .int .i64 1048576] rfl zm ?_; (with_reducible refine (laws_szPiece.calls _ _ l0_0 a0_1 a0_2 1048576 t860 _ ?side1 ?side2 A3.out).mono ?_); (case side1 => repeat (first | exact (Kd.C_below HR0_0.out HB.out) | (with_reducible refine Kd.C_alloc ?_ _) | (with_reducible refine Kd.C_drewN ?_ _) | (with_reducible refine Kd.C_drew ?_))); (case side2 => exact HC0_0.out); rintro e w9 ⟨rfl, hb⟩; refine ⟨_, rfl, ?_⟩; have n0_ := aM (blk_below (g := gb858) (o := .cells #[.slice A0_0 l0_0.length c0_0, .int .i64 a0_1, .bool a0_2] 47 (0, 0)) (mB_ BK858.out) hb); have n1_ := aM (blk_below (g := gb859) (o := .cells #[.slice A1_0 l1_0.length c1_0, .int .i64 a1_1, .bool a1_2] 47 (0, 0)) (mB_ BK859.out) hb); have n2_ := aM (below_step (zt GE858.out GE859.out) hb); clear BK858 BK859 HB; have BK858 := n0_; have BK859 := n1_; have HB := n2_; clear n0_ n1_ n2_; (try clear hb); (try clear hb2); (try clear hk); (try clear hi)))
  go_ret
  exact ⟨zw, zt GE858.out GE859.out⟩
 rw [if_neg c4] at H
 have c4b0 : decide (t860 < 0) = false := decide_eq_false c4
 clear c4
 replace H := Option.bind_eq_some_iff.mp H
 obtain ⟨t861, A100, H⟩ := H
 replace H : (if t861 < 0 then (some true) else ((laws_toPiece.f k l0_0 a0_1 a0_2).bind fun bt862 => ((laws_toPiece.f k l1_0 a1_1 a1_2).bind fun bt867 => ((spec_AreAlike.f k bt862.1 bt862.2.1 bt862.2.2 bt867.1 bt867.2.1 bt867.2.2).bind fun t872 => ((laws_toPiece.f k l0_0 a0_1 a0_2).bind fun bt873 => ((laws_toPiece.f k l1_0 a1_1 a1_2).bind fun bt879 => ((impl_AreAlike.f k bt873.1 bt873.2.1 bt873.2.2 bt879.1 bt879.2.1 bt879.2.2).bind fun t885 => (if (t885 != t872) = true then (some false) else ((laws_toPiece.f k l0_0 a0_1 a0_2).bind fun bt886 => ((laws_eqPiece.f k bt873.1 bt873.2.1 bt873.2.2 bt886.1 bt886.2.1 bt886.2.2).bind fun t891 => (if t891 = true then ((laws_toPiece.f k l1_0 a1_1 a1_2).bind fun bt892 => ((laws_eqPiece.f k bt879.1 bt879.2.1 bt879.2.2 bt892.1 bt892.2.1 bt892.2.2).bind fun t897 => (if t897 = true then (some true) else (some false)))) else (some false)))))))))))) = some r := H
 have A10 := aM A100
 clear A100
 by_cases c11 : t861 < 0
 ·rw [if_pos c11] at H
  have c11b0 : decide (t861 < 0) = true := decide_eq_true c11
  clear c11
  obtain rfl := Option.some.inj H
  go_enter Try.func6, Try.ntmps6
  go_wp2_with (first | ((with_reducible refine gate_dst (N := 2) rfl ?_); refine zx 2 #[.slice A0_0 l0_0.length c0_0, .int .i64 a0_1, .bool a0_2] 47 ?_; intro gb858 hg w12 hbox hb; have n0_ := aM (below_step zb hb); have n1_ := aM (hbox); have n2_ := aM ((ze : w.heap.size ≤ gb858)); have n3_ := aM ((ze : w.heap.size ≤ gb858)); clear HB; have HB := n0_; have BK858 := n1_; have GW858 := n2_; have GE858 := n3_; clear n0_ n1_ n2_ n3_; clear hb hbox hg) | ((with_reducible refine gate_dst (N := 3) rfl ?_); refine zx 3 #[.slice A1_0 l1_0.length c1_0, .int .i64 a1_1, .bool a1_2] 47 ?_; intro gb859 hg w13 hbox hb; have n0_ := aM (blk_below (g := gb858) (o := .cells #[.slice A0_0 l0_0.length c0_0, .int .i64 a0_1, .bool a0_2] 47 (0, 0)) (mB_ BK858.out) hb); have n1_ := aM (below_step (zs GE858.out) hb); have n2_ := aM (hbox); have n3_ := aM ((zf GE858.out : w.heap.size ≤ gb859)); have n4_ := aM ((zf GE858.out : w.heap.size ≤ gb859)); have n5_ := aM ((zl BK858.out : gb858 ≠ gb859)); have n6_ := aM ((zn BK858.out : gb859 ≠ gb858)); clear BK858 HB; have BK858 := n0_; have HB := n1_; have BK859 := n2_; have GW859 := n3_; have GE859 := n4_; have NB858_859 := n5_; have NB859_858 := n6_; clear n0_ n1_ n2_ n3_ n4_ n5_ n6_ hb hbox hg; have hnb14 := NB858_859.out; have hnc14 := NB859_858.out; have hcz15_0 : w13.cell? ⟨gb858, 0, none⟩ = some (.slice A0_0 l0_0.length c0_0) := (blk_cell BK858.out 0).trans rfl; have hcz15_1 : w13.cell? ⟨gb858, 1, none⟩ = some (.int .i64 a0_1) := (blk_cell BK858.out 1).trans rfl; have hcz15_2 : w13.cell? ⟨gb858, 2, none⟩ = some (.bool a0_2) := (blk_cell BK858.out 2).trans rfl; have hfz15_0 := blk_frozen BK858.out 0; have hfz15_1 := blk_frozen BK858.out 1; have hfz15_2 := blk_frozen BK858.out 2) | ((with_reducible refine gate_callee (f := 32) rfl ?_); refine goesL_ (some 12) rfl rfl Try.func32 (by kernel_rfl) rfl #[.agg #[.slice A0_0 l0_0.length c0_0, .int .i64 a0_1, .bool a0_2], .int .i64 1048576] rfl zm ?_; (with_reducible refine (laws_szPiece.calls _ _ l0_0 a0_1 a0_2 1048576 t860 _ ?side1 ?side2 A3.out).mono ?_); (case side1 => repeat (first | exact (Kd.C_below HR0_0.out HB.out) | (with_reducible refine Kd.C_alloc ?_ _) | (with_reducible refine Kd.C_drewN ?_ _) | (with_reducible refine Kd.C_drew ?_))); (case side2 => exact HC0_0.out); rintro e w16 ⟨rfl, hb⟩; refine ⟨_, rfl, ?_⟩; have n0_ := aM (blk_below (g := gb858) (o := .cells #[.slice A0_0 l0_0.length c0_0, .int .i64 a0_1, .bool a0_2] 47 (0, 0)) (mB_ BK858.out) hb); have n1_ := aM (blk_below (g := gb859) (o := .cells #[.slice A1_0 l1_0.length c1_0, .int .i64 a1_1, .bool a1_2] 47 (0, 0)) (mB_ BK859.out) hb); have n2_ := aM (below_step (zt GE858.out GE859.out) hb); clear BK858 BK859 HB; have BK858 := n0_; have BK859 := n1_; have HB := n2_; clear n0_ n1_ n2_; (try clear hb); (try clear hb2); (try clear hk); (try clear hi); have hcz17_0 : w16.cell? ⟨gb859, 0, none⟩ = some (.slice A1_0 l1_0.length c1_0) := (blk_cell BK859.out 0).trans rfl; have hcz17_1 : w16.cell? ⟨gb859, 1, none⟩ = some (.int .i64 a1_1) := (blk_cell BK859.out 1).trans rfl; have hcz17_2 : w16.cell? ⟨gb859, 2, none⟩ = some (.bool a1_2) := (blk_cell BK859.out 2).trans rfl; have hfz17_0 := blk_frozen BK859.out 0; have hfz17_1 := blk_frozen BK859.out 1; have hfz17_2 := blk_frozen BK859.out 2) | ((with_reducible refine gate_callee (f := 32) rfl ?_); refine goesL_ (some 17) rfl rfl Try.func32 (by kernel_rfl) rfl #[.agg #[.slice A1_0 l1_0.length c1_0, .int .i64 a1_1, .bool a1_2], .int .i64 t860] rfl zm ?_; (with_reducible refine (laws_szPiece.calls _ _ l1_0 a1_1 a1_2 t860 t861 _ ?side1 ?side2 A10.out).mono ?_); (case side1 => repeat (first | exact (Kd.C_below HR1_0.out HB.out) | (with_reducible refine Kd.C_alloc ?_ _) | (with_reducible refine Kd.C_drewN ?_ _) | (with_reducible refine Kd.C_drew ?_))); (case side2 => exact HC1_0.out); rintro e w18 ⟨rfl, hb⟩; refine ⟨_, rfl, ?_⟩; have n0_ := aM (blk_below (g := gb858) (o := .cells #[.slice A0_0 l0_0.length c0_0, .int .i64 a0_1, .bool a0_2] 47 (0, 0)) (mB_ BK858.out) hb); have n1_ := aM (blk_below (g := gb859) (o := .cells #[.slice A1_0 l1_0.length c1_0, .int .i64 a1_1, .bool a1_2] 47 (0, 0)) (mB_ BK859.out) hb); have n2_ := aM (below_step (zt GE858.out GE859.out) hb); clear BK858 BK859 HB; have BK858 := n0_; have BK859 := n1_; have HB := n2_; clear n0_ n1_ n2_; (try clear hb); (try clear hb2); (try clear hk); (try clear hi)))
  go_ret
  exact ⟨zw, zt GE858.out GE859.out⟩
 rw [if_neg c11] at H
 have c11b0 : decide (t861 < 0) = false := decide_eq_false c11
 clear c11
 replace H := Option.bind_eq_some_iff.mp H
 obtain ⟨⟨t862, t865, t866⟩, A190, H⟩ := H
 replace H : ((laws_toPiece.f k l1_0 a1_1 a1_2).bind fun bt867 => ((spec_AreAlike.f k t862 t865 t866 bt867.1 bt867.2.1 bt867.2.2).bind fun t872 => ((laws_toPiece.f k l0_0 a0_1 a0_2).bind fun bt873 => ((laws_toPiece.f k l1_0 a1_1 a1_2).bind fun bt879 => ((impl_AreAlike.f k bt873.1 bt873.2.1 bt873.2.2 bt879.1 bt879.2.1 bt879.2.2).bind fun t885 => (if (t885 != t872) = true then (some false) else ((laws_toPiece.f k l0_0 a0_1 a0_2).bind fun bt886 => ((laws_eqPiece.f k bt873.1 bt873.2.1 bt873.2.2 bt886.1 bt886.2.1 bt886.2.2).bind fun t891 => (if t891 = true then ((laws_toPiece.f k l1_0 a1_1 a1_2).bind fun bt892 => ((laws_eqPiece.f k bt879.1 bt879.2.1 bt879.2.2 bt892.1 bt892.2.1 bt892.2.2).bind fun t897 => (if t897 = true then (some true) else (some false)))) else (some false)))))))))) = some r := H
 have A19 := aM A190
 clear A190
 replace H := Option.bind_eq_some_iff.mp H
 obtain ⟨⟨t867, t870, t871⟩, A200, H⟩ := H
 replace H : ((spec_AreAlike.f k t862 t865 t866 t867 t870 t871).bind fun t872 => ((laws_toPiece.f k l0_0 a0_1 a0_2).bind fun bt873 => ((laws_toPiece.f k l1_0 a1_1 a1_2).bind fun bt879 => ((impl_AreAlike.f k bt873.1 bt873.2.1 bt873.2.2 bt879.1 bt879.2.1 bt879.2.2).bind fun t885 => (if (t885 != t872) = true then (some false) else ((laws_toPiece.f k l0_0 a0_1 a0_2).bind fun bt886 => ((laws_eqPiece.f k bt873.1 bt873.2.1 bt873.2.2 bt886.1 bt886.2.1 bt886.2.2).bind fun t891 => (if t891 = true then ((laws_toPiece.f k l1_0 a1_1 a1_2).bind fun bt892 => ((laws_eqPiece.f k bt879.1 bt879.2.1 bt879.2.2 bt892.1 bt892.2.1 bt892.2.2).bind fun t897 => (if t897 = true then (some true) else (some false)))) else (some false))))))))) = some r := H
 have A20 := aM A200
 clear A200
 replace H := Option.bind_eq_some_iff.mp H
 obtain ⟨t872, A210, H⟩ := H
 replace H : ((laws_toPiece.f k l0_0 a0_1 a0_2).bind fun bt873 => ((laws_toPiece.f k l1_0 a1_1 a1_2).bind fun bt879 => ((impl_AreAlike.f k bt873.1 bt873.2.1 bt873.2.2 bt879.1 bt879.2.1 bt879.2.2).bind fun t885 => (if (t885 != t872) = true then (some false) else ((laws_toPiece.f k l0_0 a0_1 a0_2).bind fun bt886 => ((laws_eqPiece.f k bt873.1 bt873.2.1 bt873.2.2 bt886.1 bt886.2.1 bt886.2.2).bind fun t891 => (if t891 = true then ((laws_toPiece.f k l1_0 a1_1 a1_2).bind fun bt892 => ((laws_eqPiece.f k bt879.1 bt879.2.1 bt879.2.2 bt892.1 bt892.2.1 bt892.2.2).bind fun t897 => (if t897 = true then (some true) else (some false)))) else (some false)))))))) = some r := H
 have A21 := aM A210
 clear A210
 replace H := Option.bind_eq_some_iff.mp H
 obtain ⟨⟨t873, t876, t877⟩, A220, H⟩ := H
 replace H : ((laws_toPiece.f k l1_0 a1_1 a1_2).bind fun bt879 => ((impl_AreAlike.f k t873 t876 t877 bt879.1 bt879.2.1 bt879.2.2).bind fun t885 => (if (t885 != t872) = true then (some false) else ((laws_toPiece.f k l0_0 a0_1 a0_2).bind fun bt886 => ((laws_eqPiece.f k t873 t876 t877 bt886.1 bt886.2.1 bt886.2.2).bind fun t891 => (if t891 = true then ((laws_toPiece.f k l1_0 a1_1 a1_2).bind fun bt892 => ((laws_eqPiece.f k bt879.1 bt879.2.1 bt879.2.2 bt892.1 bt892.2.1 bt892.2.2).bind fun t897 => (if t897 = true then (some true) else (some false)))) else (some false))))))) = some r := H
 have A22 := aM A220
 clear A220
 replace H := Option.bind_eq_some_iff.mp H
 obtain ⟨⟨t879, t882, t883⟩, A230, H⟩ := H
 replace H : ((impl_AreAlike.f k t873 t876 t877 t879 t882 t883).bind fun t885 => (if (t885 != t872) = true then (some false) else ((laws_toPiece.f k l0_0 a0_1 a0_2).bind fun bt886 => ((laws_eqPiece.f k t873 t876 t877 bt886.1 bt886.2.1 bt886.2.2).bind fun t891 => (if t891 = true then ((laws_toPiece.f k l1_0 a1_1 a1_2).bind fun bt892 => ((laws_eqPiece.f k t879 t882 t883 bt892.1 bt892.2.1 bt892.2.2).bind fun t897 => (if t897 = true then (some true) else (some false)))) else (some false)))))) = some r := H
 have A23 := aM A230
 clear A230
 replace H := Option.bind_eq_some_iff.mp H
 obtain ⟨t885, A240, H⟩ := H
 replace H : (if (t885 != t872) = true then (some false) else ((laws_toPiece.f k l0_0 a0_1 a0_2).bind fun bt886 => ((laws_eqPiece.f k t873 t876 t877 bt886.1 bt886.2.1 bt886.2.2).bind fun t891 => (if t891 = true then ((laws_toPiece.f k l1_0 a1_1 a1_2).bind fun bt892 => ((laws_eqPiece.f k t879 t882 t883 bt892.1 bt892.2.1 bt892.2.2).bind fun t897 => (if t897 = true then (some true) else (some false)))) else (some false))))) = some r := H
 have A24 := aM A240
 clear A240
 by_cases c25 : (t885 != t872) = true
 ·rw [if_pos c25] at H
  have c25b0 : (t885 != t872) = true := c25
  (try (have c25b1 : decide (t885 = t872) = false := by simpa using c25))
  (try (have c25b2 : (t885 == t872) = false := by simpa using c25))
  (try (have c25b3 : ¬ (t885 = t872) := by simpa using c25))
  clear c25
  obtain rfl := Option.some.inj H
  go_enter Try.func6, Try.ntmps6
  try go_wp2_with (first | ((with_reducible refine gate_dst (N := 2) rfl ?_); refine zx 2 #[.slice A0_0 l0_0.length c0_0, .int .i64 a0_1, .bool a0_2] 47 ?_; intro gb858 hg w26 hbox hb; have n0_ := aM (below_step zb hb); have n1_ := aM (hbox); have n2_ := aM ((ze : w.heap.size ≤ gb858)); have n3_ := aM ((ze : w.heap.size ≤ gb858)); clear HB; have HB := n0_; have BK858 := n1_; have GW858 := n2_; have GE858 := n3_; clear n0_ n1_ n2_ n3_; clear hb hbox hg) | ((with_reducible refine gate_dst (N := 3) rfl ?_); refine zx 3 #[.slice A1_0 l1_0.length c1_0, .int .i64 a1_1, .bool a1_2] 47 ?_; intro gb859 hg w27 hbox hb; have n0_ := aM (blk_below (g := gb858) (o := .cells #[.slice A0_0 l0_0.length c0_0, .int .i64 a0_1, .bool a0_2] 47 (0, 0)) (mB_ BK858.out) hb); have n1_ := aM (below_step (zs GE858.out) hb); have n2_ := aM (hbox); have n3_ := aM ((zf GE858.out : w.heap.size ≤ gb859)); have n4_ := aM ((zf GE858.out : w.heap.size ≤ gb859)); have n5_ := aM ((zl BK858.out : gb858 ≠ gb859)); have n6_ := aM ((zn BK858.out : gb859 ≠ gb858)); clear BK858 HB; have BK858 := n0_; have HB := n1_; have BK859 := n2_; have GW859 := n3_; have GE859 := n4_; have NB858_859 := n5_; have NB859_858 := n6_; clear n0_ n1_ n2_ n3_ n4_ n5_ n6_ hb hbox hg; have hnb28 := NB858_859.out; have hnc28 := NB859_858.out; have hcz29_0 : w27.cell? ⟨gb858, 0, none⟩ = some (.slice A0_0 l0_0.length c0_0) := (blk_cell BK858.out 0).trans rfl; have hcz29_1 : w27.cell? ⟨gb858, 1, none⟩ = some (.int .i64 a0_1) := (blk_cell BK858.out 1).trans rfl; have hcz29_2 : w27.cell? ⟨gb858, 2, none⟩ = some (.bool a0_2) := (blk_cell BK858.out 2).trans rfl; have hfz29_0 := blk_frozen BK858.out 0; have hfz29_1 := blk_frozen BK858.out 1; have hfz29_2 := blk_frozen BK858.out 2) | ((with_reducible refine gate_callee (f := 32) rfl ?_); refine goesL_ (some 12) rfl rfl Try.func32 (by kernel_rfl) rfl #[.agg #[.slice A0_0 l0_0.length c0_0, .int .i64 a0_1, .bool a0_2], .int .i64 1048576] rfl zm ?_; (with_reducible refine (laws_szPiece.calls _ _ l0_0 a0_1 a0_2 1048576 t860 _ ?side1 ?side2 A3.out).mono ?_); (case side1 => repeat (first | exact (Kd.C_below HR0_0.out HB.out) | (with_reducible refine Kd.C_alloc ?_ _) | (with_reducible refine Kd.C_drewN ?_ _) | (with_reducible refine Kd.C_drew ?_))); (case side2 => exact HC0_0.out); rintro e w30 ⟨rfl, hb⟩; refine ⟨_, rfl, ?_⟩; have n0_ := aM (blk_below (g := gb858) (o := .cells #[.slice A0_0 l0_0.length c0_0, .int .i64 a0_1, .bool a0_2] 47 (0, 0)) (mB_ BK858.out) hb); have n1_ := aM (blk_below (g := gb859) (o := .cells #[.slice A1_0 l1_0.length c1_0, .int .i64 a1_1, .bool a1_2] 47 (0, 0)) (mB_ BK859.out) hb); have n2_ := aM (below_step (zt GE858.out GE859.out) hb); clear BK858 BK859 HB; have BK858 := n0_; have BK859 := n1_; have HB := n2_; clear n0_ n1_ n2_; (try clear hb); (try clear hb2); (try clear hk); (try clear hi); have hcz31_0 : w30.cell? ⟨gb859, 0, none⟩ = some (.slice A1_0 l1_0.length c1_0) := (blk_cell BK859.out 0).trans rfl; have hcz31_1 : w30.cell? ⟨gb859, 1, none⟩ = some (.int .i64 a1_1) := (blk_cell BK859.out 1).trans rfl; have hcz31_2 : w30.cell? ⟨gb859, 2, none⟩ = some (.bool a1_2) := (blk_cell BK859.out 2).trans rfl; have hfz31_0 := blk_frozen BK859.out 0; have hfz31_1 := blk_frozen BK859.out 1; have hfz31_2 := blk_frozen BK859.out 2) | ((with_reducible refine gate_callee (f := 32) rfl ?_); refine goesL_ (some 17) rfl rfl Try.func32 (by kernel_rfl) rfl #[.agg #[.slice A1_0 l1_0.length c1_0, .int .i64 a1_1, .bool a1_2], .int .i64 t860] rfl zm ?_; (with_reducible refine (laws_szPiece.calls _ _ l1_0 a1_1 a1_2 t860 t861 _ ?side1 ?side2 A10.out).mono ?_); (case side1 => repeat (first | exact (Kd.C_below HR1_0.out HB.out) | (with_reducible refine Kd.C_alloc ?_ _) | (with_reducible refine Kd.C_drewN ?_ _) | (with_reducible refine Kd.C_drew ?_))); (case side2 => exact HC1_0.out); rintro e w32 ⟨rfl, hb⟩; refine ⟨_, rfl, ?_⟩; have n0_ := aM (blk_below (g := gb858) (o := .cells #[.slice A0_0 l0_0.length c0_0, .int .i64 a0_1, .bool a0_2] 47 (0, 0)) (mB_ BK858.out) hb); have n1_ := aM (blk_below (g := gb859) (o := .cells #[.slice A1_0 l1_0.length c1_0, .int .i64 a1_1, .bool a1_2] 47 (0, 0)) (mB_ BK859.out) hb); have n2_ := aM (below_step (zt GE858.out GE859.out) hb); clear BK858 BK859 HB; have BK858 := n0_; have BK859 := n1_; have HB := n2_; clear n0_ n1_ n2_; (try clear hb); (try clear hb2); (try clear hk); (try clear hi)))
  have n0_ := aM (blk_drew BK858.out)
  have n1_ := aM (blk_drew BK859.out)
  have n2_ := aM (below_drew1 HB.out)
  clear BK858
  clear BK859
  clear HB
  have BK858 := n0_
  have BK859 := n1_
  have HB := n2_
  clear n0_ n1_ n2_
  refine start_ (n := 6) (S := fun w' => w'.cell? ⟨gb858, 0, none⟩ = some (.slice A0_0 l0_0.length c0_0) ∧ w'.cell? ⟨gb858, 1, none⟩ = some (.int .i64 a0_1) ∧ w'.cell? ⟨gb858, 2, none⟩ = some (.bool a0_2) ∧ w'.cell? ⟨gb859, 0, none⟩ = some (.slice A1_0 l1_0.length c1_0) ∧ w'.cell? ⟨gb859, 1, none⟩ = some (.int .i64 a1_1) ∧ w'.cell? ⟨gb859, 2, none⟩ = some (.bool a1_2)) (ds := []) #[false, false, false, false, false, false] (by kernel_rfl) rfl rfl ⟨(blk_cell BK858.out 0).trans rfl, (blk_cell BK858.out 1).trans rfl, (blk_cell BK858.out 2).trans rfl, (blk_cell BK859.out 0).trans rfl, (blk_cell BK859.out 1).trans rfl, (blk_cell BK859.out 2).trans rfl⟩ (fun hHeld => ?_)
  generalize w32.drew = w33 at BK858 BK859 HB hHeld ⊢
  refine take_ (i := 0) (N := some 20) (v := ?_) (a' := ?_) #[true, false, false, false, false, false] rfl rfl (by kernel_rfl) (fun _ _ _ h => h) (Or.inl ⟨by rfl, ?_⟩) hHeld ?_ ?_
  rotate_left
  ·rintro w' ⟨s0, s1, s2, s3, s4, s5⟩
   go_simp
   with_reducible rfl
  rotate_left
  ·simp only [Act.put, xA, xB, xC, i64_w, i32_w]
   rfl
  refine take_ (i := 2) (N := some 22) (v := ?_) (a' := ?_) #[true, false, true, false, false, false] rfl rfl (by kernel_rfl) (fun _ _ _ h => h) (Or.inl ⟨by rfl, ?_⟩) hHeld ?_ ?_
  rotate_left
  ·rintro w' ⟨s0, s1, s2, s3, s4, s5⟩
   go_simp
   with_reducible rfl
  rotate_left
  ·simp only [Act.put, xA, xB, xC, i64_w, i32_w]
   rfl
  refine one_ (i := 1) (N := some 21) #[true, true, true, false, false, false] rfl rfl (by kernel_rfl) (by decide) (fun K hK => ?_)
  refine goes_ Try.func34 (by kernel_rfl) rfl #[.agg #[.slice A0_0 l0_0.length c0_0, .int .i64 a0_1, .bool a0_2]] (by rfl) rfl rfl zm ?_
  with_reducible refine (laws_toPiece.calls k _ _ l0_0 a0_1 a0_2 t862 t865 t866 _ ?side1 ?side2 A19.out).mono ?_
  (case side1 => repeat (first | exact (Kd.C_below HR0_0.out HB.out) | (with_reducible refine Kd.C_alloc ?_ _) | (with_reducible refine Kd.C_drewN ?_ _) | (with_reducible refine Kd.C_drew ?_)))
  (case side2 => exact HC0_0.out)
  rintro e w34 ⟨v863, rfl, ho0, hb⟩
  refine ⟨_, rfl, ?_⟩
  have n0_ := aM (Kd.R_lower ho0 (below_size (zt GE858.out GE859.out)))
  have n1_ := aM (blk_below (g := gb858) (o := .cells #[.slice A0_0 l0_0.length c0_0, .int .i64 a0_1, .bool a0_2] 47 (0, 0)) (mB_ BK858.out) hb)
  have n2_ := aM (blk_below (g := gb859) (o := .cells #[.slice A1_0 l1_0.length c1_0, .int .i64 a1_1, .bool a1_2] 47 (0, 0)) (mB_ BK859.out) hb)
  have n3_ := aM (below_step (zt GE858.out GE859.out) hb)
  clear BK858
  clear BK859
  clear HB
  have HO864 := n0_
  have BK858 := n1_
  have BK859 := n2_
  have HB := n3_
  clear n0_ n1_ n2_ n3_
  (try clear hb)
  (try clear hb2)
  (try clear hk)
  (try clear hi)
  (try clear ho0)
  refine hK.out _ _ ⟨(blk_cell BK858.out 0).trans rfl, (blk_cell BK858.out 1).trans rfl, (blk_cell BK858.out 2).trans rfl, (blk_cell BK859.out 0).trans rfl, (blk_cell BK859.out 1).trans rfl, (blk_cell BK859.out 2).trans rfl⟩ (fun hHeld => ?_)
  clear hK K
  refine norm_ (a' := ?_) ?_ ?_
  rotate_left
  ·show Act.put _ (some 21) _ = _
   simp only [Act.put, xA, xB, xC, i64_w, i32_w]
   rfl
  refine one_ (i := 3) (N := some 23) #[true, true, true, true, false, false] rfl rfl (by kernel_rfl) (by decide) (fun K hK => ?_)
  refine goes_ Try.func34 (by kernel_rfl) rfl #[.agg #[.slice A1_0 l1_0.length c1_0, .int .i64 a1_1, .bool a1_2]] (by rfl) rfl rfl zm ?_
  with_reducible refine (laws_toPiece.calls k _ _ l1_0 a1_1 a1_2 t867 t870 t871 _ ?side1 ?side2 A20.out).mono ?_
  (case side1 => repeat (first | exact (Kd.C_below HR1_0.out HB.out) | (with_reducible refine Kd.C_alloc ?_ _) | (with_reducible refine Kd.C_drewN ?_ _) | (with_reducible refine Kd.C_drew ?_)))
  (case side2 => exact HC1_0.out)
  rintro e w35 ⟨v868, rfl, ho0, hb⟩
  refine ⟨_, rfl, ?_⟩
  have n0_ := aM (Kd.R_elder' (mR_ HO864.out) (Kd.R_base ho0) hb)
  have n1_ := aM (Kd.R_lower (Kd.R_new' ho0 (Kd.R_lt (mR_ HO864.out))) (below_size (zt GE858.out GE859.out)))
  have n2_ := aM (blk_below (g := gb858) (o := .cells #[.slice A0_0 l0_0.length c0_0, .int .i64 a0_1, .bool a0_2] 47 (0, 0)) (mB_ BK858.out) hb)
  have n3_ := aM (blk_below (g := gb859) (o := .cells #[.slice A1_0 l1_0.length c1_0, .int .i64 a1_1, .bool a1_2] 47 (0, 0)) (mB_ BK859.out) hb)
  have n4_ := aM (below_step (zt GE858.out GE859.out) hb)
  clear HO864
  clear BK858
  clear BK859
  clear HB
  have HO864 := n0_
  have HO869 := n1_
  have BK858 := n2_
  have BK859 := n3_
  have HB := n4_
  clear n0_ n1_ n2_ n3_ n4_
  (try clear hb)
  (try clear hb2)
  (try clear hk)
  (try clear hi)
  (try clear ho0)
  obtain ⟨Ao36, co36, eo36⟩ := Kd.R_slice HO864.out
  (first | subst eo36 | (injection eo36 with f1_ f2_ f3_; have f4_ := f1_.symm; have f5_ := f3_.symm; clear f1_ f2_ f3_; subst f4_; subst f5_))
  obtain ⟨Ao37, co37, eo37⟩ := Kd.R_slice HO869.out
  (first | subst eo37 | (injection eo37 with f1_ f2_ f3_; have f4_ := f1_.symm; have f5_ := f3_.symm; clear f1_ f2_ f3_; subst f4_; subst f5_))
  refine hK.out _ _ ⟨(blk_cell BK858.out 0).trans rfl, (blk_cell BK858.out 1).trans rfl, (blk_cell BK858.out 2).trans rfl, (blk_cell BK859.out 0).trans rfl, (blk_cell BK859.out 1).trans rfl, (blk_cell BK859.out 2).trans rfl⟩ (fun hHeld => ?_)
  clear hK K
  refine norm_ (a' := ?_) ?_ ?_
  rotate_left
  ·show Act.put _ (some 23) _ = _
   simp only [Act.put, xA, xB, xC, i64_w, i32_w]
   rfl
  refine one_ (i := 4) (N := some 24) #[true, true, true, true, true, false] rfl rfl (by kernel_rfl) (by decide) (fun K hK => ?_)
  refine goes_ Try.func33 (by kernel_rfl) rfl #[.agg #[.slice Ao36 t862.length co36, .int .i64 t865, .bool t866], .agg #[.slice Ao37 t867.length co37, .int .i64 t870, .bool t871]] (by rfl) rfl rfl zm ?_
  with_reducible refine (spec_AreAlike.calls k _ _ t862 t865 t866 _ _ t867 t870 t871 t872 _ ?side1 ?side2 ?side3 ?side4 A21.out).mono ?_
  (case side1 => exact zc HO864.out)
  (case side2 => exact (Kd.R_reads' HO864.out).2.1)
  (case side3 => exact zc HO869.out)
  (case side4 => exact (Kd.R_reads' HO869.out).2.1)
  rintro e w38 ⟨rfl, hb⟩
  refine ⟨_, rfl, ?_⟩
  have n0_ := aM (Kd.R_below (mR_ HO864.out) hb)
  have n1_ := aM (Kd.R_below (mR_ HO869.out) hb)
  have n2_ := aM (blk_below (g := gb858) (o := .cells #[.slice A0_0 l0_0.length c0_0, .int .i64 a0_1, .bool a0_2] 47 (0, 0)) (mB_ BK858.out) hb)
  have n3_ := aM (blk_below (g := gb859) (o := .cells #[.slice A1_0 l1_0.length c1_0, .int .i64 a1_1, .bool a1_2] 47 (0, 0)) (mB_ BK859.out) hb)
  have n4_ := aM (below_step (zt GE858.out GE859.out) hb)
  clear HO864
  clear HO869
  clear BK858
  clear BK859
  clear HB
  have HO864 := n0_
  have HO869 := n1_
  have BK858 := n2_
  have BK859 := n3_
  have HB := n4_
  clear n0_ n1_ n2_ n3_ n4_
  (try clear hb)
  (try clear hb2)
  (try clear hk)
  (try clear hi)
  refine hK.out _ _ ⟨(blk_cell BK858.out 0).trans rfl, (blk_cell BK858.out 1).trans rfl, (blk_cell BK858.out 2).trans rfl, (blk_cell BK859.out 0).trans rfl, (blk_cell BK859.out 1).trans rfl, (blk_cell BK859.out 2).trans rfl⟩ (fun hHeld => ?_)
  clear hK K
  refine norm_ (a' := ?_) ?_ ?_
  rotate_left
  ·show Act.put _ (some 24) _ = _
   simp only [Act.put, xA, xB, xC, i64_w, i32_w]
   rfl
  refine pure_ (i := 5) (N := some 6) (v := ?_) (a' := ?_) #[true, true, true, true, true, true] rfl rfl (by kernel_rfl) (fun _ _ _ h => h) (Or.inl ⟨by rfl, ?_⟩) ?_ ?_
  rotate_left
  ·intro w'
   go_simp
   with_reducible rfl
  rotate_left
  ·simp only [Act.put, xA, xB, xC, i64_w, i32_w]
   rfl
  refine done_ (by kernel_rfl) ?_
  have hcz39_0 : w38.cell? ⟨gb858, 0, none⟩ = some (.slice A0_0 l0_0.length c0_0) := (blk_cell BK858.out 0).trans rfl
  have hcz39_1 : w38.cell? ⟨gb858, 1, none⟩ = some (.int .i64 a0_1) := (blk_cell BK858.out 1).trans rfl
  have hcz39_2 : w38.cell? ⟨gb858, 2, none⟩ = some (.bool a0_2) := (blk_cell BK858.out 2).trans rfl
  have hfz39_0 := blk_frozen BK858.out 0
  have hfz39_1 := blk_frozen BK858.out 1
  have hfz39_2 := blk_frozen BK858.out 2
  try go_wp2_with (first | ((with_reducible refine gate_callee (f := 34) rfl ?_); refine goesL_ (some 26) rfl rfl Try.func34 (by kernel_rfl) rfl #[.agg #[.slice A0_0 l0_0.length c0_0, .int .i64 a0_1, .bool a0_2]] rfl zm ?_; (with_reducible refine (laws_toPiece.calls k _ _ l0_0 a0_1 a0_2 t873 t876 t877 _ ?side1 ?side2 A22.out).mono ?_); (case side1 => repeat (first | exact (Kd.C_below HR0_0.out HB.out) | (with_reducible refine Kd.C_alloc ?_ _) | (with_reducible refine Kd.C_drewN ?_ _) | (with_reducible refine Kd.C_drew ?_))); (case side2 => exact HC0_0.out); rintro e w40 ⟨v874, rfl, ho0, hb⟩; refine ⟨_, rfl, ?_⟩; have n0_ := aM (Kd.R_elder' (mR_ HO864.out) (Kd.R_base ho0) hb); have n1_ := aM (Kd.R_elder' (mR_ HO869.out) (Kd.R_base ho0) hb); have n2_ := aM (Kd.R_lower (Kd.R_new' (Kd.R_new' ho0 (Kd.R_lt (mR_ HO864.out))) (Kd.R_lt (mR_ HO869.out))) (below_size (zt GE858.out GE859.out))); have n3_ := aM (blk_below (g := gb858) (o := .cells #[.slice A0_0 l0_0.length c0_0, .int .i64 a0_1, .bool a0_2] 47 (0, 0)) (mB_ BK858.out) hb); have n4_ := aM (blk_below (g := gb859) (o := .cells #[.slice A1_0 l1_0.length c1_0, .int .i64 a1_1, .bool a1_2] 47 (0, 0)) (mB_ BK859.out) hb); have n5_ := aM (below_step (zt GE858.out GE859.out) hb); clear HO864 HO869 BK858 BK859 HB; have HO864 := n0_; have HO869 := n1_; have HO875 := n2_; have BK858 := n3_; have BK859 := n4_; have HB := n5_; clear n0_ n1_ n2_ n3_ n4_ n5_; (try clear hb); (try clear hb2); (try clear hk); (try clear hi); (try clear ho0)) | ((with_reducible refine gate_dst (N := 7) rfl ?_); refine zx 7 #[.slice none 0 0, .int .i64 0, .bool false] 51 ?_; intro gb878 hg w41 hbox hb; have n0_ := aM (Kd.R_below (mR_ HO864.out) hb); have n1_ := aM (Kd.R_below (mR_ HO869.out) hb); have n2_ := aM (Kd.R_below (mR_ HO875.out) hb); have n3_ := aM (blk_below (g := gb858) (o := .cells #[.slice A0_0 l0_0.length c0_0, .int .i64 a0_1, .bool a0_2] 47 (0, 0)) (mB_ BK858.out) hb); have n4_ := aM (blk_below (g := gb859) (o := .cells #[.slice A1_0 l1_0.length c1_0, .int .i64 a1_1, .bool a1_2] 47 (0, 0)) (mB_ BK859.out) hb); have n5_ := aM (below_step (zt GE858.out GE859.out) hb); have n6_ := aM (hbox); have n7_ := aM ((by rw [hg]; exact (below_size (zt GE858.out GE859.out)) : w.heap.size ≤ gb878)); have n8_ := aM ((by rw [hg]; exact (below_size (zt GE858.out GE859.out)) : w.heap.size ≤ gb878)); have n9_ := aM ((zl BK858.out : gb858 ≠ gb878)); have n10_ := aM ((zn BK858.out : gb878 ≠ gb858)); have n11_ := aM ((zl BK859.out : gb859 ≠ gb878)); have n12_ := aM ((zn BK859.out : gb878 ≠ gb859)); clear HO864 HO869 HO875 BK858 BK859 HB; have HO864 := n0_; have HO869 := n1_; have HO875 := n2_; have BK858 := n3_; have BK859 := n4_; have HB := n5_; have BK878 := n6_; have GW878 := n7_; have GE878 := n8_; have NB858_878 := n9_; have NB878_858 := n10_; have NB859_878 := n11_; have NB878_859 := n12_; clear n0_ n1_ n2_ n3_ n4_ n5_ n6_ n7_ n8_ n9_ n10_ n11_ n12_ hb hbox hg; obtain ⟨Ao42, co42, eo42⟩ := Kd.R_slice HO875.out; subst eo42; have hnb43 := NB878_858.out; have hnc43 := NB858_878.out; have hnb44 := NB878_859.out; have hnc44 := NB859_878.out; have hcz45_0 : w41.cell? ⟨gb878, 0, none⟩ = some (.slice none 0 0) := (blk_cell BK878.out 0).trans rfl; have hcz45_1 : w41.cell? ⟨gb878, 1, none⟩ = some (.int .i64 0) := (blk_cell BK878.out 1).trans rfl; have hcz45_2 : w41.cell? ⟨gb878, 2, none⟩ = some (.bool false) := (blk_cell BK878.out 2).trans rfl; have hfz45_0 := blk_frozen BK878.out 0; have hfz45_1 := blk_frozen BK878.out 1; have hfz45_2 := blk_frozen BK878.out 2; have hcz46_0 : w41.cell? ⟨gb859, 0, none⟩ = some (.slice A1_0 l1_0.length c1_0) := (blk_cell BK859.out 0).trans rfl; have hcz46_1 : w41.cell? ⟨gb859, 1, none⟩ = some (.int .i64 a1_1) := (blk_cell BK859.out 1).trans rfl; have hcz46_2 : w41.cell? ⟨gb859, 2, none⟩ = some (.bool a1_2) := (blk_cell BK859.out 2).trans rfl; have hfz46_0 := blk_frozen BK859.out 0; have hfz46_1 := blk_frozen BK859.out 1; have hfz46_2 := blk_frozen BK859.out 2) | ((with_reducible refine gate_callee (f := 34) rfl ?_); refine goesL_ (some 28) rfl rfl Try.func34 (by kernel_rfl) rfl #[.agg #[.slice A1_0 l1_0.length c1_0, .int .i64 a1_1, .bool a1_2]] rfl zm ?_; (with_reducible refine (laws_toPiece.calls k _ _ l1_0 a1_1 a1_2 t879 t882 t883 _ ?side1 ?side2 A23.out).mono ?_); (case side1 => exact Kd.C_below HR1_0.out (by repeat (first | (with_reducible first | exact HB.out | apply below_alloc | apply pw_below_drewN | apply below_drew1 | refine below_set ?_ GE858.out | refine below_set ?_ GE859.out | refine below_set ?_ GE878.out) | exact HB.out))); (case side2 => exact HC1_0.out); rintro e w47 ⟨v880, rfl, ho0, hb⟩; refine ⟨_, rfl, ?_⟩; have n0_ := aM (Kd.R_elder' (by (with_reducible repeat (first | apply Kd.R_alloc | apply Kd.R_drewN | apply Kd.R_drew)); exact (Kd.R_mono (Kd.R_far (p := ⟨gb878, 2, none⟩) (Kd.R_far (p := ⟨gb878, 1, none⟩) (Kd.R_far (p := ⟨gb878, 0, none⟩) (Kd.R_types HO864.out BK878.out (by decide)) (fun _ hk => hk.2) (.slice Ao42 t873.length co42)) (fun _ hk => hk.2) (.int .i64 t876)) (fun _ hk => hk.2) (.bool t877)) (fun _ h_ => h_.1))) (Kd.R_base ho0) hb); have n1_ := aM (Kd.R_elder' (by (with_reducible repeat (first | apply Kd.R_alloc | apply Kd.R_drewN | apply Kd.R_drew)); exact (Kd.R_mono (Kd.R_far (p := ⟨gb878, 2, none⟩) (Kd.R_far (p := ⟨gb878, 1, none⟩) (Kd.R_far (p := ⟨gb878, 0, none⟩) (Kd.R_types HO869.out BK878.out (by decide)) (fun _ hk => hk.2) (.slice Ao42 t873.length co42)) (fun _ hk => hk.2) (.int .i64 t876)) (fun _ hk => hk.2) (.bool t877)) (fun _ h_ => h_.1))) (Kd.R_base ho0) hb); have n2_ := aM (Kd.R_elder' (by (with_reducible repeat (first | apply Kd.R_alloc | apply Kd.R_drewN | apply Kd.R_drew)); exact (Kd.R_mono (Kd.R_far (p := ⟨gb878, 2, none⟩) (Kd.R_far (p := ⟨gb878, 1, none⟩) (Kd.R_far (p := ⟨gb878, 0, none⟩) (Kd.R_types HO875.out BK878.out (by decide)) (fun _ hk => hk.2) (.slice Ao42 t873.length co42)) (fun _ hk => hk.2) (.int .i64 t876)) (fun _ hk => hk.2) (.bool t877)) (fun _ h_ => h_.1))) (Kd.R_base ho0) hb); have n3_ := aM (Kd.R_lower (Kd.R_new' (Kd.R_new' (Kd.R_new' ho0 (Kd.R_lt (by (with_reducible repeat (first | apply Kd.R_alloc | apply Kd.R_drewN | apply Kd.R_drew)); exact (Kd.R_mono (Kd.R_far (p := ⟨gb878, 2, none⟩) (Kd.R_far (p := ⟨gb878, 1, none⟩) (Kd.R_far (p := ⟨gb878, 0, none⟩) (Kd.R_types HO864.out BK878.out (by decide)) (fun _ hk => hk.2) (.slice Ao42 t873.length co42)) (fun _ hk => hk.2) (.int .i64 t876)) (fun _ hk => hk.2) (.bool t877)) (fun _ h_ => h_.1))))) (Kd.R_lt (by (with_reducible repeat (first | apply Kd.R_alloc | apply Kd.R_drewN | apply Kd.R_drew)); exact (Kd.R_mono (Kd.R_far (p := ⟨gb878, 2, none⟩) (Kd.R_far (p := ⟨gb878, 1, none⟩) (Kd.R_far (p := ⟨gb878, 0, none⟩) (Kd.R_types HO869.out BK878.out (by decide)) (fun _ hk => hk.2) (.slice Ao42 t873.length co42)) (fun _ hk => hk.2) (.int .i64 t876)) (fun _ hk => hk.2) (.bool t877)) (fun _ h_ => h_.1))))) (Kd.R_lt (by (with_reducible repeat (first | apply Kd.R_alloc | apply Kd.R_drewN | apply Kd.R_drew)); exact (Kd.R_mono (Kd.R_far (p := ⟨gb878, 2, none⟩) (Kd.R_far (p := ⟨gb878, 1, none⟩) (Kd.R_far (p := ⟨gb878, 0, none⟩) (Kd.R_types HO875.out BK878.out (by decide)) (fun _ hk => hk.2) (.slice Ao42 t873.length co42)) (fun _ hk => hk.2) (.int .i64 t876)) (fun _ hk => hk.2) (.bool t877)) (fun _ h_ => h_.1))))) (below_size (by repeat (first | (with_reducible first | exact HB.out | apply below_alloc | apply pw_below_drewN | apply below_drew1 | refine below_set ?_ GE858.out | refine below_set ?_ GE859.out | refine below_set ?_ GE878.out) | exact HB.out)))); have n4_ := aM (blk_below (g := gb858) (o := .cells #[.slice A0_0 l0_0.length c0_0, .int .i64 a0_1, .bool a0_2] 47 (0, 0)) (by (with_reducible repeat (first | refine blk_drewN ?_ _ | refine blk_drew ?_ | refine blk_alloc ?_ _)); refine blk_far ?_ NB858_878.out _; (with_reducible repeat (first | refine blk_drewN ?_ _ | refine blk_drew ?_ | refine blk_alloc ?_ _)); refine blk_far ?_ NB858_878.out _; (with_reducible repeat (first | refine blk_drewN ?_ _ | refine blk_drew ?_ | refine blk_alloc ?_ _)); refine blk_far ?_ NB858_878.out _; (with_reducible repeat (first | refine blk_drewN ?_ _ | refine blk_drew ?_ | refine blk_alloc ?_ _)); exact BK858.out) hb); have n5_ := aM (blk_below (g := gb859) (o := .cells #[.slice A1_0 l1_0.length c1_0, .int .i64 a1_1, .bool a1_2] 47 (0, 0)) (by (with_reducible repeat (first | refine blk_drewN ?_ _ | refine blk_drew ?_ | refine blk_alloc ?_ _)); refine blk_far ?_ NB859_878.out _; (with_reducible repeat (first | refine blk_drewN ?_ _ | refine blk_drew ?_ | refine blk_alloc ?_ _)); refine blk_far ?_ NB859_878.out _; (with_reducible repeat (first | refine blk_drewN ?_ _ | refine blk_drew ?_ | refine blk_alloc ?_ _)); refine blk_far ?_ NB859_878.out _; (with_reducible repeat (first | refine blk_drewN ?_ _ | refine blk_drew ?_ | refine blk_alloc ?_ _)); exact BK859.out) hb); have n6_ := aM (blk_below (g := gb878) (o := .cells #[.slice Ao42 t873.length co42, .int .i64 t876, .bool t877] 51 (0, 0)) (by (with_reducible repeat (first | refine blk_drewN ?_ _ | refine blk_drew ?_ | refine blk_alloc ?_ _)); refine blk_put (cs := #[.slice Ao42 t873.length co42, .int .i64 t876, .bool false]) ?_ 2 _ rfl; (with_reducible repeat (first | refine blk_drewN ?_ _ | refine blk_drew ?_ | refine blk_alloc ?_ _)); refine blk_put (cs := #[.slice Ao42 t873.length co42, .int .i64 0, .bool false]) ?_ 1 _ rfl; (with_reducible repeat (first | refine blk_drewN ?_ _ | refine blk_drew ?_ | refine blk_alloc ?_ _)); refine blk_put (cs := #[.slice none 0 0, .int .i64 0, .bool false]) ?_ 0 _ rfl; (with_reducible repeat (first | refine blk_drewN ?_ _ | refine blk_drew ?_ | refine blk_alloc ?_ _)); exact BK878.out) hb); have n7_ := aM (below_step (by repeat (first | (with_reducible first | exact HB.out | apply below_alloc | apply pw_below_drewN | apply below_drew1 | refine below_set ?_ GE858.out | refine below_set ?_ GE859.out | refine below_set ?_ GE878.out) | exact HB.out)) hb); clear HO864 HO869 HO875 BK858 BK859 BK878 HB; have HO864 := n0_; have HO869 := n1_; have HO875 := n2_; have HO881 := n3_; have BK858 := n4_; have BK859 := n5_; have BK878 := n6_; have HB := n7_; clear n0_ n1_ n2_ n3_ n4_ n5_ n6_ n7_; (try clear hb); (try clear hb2); (try clear hk); (try clear hi); (try clear ho0)) | ((with_reducible refine gate_dst (N := 8) rfl ?_); refine zx 8 #[.slice none 0 0, .int .i64 0, .bool false] 51 ?_; intro gb884 hg w48 hbox hb; have n0_ := aM (Kd.R_below (mR_ HO864.out) hb); have n1_ := aM (Kd.R_below (mR_ HO869.out) hb); have n2_ := aM (Kd.R_below (mR_ HO875.out) hb); have n3_ := aM (Kd.R_below (mR_ HO881.out) hb); have n4_ := aM (blk_below (g := gb858) (o := .cells #[.slice A0_0 l0_0.length c0_0, .int .i64 a0_1, .bool a0_2] 47 (0, 0)) (mB_ BK858.out) hb); have n5_ := aM (blk_below (g := gb859) (o := .cells #[.slice A1_0 l1_0.length c1_0, .int .i64 a1_1, .bool a1_2] 47 (0, 0)) (mB_ BK859.out) hb); have n6_ := aM (blk_below (g := gb878) (o := .cells #[.slice Ao42 t873.length co42, .int .i64 t876, .bool t877] 51 (0, 0)) (mB_ BK878.out) hb); have n7_ := aM (below_step (by repeat (first | (with_reducible first | exact HB.out | apply below_alloc | apply pw_below_drewN | apply below_drew1 | refine below_set ?_ GE858.out | refine below_set ?_ GE859.out | refine below_set ?_ GE878.out) | exact HB.out)) hb); have n8_ := aM (hbox); have n9_ := aM ((by rw [hg]; exact (below_size (by repeat (first | (with_reducible first | exact HB.out | apply below_alloc | apply pw_below_drewN | apply below_drew1 | refine below_set ?_ GE858.out | refine below_set ?_ GE859.out | refine below_set ?_ GE878.out) | exact HB.out))) : w.heap.size ≤ gb884)); have n10_ := aM ((by rw [hg]; exact (below_size (by repeat (first | (with_reducible first | exact HB.out | apply below_alloc | apply pw_below_drewN | apply below_drew1 | refine below_set ?_ GE858.out | refine below_set ?_ GE859.out | refine below_set ?_ GE878.out) | exact HB.out))) : w.heap.size ≤ gb884)); have n11_ := aM ((zl BK858.out : gb858 ≠ gb884)); have n12_ := aM ((zn BK858.out : gb884 ≠ gb858)); have n13_ := aM ((zl BK859.out : gb859 ≠ gb884)); have n14_ := aM ((zn BK859.out : gb884 ≠ gb859)); have n15_ := aM ((zl BK878.out : gb878 ≠ gb884)); have n16_ := aM ((zn BK878.out : gb884 ≠ gb878)); clear HO864 HO869 HO875 HO881 BK858 BK859 BK878 HB; have HO864 := n0_; have HO869 := n1_; have HO875 := n2_; have HO881 := n3_; have BK858 := n4_; have BK859 := n5_; have BK878 := n6_; have HB := n7_; have BK884 := n8_; have GW884 := n9_; have GE884 := n10_; have NB858_884 := n11_; have NB884_858 := n12_; have NB859_884 := n13_; have NB884_859 := n14_; have NB878_884 := n15_; have NB884_878 := n16_; clear n0_ n1_ n2_ n3_ n4_ n5_ n6_ n7_ n8_ n9_ n10_ n11_ n12_ n13_ n14_ n15_ n16_ hb hbox hg; obtain ⟨Ao49, co49, eo49⟩ := Kd.R_slice HO881.out; subst eo49; have hnb50 := NB884_858.out; have hnc50 := NB858_884.out; have hnb51 := NB884_859.out; have hnc51 := NB859_884.out; have hnb52 := NB884_878.out; have hnc52 := NB878_884.out; have hcz53_0 : w48.cell? ⟨gb884, 0, none⟩ = some (.slice none 0 0) := (blk_cell BK884.out 0).trans rfl; have hcz53_1 : w48.cell? ⟨gb884, 1, none⟩ = some (.int .i64 0) := (blk_cell BK884.out 1).trans rfl; have hcz53_2 : w48.cell? ⟨gb884, 2, none⟩ = some (.bool false) := (blk_cell BK884.out 2).trans rfl; have hfz53_0 := blk_frozen BK884.out 0; have hfz53_1 := blk_frozen BK884.out 1; have hfz53_2 := blk_frozen BK884.out 2; have hcz54_0 : w48.cell? ⟨gb878, 0, none⟩ = some (.slice Ao42 t873.length co42) := (blk_cell BK878.out 0).trans rfl; have hcz54_1 : w48.cell? ⟨gb878, 1, none⟩ = some (.int .i64 t876) := (blk_cell BK878.out 1).trans rfl; have hcz54_2 : w48.cell? ⟨gb878, 2, none⟩ = some (.bool t877) := (blk_cell BK878.out 2).trans rfl; have hfz54_0 := blk_frozen BK878.out 0; have hfz54_1 := blk_frozen BK878.out 1; have hfz54_2 := blk_frozen BK878.out 2) | ((with_reducible refine gate_callee (f := 35) rfl ?_); refine goesL_ (some 31) rfl rfl Try.func35 (by kernel_rfl) rfl #[.agg #[.slice Ao42 t873.length co42, .int .i64 t876, .bool t877], .agg #[.slice Ao49 t879.length co49, .int .i64 t882, .bool t883]] rfl zm ?_; (with_reducible refine (impl_AreAlike.calls k _ _ t873 t876 t877 _ _ t879 t882 t883 t885 _ ?side1 ?side2 ?side3 ?side4 A24.out).mono ?_); (case side1 => refine (Kd.R_reads' (e := 59) (base := w.heap.size) (ok := fun k_ => (((True ∧ some k_ ≠ (.slice Ao36 t862.length co36 : Value).ownBlock) ∧ some k_ ≠ (.slice Ao37 t867.length co37 : Value).ownBlock) ∧ some k_ ≠ (.slice Ao49 t879.length co49 : Value).ownBlock)) (n := t873.length) (c := co42) ?_).2.2; exact (by (with_reducible repeat (first | apply Kd.R_alloc | apply Kd.R_drewN | apply Kd.R_drew)); exact (Kd.R_mono (Kd.R_far (p := ⟨gb884, 2, none⟩) (Kd.R_far (p := ⟨gb884, 1, none⟩) (Kd.R_far (p := ⟨gb884, 0, none⟩) (Kd.R_types HO875.out BK884.out (by decide)) (fun _ hk => hk.2) (.slice Ao49 t879.length co49)) (fun _ hk => hk.2) (.int .i64 t882)) (fun _ hk => hk.2) (.bool t883)) (fun _ h_ => h_.1)))); (case side2 => exact (Kd.R_reads' HO875.out).2.1); (case side3 => refine (Kd.R_reads' (e := 59) (base := w.heap.size) (ok := fun k_ => (((True ∧ some k_ ≠ (.slice Ao36 t862.length co36 : Value).ownBlock) ∧ some k_ ≠ (.slice Ao37 t867.length co37 : Value).ownBlock) ∧ some k_ ≠ (.slice Ao42 t873.length co42 : Value).ownBlock)) (n := t879.length) (c := co49) ?_).2.2; exact (by (with_reducible repeat (first | apply Kd.R_alloc | apply Kd.R_drewN | apply Kd.R_drew)); exact (Kd.R_mono (Kd.R_far (p := ⟨gb884, 2, none⟩) (Kd.R_far (p := ⟨gb884, 1, none⟩) (Kd.R_far (p := ⟨gb884, 0, none⟩) (Kd.R_types HO881.out BK884.out (by decide)) (fun _ hk => hk.2) (.slice Ao49 t879.length co49)) (fun _ hk => hk.2) (.int .i64 t882)) (fun _ hk => hk.2) (.bool t883)) (fun _ h_ => h_.1)))); (case side4 => exact (Kd.R_reads' HO881.out).2.1); rintro e w55 ⟨rfl, hb⟩; refine ⟨_, rfl, ?_⟩; have n0_ := aM (Kd.R_below (by (with_reducible repeat (first | apply Kd.R_alloc | apply Kd.R_drewN | apply Kd.R_drew)); exact (Kd.R_mono (Kd.R_far (p := ⟨gb884, 2, none⟩) (Kd.R_far (p := ⟨gb884, 1, none⟩) (Kd.R_far (p := ⟨gb884, 0, none⟩) (Kd.R_types HO864.out BK884.out (by decide)) (fun _ hk => hk.2) (.slice Ao49 t879.length co49)) (fun _ hk => hk.2) (.int .i64 t882)) (fun _ hk => hk.2) (.bool t883)) (fun _ h_ => h_.1))) hb); have n1_ := aM (Kd.R_below (by (with_reducible repeat (first | apply Kd.R_alloc | apply Kd.R_drewN | apply Kd.R_drew)); exact (Kd.R_mono (Kd.R_far (p := ⟨gb884, 2, none⟩) (Kd.R_far (p := ⟨gb884, 1, none⟩) (Kd.R_far (p := ⟨gb884, 0, none⟩) (Kd.R_types HO869.out BK884.out (by decide)) (fun _ hk => hk.2) (.slice Ao49 t879.length co49)) (fun _ hk => hk.2) (.int .i64 t882)) (fun _ hk => hk.2) (.bool t883)) (fun _ h_ => h_.1))) hb); have n2_ := aM (Kd.R_below (by (with_reducible repeat (first | apply Kd.R_alloc | apply Kd.R_drewN | apply Kd.R_drew)); exact (Kd.R_mono (Kd.R_far (p := ⟨gb884, 2, none⟩) (Kd.R_far (p := ⟨gb884, 1, none⟩) (Kd.R_far (p := ⟨gb884, 0, none⟩) (Kd.R_types HO875.out BK884.out (by decide)) (fun _ hk => hk.2) (.slice Ao49 t879.length co49)) (fun _ hk => hk.2) (.int .i64 t882)) (fun _ hk => hk.2) (.bool t883)) (fun _ h_ => h_.1))) hb); have n3_ := aM (Kd.R_below (by (with_reducible repeat (first | apply Kd.R_alloc | apply Kd.R_drewN | apply Kd.R_drew)); exact (Kd.R_mono (Kd.R_far (p := ⟨gb884, 2, none⟩) (Kd.R_far (p := ⟨gb884, 1, none⟩) (Kd.R_far (p := ⟨gb884, 0, none⟩) (Kd.R_types HO881.out BK884.out (by decide)) (fun _ hk => hk.2) (.slice Ao49 t879.length co49)) (fun _ hk => hk.2) (.int .i64 t882)) (fun _ hk => hk.2) (.bool t883)) (fun _ h_ => h_.1))) hb); have n4_ := aM (blk_below (g := gb858) (o := .cells #[.slice A0_0 l0_0.length c0_0, .int .i64 a0_1, .bool a0_2] 47 (0, 0)) (by (with_reducible repeat (first | refine blk_drewN ?_ _ | refine blk_drew ?_ | refine blk_alloc ?_ _)); refine blk_far ?_ NB858_884.out _; (with_reducible repeat (first | refine blk_drewN ?_ _ | refine blk_drew ?_ | refine blk_alloc ?_ _)); refine blk_far ?_ NB858_884.out _; (with_reducible repeat (first | refine blk_drewN ?_ _ | refine blk_drew ?_ | refine blk_alloc ?_ _)); refine blk_far ?_ NB858_884.out _; (with_reducible repeat (first | refine blk_drewN ?_ _ | refine blk_drew ?_ | refine blk_alloc ?_ _)); exact BK858.out) hb); have n5_ := aM (blk_below (g := gb859) (o := .cells #[.slice A1_0 l1_0.length c1_0, .int .i64 a1_1, .bool a1_2] 47 (0, 0)) (by (with_reducible repeat (first | refine blk_drewN ?_ _ | refine blk_drew ?_ | refine blk_alloc ?_ _)); refine blk_far ?_ NB859_884.out _; (with_reducible repeat (first | refine blk_drewN ?_ _ | refine blk_drew ?_ | refine blk_alloc ?_ _)); refine blk_far ?_ NB859_884.out _; (with_reducible repeat (first | refine blk_drewN ?_ _ | refine blk_drew ?_ | refine blk_alloc ?_ _)); refine blk_far ?_ NB859_884.out _; (with_reducible repeat (first | refine blk_drewN ?_ _ | refine blk_drew ?_ | refine blk_alloc ?_ _)); exact BK859.out) hb); have n6_ := aM (blk_below (g := gb878) (o := .cells #[.slice Ao42 t873.length co42, .int .i64 t876, .bool t877] 51 (0, 0)) (by (with_reducible repeat (first | refine blk_drewN ?_ _ | refine blk_drew ?_ | refine blk_alloc ?_ _)); refine blk_far ?_ NB878_884.out _; (with_reducible repeat (first | refine blk_drewN ?_ _ | refine blk_drew ?_ | refine blk_alloc ?_ _)); refine blk_far ?_ NB878_884.out _; (with_reducible repeat (first | refine blk_drewN ?_ _ | refine blk_drew ?_ | refine blk_alloc ?_ _)); refine blk_far ?_ NB878_884.out _; (with_reducible repeat (first | refine blk_drewN ?_ _ | refine blk_drew ?_ | refine blk_alloc ?_ _)); exact BK878.out) hb); have n7_ := aM (blk_below (g := gb884) (o := .cells #[.slice Ao49 t879.length co49, .int .i64 t882, .bool t883] 51 (0, 0)) (by (with_reducible repeat (first | refine blk_drewN ?_ _ | refine blk_drew ?_ | refine blk_alloc ?_ _)); refine blk_put (cs := #[.slice Ao49 t879.length co49, .int .i64 t882, .bool false]) ?_ 2 _ rfl; (with_reducible repeat (first | refine blk_drewN ?_ _ | refine blk_drew ?_ | refine blk_alloc ?_ _)); refine blk_put (cs := #[.slice Ao49 t879.length co49, .int .i64 0, .bool false]) ?_ 1 _ rfl; (with_reducible repeat (first | refine blk_drewN ?_ _ | refine blk_drew ?_ | refine blk_alloc ?_ _)); refine blk_put (cs := #[.slice none 0 0, .int .i64 0, .bool false]) ?_ 0 _ rfl; (with_reducible repeat (first | refine blk_drewN ?_ _ | refine blk_drew ?_ | refine blk_alloc ?_ _)); exact BK884.out) hb); have n8_ := aM (below_step (by repeat (first | (with_reducible first | exact HB.out | apply below_alloc | apply pw_below_drewN | apply below_drew1 | refine below_set ?_ GE858.out | refine below_set ?_ GE859.out | refine below_set ?_ GE878.out | refine below_set ?_ GE884.out) | exact HB.out)) hb); clear HO864 HO869 HO875 HO881 BK858 BK859 BK878 BK884 HB; have HO864 := n0_; have HO869 := n1_; have HO875 := n2_; have HO881 := n3_; have BK858 := n4_; have BK859 := n5_; have BK878 := n6_; have BK884 := n7_; have HB := n8_; clear n0_ n1_ n2_ n3_ n4_ n5_ n6_ n7_ n8_; (try clear hb); (try clear hb2); (try clear hk); (try clear hi)))
  go_ret
  exact ⟨zw, by repeat (first | (with_reducible first | exact HB.out | apply below_alloc | apply pw_below_drewN | apply below_drew1 | refine below_set ?_ GE858.out | refine below_set ?_ GE859.out | refine below_set ?_ GE878.out | refine below_set ?_ GE884.out) | exact HB.out)⟩
 rw [if_neg c25] at H
 have c25b0 : (t885 != t872) = false := by simpa using c25
 (try (have c25b1 : decide (t885 = t872) = true := by simpa using c25))
 (try (have c25b2 : (t885 == t872) = true := by simpa using c25))
 clear c25
 replace H := Option.bind_eq_some_iff.mp H
 obtain ⟨⟨t886, t889, t890⟩, A560, H⟩ := H
 replace H : ((laws_eqPiece.f k t873 t876 t877 t886 t889 t890).bind fun t891 => (if t891 = true then ((laws_toPiece.f k l1_0 a1_1 a1_2).bind fun bt892 => ((laws_eqPiece.f k t879 t882 t883 bt892.1 bt892.2.1 bt892.2.2).bind fun t897 => (if t897 = true then (some true) else (some false)))) else (some false))) = some r := H
 have A56 := aM A560
 clear A560
 replace H := Option.bind_eq_some_iff.mp H
 obtain ⟨t891, A570, H⟩ := H
 replace H : (if t891 = true then ((laws_toPiece.f k l1_0 a1_1 a1_2).bind fun bt892 => ((laws_eqPiece.f k t879 t882 t883 bt892.1 bt892.2.1 bt892.2.2).bind fun t897 => (if t897 = true then (some true) else (some false)))) else (some false)) = some r := H
 have A57 := aM A570
 clear A570
 by_cases c58 : t891 = true
 rotate_left
 ·replace c58 := Bool.eq_false_iff.mpr c58
  subst c58
  have H1 : (some false) = some r := by rw [if_neg (show ¬ (false = true) by decide)] at H; exact H
  clear H
  have H := H1
  clear H1
  obtain rfl := Option.some.inj H
  go_enter Try.func6, Try.ntmps6
  try go_wp2_with (first | ((with_reducible refine gate_dst (N := 2) rfl ?_); refine zx 2 #[.slice A0_0 l0_0.length c0_0, .int .i64 a0_1, .bool a0_2] 47 ?_; intro gb858 hg w138 hbox hb; have n0_ := aM (below_step zb hb); have n1_ := aM (hbox); have n2_ := aM ((ze : w.heap.size ≤ gb858)); have n3_ := aM ((ze : w.heap.size ≤ gb858)); clear HB; have HB := n0_; have BK858 := n1_; have GW858 := n2_; have GE858 := n3_; clear n0_ n1_ n2_ n3_; clear hb hbox hg) | ((with_reducible refine gate_dst (N := 3) rfl ?_); refine zx 3 #[.slice A1_0 l1_0.length c1_0, .int .i64 a1_1, .bool a1_2] 47 ?_; intro gb859 hg w139 hbox hb; have n0_ := aM (blk_below (g := gb858) (o := .cells #[.slice A0_0 l0_0.length c0_0, .int .i64 a0_1, .bool a0_2] 47 (0, 0)) (mB_ BK858.out) hb); have n1_ := aM (below_step (zs GE858.out) hb); have n2_ := aM (hbox); have n3_ := aM ((zf GE858.out : w.heap.size ≤ gb859)); have n4_ := aM ((zf GE858.out : w.heap.size ≤ gb859)); have n5_ := aM ((zl BK858.out : gb858 ≠ gb859)); have n6_ := aM ((zn BK858.out : gb859 ≠ gb858)); clear BK858 HB; have BK858 := n0_; have HB := n1_; have BK859 := n2_; have GW859 := n3_; have GE859 := n4_; have NB858_859 := n5_; have NB859_858 := n6_; clear n0_ n1_ n2_ n3_ n4_ n5_ n6_ hb hbox hg; have hnb140 := NB858_859.out; have hnc140 := NB859_858.out; have hcz141_0 : w139.cell? ⟨gb858, 0, none⟩ = some (.slice A0_0 l0_0.length c0_0) := (blk_cell BK858.out 0).trans rfl; have hcz141_1 : w139.cell? ⟨gb858, 1, none⟩ = some (.int .i64 a0_1) := (blk_cell BK858.out 1).trans rfl; have hcz141_2 : w139.cell? ⟨gb858, 2, none⟩ = some (.bool a0_2) := (blk_cell BK858.out 2).trans rfl; have hfz141_0 := blk_frozen BK858.out 0; have hfz141_1 := blk_frozen BK858.out 1; have hfz141_2 := blk_frozen BK858.out 2) | ((with_reducible refine gate_callee (f := 32) rfl ?_); refine goesL_ (some 12) rfl rfl Try.func32 (by kernel_rfl) rfl #[.agg #[.slice A0_0 l0_0.length c0_0, .int .i64 a0_1, .bool a0_2], .int .i64 1048576] rfl zm ?_; (with_reducible refine (laws_szPiece.calls _ _ l0_0 a0_1 a0_2 1048576 t860 _ ?side1 ?side2 A3.out).mono ?_); (case side1 => repeat (first | exact (Kd.C_below HR0_0.out HB.out) | (with_reducible refine Kd.C_alloc ?_ _) | (with_reducible refine Kd.C_drewN ?_ _) | (with_reducible refine Kd.C_drew ?_))); (case side2 => exact HC0_0.out); rintro e w142 ⟨rfl, hb⟩; refine ⟨_, rfl, ?_⟩; have n0_ := aM (blk_below (g := gb858) (o := .cells #[.slice A0_0 l0_0.length c0_0, .int .i64 a0_1, .bool a0_2] 47 (0, 0)) (mB_ BK858.out) hb); have n1_ := aM (blk_below (g := gb859) (o := .cells #[.slice A1_0 l1_0.length c1_0, .int .i64 a1_1, .bool a1_2] 47 (0, 0)) (mB_ BK859.out) hb); have n2_ := aM (below_step (zt GE858.out GE859.out) hb); clear BK858 BK859 HB; have BK858 := n0_; have BK859 := n1_; have HB := n2_; clear n0_ n1_ n2_; (try clear hb); (try clear hb2); (try clear hk); (try clear hi); have hcz143_0 : w142.cell? ⟨gb859, 0, none⟩ = some (.slice A1_0 l1_0.length c1_0) := (blk_cell BK859.out 0).trans rfl; have hcz143_1 : w142.cell? ⟨gb859, 1, none⟩ = some (.int .i64 a1_1) := (blk_cell BK859.out 1).trans rfl; have hcz143_2 : w142.cell? ⟨gb859, 2, none⟩ = some (.bool a1_2) := (blk_cell BK859.out 2).trans rfl; have hfz143_0 := blk_frozen BK859.out 0; have hfz143_1 := blk_frozen BK859.out 1; have hfz143_2 := blk_frozen BK859.out 2) | ((with_reducible refine gate_callee (f := 32) rfl ?_); refine goesL_ (some 17) rfl rfl Try.func32 (by kernel_rfl) rfl #[.agg #[.slice A1_0 l1_0.length c1_0, .int .i64 a1_1, .bool a1_2], .int .i64 t860] rfl zm ?_; (with_reducible refine (laws_szPiece.calls _ _ l1_0 a1_1 a1_2 t860 t861 _ ?side1 ?side2 A10.out).mono ?_); (case side1 => repeat (first | exact (Kd.C_below HR1_0.out HB.out) | (with_reducible refine Kd.C_alloc ?_ _) | (with_reducible refine Kd.C_drewN ?_ _) | (with_reducible refine Kd.C_drew ?_))); (case side2 => exact HC1_0.out); rintro e w144 ⟨rfl, hb⟩; refine ⟨_, rfl, ?_⟩; have n0_ := aM (blk_below (g := gb858) (o := .cells #[.slice A0_0 l0_0.length c0_0, .int .i64 a0_1, .bool a0_2] 47 (0, 0)) (mB_ BK858.out) hb); have n1_ := aM (blk_below (g := gb859) (o := .cells #[.slice A1_0 l1_0.length c1_0, .int .i64 a1_1, .bool a1_2] 47 (0, 0)) (mB_ BK859.out) hb); have n2_ := aM (below_step (zt GE858.out GE859.out) hb); clear BK858 BK859 HB; have BK858 := n0_; have BK859 := n1_; have HB := n2_; clear n0_ n1_ n2_; (try clear hb); (try clear hb2); (try clear hk); (try clear hi)))
  have n0_ := aM (blk_drew BK858.out)
  have n1_ := aM (blk_drew BK859.out)
  have n2_ := aM (below_drew1 HB.out)
  clear BK858
  clear BK859
  clear HB
  have BK858 := n0_
  have BK859 := n1_
  have HB := n2_
  clear n0_ n1_ n2_
  refine start_ (n := 6) (S := fun w' => w'.cell? ⟨gb858, 0, none⟩ = some (.slice A0_0 l0_0.length c0_0) ∧ w'.cell? ⟨gb858, 1, none⟩ = some (.int .i64 a0_1) ∧ w'.cell? ⟨gb858, 2, none⟩ = some (.bool a0_2) ∧ w'.cell? ⟨gb859, 0, none⟩ = some (.slice A1_0 l1_0.length c1_0) ∧ w'.cell? ⟨gb859, 1, none⟩ = some (.int .i64 a1_1) ∧ w'.cell? ⟨gb859, 2, none⟩ = some (.bool a1_2)) (ds := []) #[false, false, false, false, false, false] (by kernel_rfl) rfl rfl ⟨(blk_cell BK858.out 0).trans rfl, (blk_cell BK858.out 1).trans rfl, (blk_cell BK858.out 2).trans rfl, (blk_cell BK859.out 0).trans rfl, (blk_cell BK859.out 1).trans rfl, (blk_cell BK859.out 2).trans rfl⟩ (fun hHeld => ?_)
  generalize w144.drew = w145 at BK858 BK859 HB hHeld ⊢
  refine take_ (i := 0) (N := some 20) (v := ?_) (a' := ?_) #[true, false, false, false, false, false] rfl rfl (by kernel_rfl) (fun _ _ _ h => h) (Or.inl ⟨by rfl, ?_⟩) hHeld ?_ ?_
  rotate_left
  ·rintro w' ⟨s0, s1, s2, s3, s4, s5⟩
   go_simp
   with_reducible rfl
  rotate_left
  ·simp only [Act.put, xA, xB, xC, i64_w, i32_w]
   rfl
  refine take_ (i := 2) (N := some 22) (v := ?_) (a' := ?_) #[true, false, true, false, false, false] rfl rfl (by kernel_rfl) (fun _ _ _ h => h) (Or.inl ⟨by rfl, ?_⟩) hHeld ?_ ?_
  rotate_left
  ·rintro w' ⟨s0, s1, s2, s3, s4, s5⟩
   go_simp
   with_reducible rfl
  rotate_left
  ·simp only [Act.put, xA, xB, xC, i64_w, i32_w]
   rfl
  refine one_ (i := 1) (N := some 21) #[true, true, true, false, false, false] rfl rfl (by kernel_rfl) (by decide) (fun K hK => ?_)
  refine goes_ Try.func34 (by kernel_rfl) rfl #[.agg #[.slice A0_0 l0_0.length c0_0, .int .i64 a0_1, .bool a0_2]] (by rfl) rfl rfl zm ?_
  with_reducible refine (laws_toPiece.calls k _ _ l0_0 a0_1 a0_2 t862 t865 t866 _ ?side1 ?side2 A19.out).mono ?_
  (case side1 => repeat (first | exact (Kd.C_below HR0_0.out HB.out) | (with_reducible refine Kd.C_alloc ?_ _) | (with_reducible refine Kd.C_drewN ?_ _) | (with_reducible refine Kd.C_drew ?_)))
  (case side2 => exact HC0_0.out)
  rintro e w146 ⟨v863, rfl, ho0, hb⟩
  refine ⟨_, rfl, ?_⟩
  have n0_ := aM (Kd.R_lower ho0 (below_size (zt GE858.out GE859.out)))
  have n1_ := aM (blk_below (g := gb858) (o := .cells #[.slice A0_0 l0_0.length c0_0, .int .i64 a0_1, .bool a0_2] 47 (0, 0)) (mB_ BK858.out) hb)
  have n2_ := aM (blk_below (g := gb859) (o := .cells #[.slice A1_0 l1_0.length c1_0, .int .i64 a1_1, .bool a1_2] 47 (0, 0)) (mB_ BK859.out) hb)
  have n3_ := aM (below_step (zt GE858.out GE859.out) hb)
  clear BK858
  clear BK859
  clear HB
  have HO864 := n0_
  have BK858 := n1_
  have BK859 := n2_
  have HB := n3_
  clear n0_ n1_ n2_ n3_
  (try clear hb)
  (try clear hb2)
  (try clear hk)
  (try clear hi)
  (try clear ho0)
  refine hK.out _ _ ⟨(blk_cell BK858.out 0).trans rfl, (blk_cell BK858.out 1).trans rfl, (blk_cell BK858.out 2).trans rfl, (blk_cell BK859.out 0).trans rfl, (blk_cell BK859.out 1).trans rfl, (blk_cell BK859.out 2).trans rfl⟩ (fun hHeld => ?_)
  clear hK K
  refine norm_ (a' := ?_) ?_ ?_
  rotate_left
  ·show Act.put _ (some 21) _ = _
   simp only [Act.put, xA, xB, xC, i64_w, i32_w]
   rfl
  refine one_ (i := 3) (N := some 23) #[true, true, true, true, false, false] rfl rfl (by kernel_rfl) (by decide) (fun K hK => ?_)
  refine goes_ Try.func34 (by kernel_rfl) rfl #[.agg #[.slice A1_0 l1_0.length c1_0, .int .i64 a1_1, .bool a1_2]] (by rfl) rfl rfl zm ?_
  with_reducible refine (laws_toPiece.calls k _ _ l1_0 a1_1 a1_2 t867 t870 t871 _ ?side1 ?side2 A20.out).mono ?_
  (case side1 => repeat (first | exact (Kd.C_below HR1_0.out HB.out) | (with_reducible refine Kd.C_alloc ?_ _) | (with_reducible refine Kd.C_drewN ?_ _) | (with_reducible refine Kd.C_drew ?_)))
  (case side2 => exact HC1_0.out)
  rintro e w147 ⟨v868, rfl, ho0, hb⟩
  refine ⟨_, rfl, ?_⟩
  have n0_ := aM (Kd.R_elder' (mR_ HO864.out) (Kd.R_base ho0) hb)
  have n1_ := aM (Kd.R_lower (Kd.R_new' ho0 (Kd.R_lt (mR_ HO864.out))) (below_size (zt GE858.out GE859.out)))
  have n2_ := aM (blk_below (g := gb858) (o := .cells #[.slice A0_0 l0_0.length c0_0, .int .i64 a0_1, .bool a0_2] 47 (0, 0)) (mB_ BK858.out) hb)
  have n3_ := aM (blk_below (g := gb859) (o := .cells #[.slice A1_0 l1_0.length c1_0, .int .i64 a1_1, .bool a1_2] 47 (0, 0)) (mB_ BK859.out) hb)
  have n4_ := aM (below_step (zt GE858.out GE859.out) hb)
  clear HO864
  clear BK858
  clear BK859
  clear HB
  have HO864 := n0_
  have HO869 := n1_
  have BK858 := n2_
  have BK859 := n3_
  have HB := n4_
  clear n0_ n1_ n2_ n3_ n4_
  (try clear hb)
  (try clear hb2)
  (try clear hk)
  (try clear hi)
  (try clear ho0)
  obtain ⟨Ao148, co148, eo148⟩ := Kd.R_slice HO864.out
  (first | subst eo148 | (injection eo148 with f1_ f2_ f3_; have f4_ := f1_.symm; have f5_ := f3_.symm; clear f1_ f2_ f3_; subst f4_; subst f5_))
  obtain ⟨Ao149, co149, eo149⟩ := Kd.R_slice HO869.out
  (first | subst eo149 | (injection eo149 with f1_ f2_ f3_; have f4_ := f1_.symm; have f5_ := f3_.symm; clear f1_ f2_ f3_; subst f4_; subst f5_))
  refine hK.out _ _ ⟨(blk_cell BK858.out 0).trans rfl, (blk_cell BK858.out 1).trans rfl, (blk_cell BK858.out 2).trans rfl, (blk_cell BK859.out 0).trans rfl, (blk_cell BK859.out 1).trans rfl, (blk_cell BK859.out 2).trans rfl⟩ (fun hHeld => ?_)
  clear hK K
  refine norm_ (a' := ?_) ?_ ?_
  rotate_left
  ·show Act.put _ (some 23) _ = _
   simp only [Act.put, xA, xB, xC, i64_w, i32_w]
   rfl
  refine one_ (i := 4) (N := some 24) #[true, true, true, true, true, false] rfl rfl (by kernel_rfl) (by decide) (fun K hK => ?_)
  refine goes_ Try.func33 (by kernel_rfl) rfl #[.agg #[.slice Ao148 t862.length co148, .int .i64 t865, .bool t866], .agg #[.slice Ao149 t867.length co149, .int .i64 t870, .bool t871]] (by rfl) rfl rfl zm ?_
  with_reducible refine (spec_AreAlike.calls k _ _ t862 t865 t866 _ _ t867 t870 t871 t872 _ ?side1 ?side2 ?side3 ?side4 A21.out).mono ?_
  (case side1 => exact zc HO864.out)
  (case side2 => exact (Kd.R_reads' HO864.out).2.1)
  (case side3 => exact zc HO869.out)
  (case side4 => exact (Kd.R_reads' HO869.out).2.1)
  rintro e w150 ⟨rfl, hb⟩
  refine ⟨_, rfl, ?_⟩
  have n0_ := aM (Kd.R_below (mR_ HO864.out) hb)
  have n1_ := aM (Kd.R_below (mR_ HO869.out) hb)
  have n2_ := aM (blk_below (g := gb858) (o := .cells #[.slice A0_0 l0_0.length c0_0, .int .i64 a0_1, .bool a0_2] 47 (0, 0)) (mB_ BK858.out) hb)
  have n3_ := aM (blk_below (g := gb859) (o := .cells #[.slice A1_0 l1_0.length c1_0, .int .i64 a1_1, .bool a1_2] 47 (0, 0)) (mB_ BK859.out) hb)
  have n4_ := aM (below_step (zt GE858.out GE859.out) hb)
  clear HO864
  clear HO869
  clear BK858
  clear BK859
  clear HB
  have HO864 := n0_
  have HO869 := n1_
  have BK858 := n2_
  have BK859 := n3_
  have HB := n4_
  clear n0_ n1_ n2_ n3_ n4_
  (try clear hb)
  (try clear hb2)
  (try clear hk)
  (try clear hi)
  refine hK.out _ _ ⟨(blk_cell BK858.out 0).trans rfl, (blk_cell BK858.out 1).trans rfl, (blk_cell BK858.out 2).trans rfl, (blk_cell BK859.out 0).trans rfl, (blk_cell BK859.out 1).trans rfl, (blk_cell BK859.out 2).trans rfl⟩ (fun hHeld => ?_)
  clear hK K
  refine norm_ (a' := ?_) ?_ ?_
  rotate_left
  ·show Act.put _ (some 24) _ = _
   simp only [Act.put, xA, xB, xC, i64_w, i32_w]
   rfl
  refine pure_ (i := 5) (N := some 6) (v := ?_) (a' := ?_) #[true, true, true, true, true, true] rfl rfl (by kernel_rfl) (fun _ _ _ h => h) (Or.inl ⟨by rfl, ?_⟩) ?_ ?_
  rotate_left
  ·intro w'
   go_simp
   with_reducible rfl
  rotate_left
  ·simp only [Act.put, xA, xB, xC, i64_w, i32_w]
   rfl
  refine done_ (by kernel_rfl) ?_
  have hcz151_0 : w150.cell? ⟨gb858, 0, none⟩ = some (.slice A0_0 l0_0.length c0_0) := (blk_cell BK858.out 0).trans rfl
  have hcz151_1 : w150.cell? ⟨gb858, 1, none⟩ = some (.int .i64 a0_1) := (blk_cell BK858.out 1).trans rfl
  have hcz151_2 : w150.cell? ⟨gb858, 2, none⟩ = some (.bool a0_2) := (blk_cell BK858.out 2).trans rfl
  have hfz151_0 := blk_frozen BK858.out 0
  have hfz151_1 := blk_frozen BK858.out 1
  have hfz151_2 := blk_frozen BK858.out 2
  try go_wp2_with (first | ((with_reducible refine gate_callee (f := 34) rfl ?_); refine goesL_ (some 26) rfl rfl Try.func34 (by kernel_rfl) rfl #[.agg #[.slice A0_0 l0_0.length c0_0, .int .i64 a0_1, .bool a0_2]] rfl zm ?_; (with_reducible refine (laws_toPiece.calls k _ _ l0_0 a0_1 a0_2 t873 t876 t877 _ ?side1 ?side2 A22.out).mono ?_); (case side1 => repeat (first | exact (Kd.C_below HR0_0.out HB.out) | (with_reducible refine Kd.C_alloc ?_ _) | (with_reducible refine Kd.C_drewN ?_ _) | (with_reducible refine Kd.C_drew ?_))); (case side2 => exact HC0_0.out); rintro e w152 ⟨v874, rfl, ho0, hb⟩; refine ⟨_, rfl, ?_⟩; have n0_ := aM (Kd.R_elder' (mR_ HO864.out) (Kd.R_base ho0) hb); have n1_ := aM (Kd.R_elder' (mR_ HO869.out) (Kd.R_base ho0) hb); have n2_ := aM (Kd.R_lower (Kd.R_new' (Kd.R_new' ho0 (Kd.R_lt (mR_ HO864.out))) (Kd.R_lt (mR_ HO869.out))) (below_size (zt GE858.out GE859.out))); have n3_ := aM (blk_below (g := gb858) (o := .cells #[.slice A0_0 l0_0.length c0_0, .int .i64 a0_1, .bool a0_2] 47 (0, 0)) (mB_ BK858.out) hb); have n4_ := aM (blk_below (g := gb859) (o := .cells #[.slice A1_0 l1_0.length c1_0, .int .i64 a1_1, .bool a1_2] 47 (0, 0)) (mB_ BK859.out) hb); have n5_ := aM (below_step (zt GE858.out GE859.out) hb); clear HO864 HO869 BK858 BK859 HB; have HO864 := n0_; have HO869 := n1_; have HO875 := n2_; have BK858 := n3_; have BK859 := n4_; have HB := n5_; clear n0_ n1_ n2_ n3_ n4_ n5_; (try clear hb); (try clear hb2); (try clear hk); (try clear hi); (try clear ho0)) | ((with_reducible refine gate_dst (N := 7) rfl ?_); refine zx 7 #[.slice none 0 0, .int .i64 0, .bool false] 51 ?_; intro gb878 hg w153 hbox hb; have n0_ := aM (Kd.R_below (mR_ HO864.out) hb); have n1_ := aM (Kd.R_below (mR_ HO869.out) hb); have n2_ := aM (Kd.R_below (mR_ HO875.out) hb); have n3_ := aM (blk_below (g := gb858) (o := .cells #[.slice A0_0 l0_0.length c0_0, .int .i64 a0_1, .bool a0_2] 47 (0, 0)) (mB_ BK858.out) hb); have n4_ := aM (blk_below (g := gb859) (o := .cells #[.slice A1_0 l1_0.length c1_0, .int .i64 a1_1, .bool a1_2] 47 (0, 0)) (mB_ BK859.out) hb); have n5_ := aM (below_step (zt GE858.out GE859.out) hb); have n6_ := aM (hbox); have n7_ := aM ((by rw [hg]; exact (below_size (zt GE858.out GE859.out)) : w.heap.size ≤ gb878)); have n8_ := aM ((by rw [hg]; exact (below_size (zt GE858.out GE859.out)) : w.heap.size ≤ gb878)); have n9_ := aM ((zl BK858.out : gb858 ≠ gb878)); have n10_ := aM ((zn BK858.out : gb878 ≠ gb858)); have n11_ := aM ((zl BK859.out : gb859 ≠ gb878)); have n12_ := aM ((zn BK859.out : gb878 ≠ gb859)); clear HO864 HO869 HO875 BK858 BK859 HB; have HO864 := n0_; have HO869 := n1_; have HO875 := n2_; have BK858 := n3_; have BK859 := n4_; have HB := n5_; have BK878 := n6_; have GW878 := n7_; have GE878 := n8_; have NB858_878 := n9_; have NB878_858 := n10_; have NB859_878 := n11_; have NB878_859 := n12_; clear n0_ n1_ n2_ n3_ n4_ n5_ n6_ n7_ n8_ n9_ n10_ n11_ n12_ hb hbox hg; obtain ⟨Ao154, co154, eo154⟩ := Kd.R_slice HO875.out; subst eo154; have hnb155 := NB878_858.out; have hnc155 := NB858_878.out; have hnb156 := NB878_859.out; have hnc156 := NB859_878.out; have hcz157_0 : w153.cell? ⟨gb878, 0, none⟩ = some (.slice none 0 0) := (blk_cell BK878.out 0).trans rfl; have hcz157_1 : w153.cell? ⟨gb878, 1, none⟩ = some (.int .i64 0) := (blk_cell BK878.out 1).trans rfl; have hcz157_2 : w153.cell? ⟨gb878, 2, none⟩ = some (.bool false) := (blk_cell BK878.out 2).trans rfl; have hfz157_0 := blk_frozen BK878.out 0; have hfz157_1 := blk_frozen BK878.out 1; have hfz157_2 := blk_frozen BK878.out 2; have hcz158_0 : w153.cell? ⟨gb859, 0, none⟩ = some (.slice A1_0 l1_0.length c1_0) := (blk_cell BK859.out 0).trans rfl; have hcz158_1 : w153.cell? ⟨gb859, 1, none⟩ = some (.int .i64 a1_1) := (blk_cell BK859.out 1).trans rfl; have hcz158_2 : w153.cell? ⟨gb859, 2, none⟩ = some (.bool a1_2) := (blk_cell BK859.out 2).trans rfl; have hfz158_0 := blk_frozen BK859.out 0; have hfz158_1 := blk_frozen BK859.out 1; have hfz158_2 := blk_frozen BK859.out 2) | ((with_reducible refine gate_callee (f := 34) rfl ?_); refine goesL_ (some 28) rfl rfl Try.func34 (by kernel_rfl) rfl #[.agg #[.slice A1_0 l1_0.length c1_0, .int .i64 a1_1, .bool a1_2]] rfl zm ?_; (with_reducible refine (laws_toPiece.calls k _ _ l1_0 a1_1 a1_2 t879 t882 t883 _ ?side1 ?side2 A23.out).mono ?_); (case side1 => exact Kd.C_below HR1_0.out (by repeat (first | (with_reducible first | exact HB.out | apply below_alloc | apply pw_below_drewN | apply below_drew1 | refine below_set ?_ GE858.out | refine below_set ?_ GE859.out | refine below_set ?_ GE878.out) | exact HB.out))); (case side2 => exact HC1_0.out); rintro e w159 ⟨v880, rfl, ho0, hb⟩; refine ⟨_, rfl, ?_⟩; have n0_ := aM (Kd.R_elder' (by (with_reducible repeat (first | apply Kd.R_alloc | apply Kd.R_drewN | apply Kd.R_drew)); exact (Kd.R_mono (Kd.R_far (p := ⟨gb878, 2, none⟩) (Kd.R_far (p := ⟨gb878, 1, none⟩) (Kd.R_far (p := ⟨gb878, 0, none⟩) (Kd.R_types HO864.out BK878.out (by decide)) (fun _ hk => hk.2) (.slice Ao154 t873.length co154)) (fun _ hk => hk.2) (.int .i64 t876)) (fun _ hk => hk.2) (.bool t877)) (fun _ h_ => h_.1))) (Kd.R_base ho0) hb); have n1_ := aM (Kd.R_elder' (by (with_reducible repeat (first | apply Kd.R_alloc | apply Kd.R_drewN | apply Kd.R_drew)); exact (Kd.R_mono (Kd.R_far (p := ⟨gb878, 2, none⟩) (Kd.R_far (p := ⟨gb878, 1, none⟩) (Kd.R_far (p := ⟨gb878, 0, none⟩) (Kd.R_types HO869.out BK878.out (by decide)) (fun _ hk => hk.2) (.slice Ao154 t873.length co154)) (fun _ hk => hk.2) (.int .i64 t876)) (fun _ hk => hk.2) (.bool t877)) (fun _ h_ => h_.1))) (Kd.R_base ho0) hb); have n2_ := aM (Kd.R_elder' (by (with_reducible repeat (first | apply Kd.R_alloc | apply Kd.R_drewN | apply Kd.R_drew)); exact (Kd.R_mono (Kd.R_far (p := ⟨gb878, 2, none⟩) (Kd.R_far (p := ⟨gb878, 1, none⟩) (Kd.R_far (p := ⟨gb878, 0, none⟩) (Kd.R_types HO875.out BK878.out (by decide)) (fun _ hk => hk.2) (.slice Ao154 t873.length co154)) (fun _ hk => hk.2) (.int .i64 t876)) (fun _ hk => hk.2) (.bool t877)) (fun _ h_ => h_.1))) (Kd.R_base ho0) hb); have n3_ := aM (Kd.R_lower (Kd.R_new' (Kd.R_new' (Kd.R_new' ho0 (Kd.R_lt (by (with_reducible repeat (first | apply Kd.R_alloc | apply Kd.R_drewN | apply Kd.R_drew)); exact (Kd.R_mono (Kd.R_far (p := ⟨gb878, 2, none⟩) (Kd.R_far (p := ⟨gb878, 1, none⟩) (Kd.R_far (p := ⟨gb878, 0, none⟩) (Kd.R_types HO864.out BK878.out (by decide)) (fun _ hk => hk.2) (.slice Ao154 t873.length co154)) (fun _ hk => hk.2) (.int .i64 t876)) (fun _ hk => hk.2) (.bool t877)) (fun _ h_ => h_.1))))) (Kd.R_lt (by (with_reducible repeat (first | apply Kd.R_alloc | apply Kd.R_drewN | apply Kd.R_drew)); exact (Kd.R_mono (Kd.R_far (p := ⟨gb878, 2, none⟩) (Kd.R_far (p := ⟨gb878, 1, none⟩) (Kd.R_far (p := ⟨gb878, 0, none⟩) (Kd.R_types HO869.out BK878.out (by decide)) (fun _ hk => hk.2) (.slice Ao154 t873.length co154)) (fun _ hk => hk.2) (.int .i64 t876)) (fun _ hk => hk.2) (.bool t877)) (fun _ h_ => h_.1))))) (Kd.R_lt (by (with_reducible repeat (first | apply Kd.R_alloc | apply Kd.R_drewN | apply Kd.R_drew)); exact (Kd.R_mono (Kd.R_far (p := ⟨gb878, 2, none⟩) (Kd.R_far (p := ⟨gb878, 1, none⟩) (Kd.R_far (p := ⟨gb878, 0, none⟩) (Kd.R_types HO875.out BK878.out (by decide)) (fun _ hk => hk.2) (.slice Ao154 t873.length co154)) (fun _ hk => hk.2) (.int .i64 t876)) (fun _ hk => hk.2) (.bool t877)) (fun _ h_ => h_.1))))) (below_size (by repeat (first | (with_reducible first | exact HB.out | apply below_alloc | apply pw_below_drewN | apply below_drew1 | refine below_set ?_ GE858.out | refine below_set ?_ GE859.out | refine below_set ?_ GE878.out) | exact HB.out)))); have n4_ := aM (blk_below (g := gb858) (o := .cells #[.slice A0_0 l0_0.length c0_0, .int .i64 a0_1, .bool a0_2] 47 (0, 0)) (by (with_reducible repeat (first | refine blk_drewN ?_ _ | refine blk_drew ?_ | refine blk_alloc ?_ _)); refine blk_far ?_ NB858_878.out _; (with_reducible repeat (first | refine blk_drewN ?_ _ | refine blk_drew ?_ | refine blk_alloc ?_ _)); refine blk_far ?_ NB858_878.out _; (with_reducible repeat (first | refine blk_drewN ?_ _ | refine blk_drew ?_ | refine blk_alloc ?_ _)); refine blk_far ?_ NB858_878.out _; (with_reducible repeat (first | refine blk_drewN ?_ _ | refine blk_drew ?_ | refine blk_alloc ?_ _)); exact BK858.out) hb); have n5_ := aM (blk_below (g := gb859) (o := .cells #[.slice A1_0 l1_0.length c1_0, .int .i64 a1_1, .bool a1_2] 47 (0, 0)) (by (with_reducible repeat (first | refine blk_drewN ?_ _ | refine blk_drew ?_ | refine blk_alloc ?_ _)); refine blk_far ?_ NB859_878.out _; (with_reducible repeat (first | refine blk_drewN ?_ _ | refine blk_drew ?_ | refine blk_alloc ?_ _)); refine blk_far ?_ NB859_878.out _; (with_reducible repeat (first | refine blk_drewN ?_ _ | refine blk_drew ?_ | refine blk_alloc ?_ _)); refine blk_far ?_ NB859_878.out _; (with_reducible repeat (first | refine blk_drewN ?_ _ | refine blk_drew ?_ | refine blk_alloc ?_ _)); exact BK859.out) hb); have n6_ := aM (blk_below (g := gb878) (o := .cells #[.slice Ao154 t873.length co154, .int .i64 t876, .bool t877] 51 (0, 0)) (by (with_reducible repeat (first | refine blk_drewN ?_ _ | refine blk_drew ?_ | refine blk_alloc ?_ _)); refine blk_put (cs := #[.slice Ao154 t873.length co154, .int .i64 t876, .bool false]) ?_ 2 _ rfl; (with_reducible repeat (first | refine blk_drewN ?_ _ | refine blk_drew ?_ | refine blk_alloc ?_ _)); refine blk_put (cs := #[.slice Ao154 t873.length co154, .int .i64 0, .bool false]) ?_ 1 _ rfl; (with_reducible repeat (first | refine blk_drewN ?_ _ | refine blk_drew ?_ | refine blk_alloc ?_ _)); refine blk_put (cs := #[.slice none 0 0, .int .i64 0, .bool false]) ?_ 0 _ rfl; (with_reducible repeat (first | refine blk_drewN ?_ _ | refine blk_drew ?_ | refine blk_alloc ?_ _)); exact BK878.out) hb); have n7_ := aM (below_step (by repeat (first | (with_reducible first | exact HB.out | apply below_alloc | apply pw_below_drewN | apply below_drew1 | refine below_set ?_ GE858.out | refine below_set ?_ GE859.out | refine below_set ?_ GE878.out) | exact HB.out)) hb); clear HO864 HO869 HO875 BK858 BK859 BK878 HB; have HO864 := n0_; have HO869 := n1_; have HO875 := n2_; have HO881 := n3_; have BK858 := n4_; have BK859 := n5_; have BK878 := n6_; have HB := n7_; clear n0_ n1_ n2_ n3_ n4_ n5_ n6_ n7_; (try clear hb); (try clear hb2); (try clear hk); (try clear hi); (try clear ho0)) | ((with_reducible refine gate_dst (N := 8) rfl ?_); refine zx 8 #[.slice none 0 0, .int .i64 0, .bool false] 51 ?_; intro gb884 hg w160 hbox hb; have n0_ := aM (Kd.R_below (mR_ HO864.out) hb); have n1_ := aM (Kd.R_below (mR_ HO869.out) hb); have n2_ := aM (Kd.R_below (mR_ HO875.out) hb); have n3_ := aM (Kd.R_below (mR_ HO881.out) hb); have n4_ := aM (blk_below (g := gb858) (o := .cells #[.slice A0_0 l0_0.length c0_0, .int .i64 a0_1, .bool a0_2] 47 (0, 0)) (mB_ BK858.out) hb); have n5_ := aM (blk_below (g := gb859) (o := .cells #[.slice A1_0 l1_0.length c1_0, .int .i64 a1_1, .bool a1_2] 47 (0, 0)) (mB_ BK859.out) hb); have n6_ := aM (blk_below (g := gb878) (o := .cells #[.slice Ao154 t873.length co154, .int .i64 t876, .bool t877] 51 (0, 0)) (mB_ BK878.out) hb); have n7_ := aM (below_step (by repeat (first | (with_reducible first | exact HB.out | apply below_alloc | apply pw_below_drewN | apply below_drew1 | refine below_set ?_ GE858.out | refine below_set ?_ GE859.out | refine below_set ?_ GE878.out) | exact HB.out)) hb); have n8_ := aM (hbox); have n9_ := aM ((by rw [hg]; exact (below_size (by repeat (first | (with_reducible first | exact HB.out | apply below_alloc | apply pw_below_drewN | apply below_drew1 | refine below_set ?_ GE858.out | refine below_set ?_ GE859.out | refine below_set ?_ GE878.out) | exact HB.out))) : w.heap.size ≤ gb884)); have n10_ := aM ((by rw [hg]; exact (below_size (by repeat (first | (with_reducible first | exact HB.out | apply below_alloc | apply pw_below_drewN | apply below_drew1 | refine below_set ?_ GE858.out | refine below_set ?_ GE859.out | refine below_set ?_ GE878.out) | exact HB.out))) : w.heap.size ≤ gb884)); have n11_ := aM ((zl BK858.out : gb858 ≠ gb884)); have n12_ := aM ((zn BK858.out : gb884 ≠ gb858)); have n13_ := aM ((zl BK859.out : gb859 ≠ gb884)); have n14_ := aM ((zn BK859.out : gb884 ≠ gb859)); have n15_ := aM ((zl BK878.out : gb878 ≠ gb884)); have n16_ := aM ((zn BK878.out : gb884 ≠ gb878)); clear HO864 HO869 HO875 HO881 BK858 BK859 BK878 HB; have HO864 := n0_; have HO869 := n1_; have HO875 := n2_; have HO881 := n3_; have BK858 := n4_; have BK859 := n5_; have BK878 := n6_; have HB := n7_; have BK884 := n8_; have GW884 := n9_; have GE884 := n10_; have NB858_884 := n11_; have NB884_858 := n12_; have NB859_884 := n13_; have NB884_859 := n14_; have NB878_884 := n15_; have NB884_878 := n16_; clear n0_ n1_ n2_ n3_ n4_ n5_ n6_ n7_ n8_ n9_ n10_ n11_ n12_ n13_ n14_ n15_ n16_ hb hbox hg; obtain ⟨Ao161, co161, eo161⟩ := Kd.R_slice HO881.out; subst eo161; have hnb162 := NB884_858.out; have hnc162 := NB858_884.out; have hnb163 := NB884_859.out; have hnc163 := NB859_884.out; have hnb164 := NB884_878.out; have hnc164 := NB878_884.out; have hcz165_0 : w160.cell? ⟨gb884, 0, none⟩ = some (.slice none 0 0) := (blk_cell BK884.out 0).trans rfl; have hcz165_1 : w160.cell? ⟨gb884, 1, none⟩ = some (.int .i64 0) := (blk_cell BK884.out 1).trans rfl; have hcz165_2 : w160.cell? ⟨gb884, 2, none⟩ = some (.bool false) := (blk_cell BK884.out 2).trans rfl; have hfz165_0 := blk_frozen BK884.out 0; have hfz165_1 := blk_frozen BK884.out 1; have hfz165_2 := blk_frozen BK884.out 2; have hcz166_0 : w160.cell? ⟨gb878, 0, none⟩ = some (.slice Ao154 t873.length co154) := (blk_cell BK878.out 0).trans rfl; have hcz166_1 : w160.cell? ⟨gb878, 1, none⟩ = some (.int .i64 t876) := (blk_cell BK878.out 1).trans rfl; have hcz166_2 : w160.cell? ⟨gb878, 2, none⟩ = some (.bool t877) := (blk_cell BK878.out 2).trans rfl; have hfz166_0 := blk_frozen BK878.out 0; have hfz166_1 := blk_frozen BK878.out 1; have hfz166_2 := blk_frozen BK878.out 2) | ((with_reducible refine gate_callee (f := 35) rfl ?_); refine goesL_ (some 31) rfl rfl Try.func35 (by kernel_rfl) rfl #[.agg #[.slice Ao154 t873.length co154, .int .i64 t876, .bool t877], .agg #[.slice Ao161 t879.length co161, .int .i64 t882, .bool t883]] rfl zm ?_; (with_reducible refine (impl_AreAlike.calls k _ _ t873 t876 t877 _ _ t879 t882 t883 t885 _ ?side1 ?side2 ?side3 ?side4 A24.out).mono ?_); (case side1 => refine (Kd.R_reads' (e := 59) (base := w.heap.size) (ok := fun k_ => (((True ∧ some k_ ≠ (.slice Ao148 t862.length co148 : Value).ownBlock) ∧ some k_ ≠ (.slice Ao149 t867.length co149 : Value).ownBlock) ∧ some k_ ≠ (.slice Ao161 t879.length co161 : Value).ownBlock)) (n := t873.length) (c := co154) ?_).2.2; exact (by (with_reducible repeat (first | apply Kd.R_alloc | apply Kd.R_drewN | apply Kd.R_drew)); exact (Kd.R_mono (Kd.R_far (p := ⟨gb884, 2, none⟩) (Kd.R_far (p := ⟨gb884, 1, none⟩) (Kd.R_far (p := ⟨gb884, 0, none⟩) (Kd.R_types HO875.out BK884.out (by decide)) (fun _ hk => hk.2) (.slice Ao161 t879.length co161)) (fun _ hk => hk.2) (.int .i64 t882)) (fun _ hk => hk.2) (.bool t883)) (fun _ h_ => h_.1)))); (case side2 => exact (Kd.R_reads' HO875.out).2.1); (case side3 => refine (Kd.R_reads' (e := 59) (base := w.heap.size) (ok := fun k_ => (((True ∧ some k_ ≠ (.slice Ao148 t862.length co148 : Value).ownBlock) ∧ some k_ ≠ (.slice Ao149 t867.length co149 : Value).ownBlock) ∧ some k_ ≠ (.slice Ao154 t873.length co154 : Value).ownBlock)) (n := t879.length) (c := co161) ?_).2.2; exact (by (with_reducible repeat (first | apply Kd.R_alloc | apply Kd.R_drewN | apply Kd.R_drew)); exact (Kd.R_mono (Kd.R_far (p := ⟨gb884, 2, none⟩) (Kd.R_far (p := ⟨gb884, 1, none⟩) (Kd.R_far (p := ⟨gb884, 0, none⟩) (Kd.R_types HO881.out BK884.out (by decide)) (fun _ hk => hk.2) (.slice Ao161 t879.length co161)) (fun _ hk => hk.2) (.int .i64 t882)) (fun _ hk => hk.2) (.bool t883)) (fun _ h_ => h_.1)))); (case side4 => exact (Kd.R_reads' HO881.out).2.1); rintro e w167 ⟨rfl, hb⟩; refine ⟨_, rfl, ?_⟩; have n0_ := aM (Kd.R_below (by (with_reducible repeat (first | apply Kd.R_alloc | apply Kd.R_drewN | apply Kd.R_drew)); exact (Kd.R_mono (Kd.R_far (p := ⟨gb884, 2, none⟩) (Kd.R_far (p := ⟨gb884, 1, none⟩) (Kd.R_far (p := ⟨gb884, 0, none⟩) (Kd.R_types HO864.out BK884.out (by decide)) (fun _ hk => hk.2) (.slice Ao161 t879.length co161)) (fun _ hk => hk.2) (.int .i64 t882)) (fun _ hk => hk.2) (.bool t883)) (fun _ h_ => h_.1))) hb); have n1_ := aM (Kd.R_below (by (with_reducible repeat (first | apply Kd.R_alloc | apply Kd.R_drewN | apply Kd.R_drew)); exact (Kd.R_mono (Kd.R_far (p := ⟨gb884, 2, none⟩) (Kd.R_far (p := ⟨gb884, 1, none⟩) (Kd.R_far (p := ⟨gb884, 0, none⟩) (Kd.R_types HO869.out BK884.out (by decide)) (fun _ hk => hk.2) (.slice Ao161 t879.length co161)) (fun _ hk => hk.2) (.int .i64 t882)) (fun _ hk => hk.2) (.bool t883)) (fun _ h_ => h_.1))) hb); have n2_ := aM (Kd.R_below (by (with_reducible repeat (first | apply Kd.R_alloc | apply Kd.R_drewN | apply Kd.R_drew)); exact (Kd.R_mono (Kd.R_far (p := ⟨gb884, 2, none⟩) (Kd.R_far (p := ⟨gb884, 1, none⟩) (Kd.R_far (p := ⟨gb884, 0, none⟩) (Kd.R_types HO875.out BK884.out (by decide)) (fun _ hk => hk.2) (.slice Ao161 t879.length co161)) (fun _ hk => hk.2) (.int .i64 t882)) (fun _ hk => hk.2) (.bool t883)) (fun _ h_ => h_.1))) hb); have n3_ := aM (Kd.R_below (by (with_reducible repeat (first | apply Kd.R_alloc | apply Kd.R_drewN | apply Kd.R_drew)); exact (Kd.R_mono (Kd.R_far (p := ⟨gb884, 2, none⟩) (Kd.R_far (p := ⟨gb884, 1, none⟩) (Kd.R_far (p := ⟨gb884, 0, none⟩) (Kd.R_types HO881.out BK884.out (by decide)) (fun _ hk => hk.2) (.slice Ao161 t879.length co161)) (fun _ hk => hk.2) (.int .i64 t882)) (fun _ hk => hk.2) (.bool t883)) (fun _ h_ => h_.1))) hb); have n4_ := aM (blk_below (g := gb858) (o := .cells #[.slice A0_0 l0_0.length c0_0, .int .i64 a0_1, .bool a0_2] 47 (0, 0)) (by (with_reducible repeat (first | refine blk_drewN ?_ _ | refine blk_drew ?_ | refine blk_alloc ?_ _)); refine blk_far ?_ NB858_884.out _; (with_reducible repeat (first | refine blk_drewN ?_ _ | refine blk_drew ?_ | refine blk_alloc ?_ _)); refine blk_far ?_ NB858_884.out _; (with_reducible repeat (first | refine blk_drewN ?_ _ | refine blk_drew ?_ | refine blk_alloc ?_ _)); refine blk_far ?_ NB858_884.out _; (with_reducible repeat (first | refine blk_drewN ?_ _ | refine blk_drew ?_ | refine blk_alloc ?_ _)); exact BK858.out) hb); have n5_ := aM (blk_below (g := gb859) (o := .cells #[.slice A1_0 l1_0.length c1_0, .int .i64 a1_1, .bool a1_2] 47 (0, 0)) (by (with_reducible repeat (first | refine blk_drewN ?_ _ | refine blk_drew ?_ | refine blk_alloc ?_ _)); refine blk_far ?_ NB859_884.out _; (with_reducible repeat (first | refine blk_drewN ?_ _ | refine blk_drew ?_ | refine blk_alloc ?_ _)); refine blk_far ?_ NB859_884.out _; (with_reducible repeat (first | refine blk_drewN ?_ _ | refine blk_drew ?_ | refine blk_alloc ?_ _)); refine blk_far ?_ NB859_884.out _; (with_reducible repeat (first | refine blk_drewN ?_ _ | refine blk_drew ?_ | refine blk_alloc ?_ _)); exact BK859.out) hb); have n6_ := aM (blk_below (g := gb878) (o := .cells #[.slice Ao154 t873.length co154, .int .i64 t876, .bool t877] 51 (0, 0)) (by (with_reducible repeat (first | refine blk_drewN ?_ _ | refine blk_drew ?_ | refine blk_alloc ?_ _)); refine blk_far ?_ NB878_884.out _; (with_reducible repeat (first | refine blk_drewN ?_ _ | refine blk_drew ?_ | refine blk_alloc ?_ _)); refine blk_far ?_ NB878_884.out _; (with_reducible repeat (first | refine blk_drewN ?_ _ | refine blk_drew ?_ | refine blk_alloc ?_ _)); refine blk_far ?_ NB878_884.out _; (with_reducible repeat (first | refine blk_drewN ?_ _ | refine blk_drew ?_ | refine blk_alloc ?_ _)); exact BK878.out) hb); have n7_ := aM (blk_below (g := gb884) (o := .cells #[.slice Ao161 t879.length co161, .int .i64 t882, .bool t883] 51 (0, 0)) (by (with_reducible repeat (first | refine blk_drewN ?_ _ | refine blk_drew ?_ | refine blk_alloc ?_ _)); refine blk_put (cs := #[.slice Ao161 t879.length co161, .int .i64 t882, .bool false]) ?_ 2 _ rfl; (with_reducible repeat (first | refine blk_drewN ?_ _ | refine blk_drew ?_ | refine blk_alloc ?_ _)); refine blk_put (cs := #[.slice Ao161 t879.length co161, .int .i64 0, .bool false]) ?_ 1 _ rfl; (with_reducible repeat (first | refine blk_drewN ?_ _ | refine blk_drew ?_ | refine blk_alloc ?_ _)); refine blk_put (cs := #[.slice none 0 0, .int .i64 0, .bool false]) ?_ 0 _ rfl; (with_reducible repeat (first | refine blk_drewN ?_ _ | refine blk_drew ?_ | refine blk_alloc ?_ _)); exact BK884.out) hb); have n8_ := aM (below_step (by repeat (first | (with_reducible first | exact HB.out | apply below_alloc | apply pw_below_drewN | apply below_drew1 | refine below_set ?_ GE858.out | refine below_set ?_ GE859.out | refine below_set ?_ GE878.out | refine below_set ?_ GE884.out) | exact HB.out)) hb); clear HO864 HO869 HO875 HO881 BK858 BK859 BK878 BK884 HB; have HO864 := n0_; have HO869 := n1_; have HO875 := n2_; have HO881 := n3_; have BK858 := n4_; have BK859 := n5_; have BK878 := n6_; have BK884 := n7_; have HB := n8_; clear n0_ n1_ n2_ n3_ n4_ n5_ n6_ n7_ n8_; (try clear hb); (try clear hb2); (try clear hk); (try clear hi)))
  have n0_ := aM (Kd.R_drew HO864.out)
  have n1_ := aM (Kd.R_drew HO869.out)
  have n2_ := aM (Kd.R_drew HO875.out)
  have n3_ := aM (Kd.R_drew HO881.out)
  have n4_ := aM (blk_drew BK858.out)
  have n5_ := aM (blk_drew BK859.out)
  have n6_ := aM (blk_drew BK878.out)
  have n7_ := aM (blk_drew BK884.out)
  have n8_ := aM (below_drew1 HB.out)
  clear HO864
  clear HO869
  clear HO875
  clear HO881
  clear BK858
  clear BK859
  clear BK878
  clear BK884
  clear HB
  have HO864 := n0_
  have HO869 := n1_
  have HO875 := n2_
  have HO881 := n3_
  have BK858 := n4_
  have BK859 := n5_
  have BK878 := n6_
  have BK884 := n7_
  have HB := n8_
  clear n0_ n1_ n2_ n3_ n4_ n5_ n6_ n7_ n8_
  refine start_ (n := 5) (S := fun w' => w'.cell? ⟨gb878, 0, none⟩ = some (.slice Ao154 t873.length co154) ∧ w'.cell? ⟨gb878, 1, none⟩ = some (.int .i64 t876) ∧ w'.cell? ⟨gb878, 2, none⟩ = some (.bool t877) ∧ w'.cell? ⟨gb858, 0, none⟩ = some (.slice A0_0 l0_0.length c0_0) ∧ w'.cell? ⟨gb858, 1, none⟩ = some (.int .i64 a0_1) ∧ w'.cell? ⟨gb858, 2, none⟩ = some (.bool a0_2)) (ds := []) #[false, false, false, false, false] (by kernel_rfl) rfl rfl ⟨(blk_cell BK878.out 0).trans rfl, (blk_cell BK878.out 1).trans rfl, (blk_cell BK878.out 2).trans rfl, (blk_cell BK858.out 0).trans rfl, (blk_cell BK858.out 1).trans rfl, (blk_cell BK858.out 2).trans rfl⟩ (fun hHeld => ?_)
  generalize w167.drew = w168 at HO864 HO869 HO875 HO881 BK858 BK859 BK878 BK884 HB hHeld ⊢
  refine take_ (i := 0) (N := some 35) (v := ?_) (a' := ?_) #[true, false, false, false, false] rfl rfl (by kernel_rfl) (fun _ _ _ h => h) (Or.inl ⟨by rfl, ?_⟩) hHeld ?_ ?_
  rotate_left
  ·rintro w' ⟨s0, s1, s2, s3, s4, s5⟩
   go_simp
   with_reducible rfl
  rotate_left
  ·simp only [Act.put, xA, xB, xC, i64_w, i32_w]
   rfl
  refine take_ (i := 1) (N := some 36) (v := ?_) (a' := ?_) #[true, true, false, false, false] rfl rfl (by kernel_rfl) (fun _ _ _ h => h) (Or.inl ⟨by rfl, ?_⟩) hHeld ?_ ?_
  rotate_left
  ·rintro w' ⟨s0, s1, s2, s3, s4, s5⟩
   go_simp
   with_reducible rfl
  rotate_left
  ·simp only [Act.put, xA, xB, xC, i64_w, i32_w]
   rfl
  refine one_ (i := 2) (N := some 37) #[true, true, true, false, false] rfl rfl (by kernel_rfl) (by decide) (fun K hK => ?_)
  refine goes_ Try.func34 (by kernel_rfl) rfl #[.agg #[.slice A0_0 l0_0.length c0_0, .int .i64 a0_1, .bool a0_2]] (by rfl) rfl rfl zm ?_
  with_reducible refine (laws_toPiece.calls k _ _ l0_0 a0_1 a0_2 t886 t889 t890 _ ?side1 ?side2 A56.out).mono ?_
  (case side1 => repeat (first | exact (Kd.C_below HR0_0.out HB.out) | (with_reducible refine Kd.C_alloc ?_ _) | (with_reducible refine Kd.C_drewN ?_ _) | (with_reducible refine Kd.C_drew ?_)))
  (case side2 => exact HC0_0.out)
  rintro e w169 ⟨v887, rfl, ho0, hb⟩
  refine ⟨_, rfl, ?_⟩
  have n0_ := aM (Kd.R_elder' (mR_ HO864.out) (Kd.R_base ho0) hb)
  have n1_ := aM (Kd.R_elder' (mR_ HO869.out) (Kd.R_base ho0) hb)
  have n2_ := aM (Kd.R_elder' (mR_ HO875.out) (Kd.R_base ho0) hb)
  have n3_ := aM (Kd.R_elder' (mR_ HO881.out) (Kd.R_base ho0) hb)
  have n4_ := aM (Kd.R_lower (Kd.R_new' (Kd.R_new' (Kd.R_new' (Kd.R_new' ho0 (Kd.R_lt (mR_ HO864.out))) (Kd.R_lt (mR_ HO869.out))) (Kd.R_lt (mR_ HO875.out))) (Kd.R_lt (mR_ HO881.out))) (below_size (by repeat (first | (with_reducible first | exact HB.out | apply below_alloc | apply pw_below_drewN | apply below_drew1 | refine below_set ?_ GE858.out | refine below_set ?_ GE859.out | refine below_set ?_ GE878.out | refine below_set ?_ GE884.out) | exact HB.out))))
  have n5_ := aM (blk_below (g := gb858) (o := .cells #[.slice A0_0 l0_0.length c0_0, .int .i64 a0_1, .bool a0_2] 47 (0, 0)) (mB_ BK858.out) hb)
  have n6_ := aM (blk_below (g := gb859) (o := .cells #[.slice A1_0 l1_0.length c1_0, .int .i64 a1_1, .bool a1_2] 47 (0, 0)) (mB_ BK859.out) hb)
  have n7_ := aM (blk_below (g := gb878) (o := .cells #[.slice Ao154 t873.length co154, .int .i64 t876, .bool t877] 51 (0, 0)) (mB_ BK878.out) hb)
  have n8_ := aM (blk_below (g := gb884) (o := .cells #[.slice Ao161 t879.length co161, .int .i64 t882, .bool t883] 51 (0, 0)) (mB_ BK884.out) hb)
  have n9_ := aM (below_step (by repeat (first | (with_reducible first | exact HB.out | apply below_alloc | apply pw_below_drewN | apply below_drew1 | refine below_set ?_ GE858.out | refine below_set ?_ GE859.out | refine below_set ?_ GE878.out | refine below_set ?_ GE884.out) | exact HB.out)) hb)
  clear HO864
  clear HO869
  clear HO875
  clear HO881
  clear BK858
  clear BK859
  clear BK878
  clear BK884
  clear HB
  have HO864 := n0_
  have HO869 := n1_
  have HO875 := n2_
  have HO881 := n3_
  have HO888 := n4_
  have BK858 := n5_
  have BK859 := n6_
  have BK878 := n7_
  have BK884 := n8_
  have HB := n9_
  clear n0_ n1_ n2_ n3_ n4_ n5_ n6_ n7_ n8_ n9_
  (try clear hb)
  (try clear hb2)
  (try clear hk)
  (try clear hi)
  (try clear ho0)
  obtain ⟨Ao170, co170, eo170⟩ := Kd.R_slice HO888.out
  (first | subst eo170 | (injection eo170 with f1_ f2_ f3_; have f4_ := f1_.symm; have f5_ := f3_.symm; clear f1_ f2_ f3_; subst f4_; subst f5_))
  refine hK.out _ _ ⟨(blk_cell BK878.out 0).trans rfl, (blk_cell BK878.out 1).trans rfl, (blk_cell BK878.out 2).trans rfl, (blk_cell BK858.out 0).trans rfl, (blk_cell BK858.out 1).trans rfl, (blk_cell BK858.out 2).trans rfl⟩ (fun hHeld => ?_)
  clear hK K
  refine norm_ (a' := ?_) ?_ ?_
  rotate_left
  ·show Act.put _ (some 37) _ = _
   simp only [Act.put, xA, xB, xC, i64_w, i32_w]
   rfl
  refine one_ (i := 3) (N := some 38) #[true, true, true, true, false] rfl rfl (by kernel_rfl) (by decide) (fun K hK => ?_)
  refine goes_ Try.func36 (by kernel_rfl) rfl #[.agg #[.slice Ao154 t873.length co154, .int .i64 t876, .bool t877], .agg #[.slice Ao170 t886.length co170, .int .i64 t889, .bool t890]] (by rfl) rfl rfl zm ?_
  with_reducible refine (laws_eqPiece.calls k _ _ t873 t876 t877 _ _ t886 t889 t890 false _ ?side1 ?side2 ?side3 ?side4 A57.out).mono ?_
  (case side1 => exact zc HO875.out)
  (case side2 => exact (Kd.R_reads' HO875.out).2.1)
  (case side3 => exact zc HO888.out)
  (case side4 => exact (Kd.R_reads' HO888.out).2.1)
  rintro e w171 ⟨rfl, hb⟩
  refine ⟨_, rfl, ?_⟩
  have n0_ := aM (Kd.R_below (mR_ HO864.out) hb)
  have n1_ := aM (Kd.R_below (mR_ HO869.out) hb)
  have n2_ := aM (Kd.R_below (mR_ HO875.out) hb)
  have n3_ := aM (Kd.R_below (mR_ HO881.out) hb)
  have n4_ := aM (Kd.R_below (mR_ HO888.out) hb)
  have n5_ := aM (blk_below (g := gb858) (o := .cells #[.slice A0_0 l0_0.length c0_0, .int .i64 a0_1, .bool a0_2] 47 (0, 0)) (mB_ BK858.out) hb)
  have n6_ := aM (blk_below (g := gb859) (o := .cells #[.slice A1_0 l1_0.length c1_0, .int .i64 a1_1, .bool a1_2] 47 (0, 0)) (mB_ BK859.out) hb)
  have n7_ := aM (blk_below (g := gb878) (o := .cells #[.slice Ao154 t873.length co154, .int .i64 t876, .bool t877] 51 (0, 0)) (mB_ BK878.out) hb)
  have n8_ := aM (blk_below (g := gb884) (o := .cells #[.slice Ao161 t879.length co161, .int .i64 t882, .bool t883] 51 (0, 0)) (mB_ BK884.out) hb)
  have n9_ := aM (below_step (by repeat (first | (with_reducible first | exact HB.out | apply below_alloc | apply pw_below_drewN | apply below_drew1 | refine below_set ?_ GE858.out | refine below_set ?_ GE859.out | refine below_set ?_ GE878.out | refine below_set ?_ GE884.out) | exact HB.out)) hb)
  clear HO864
  clear HO869
  clear HO875
  clear HO881
  clear HO888
  clear BK858
  clear BK859
  clear BK878
  clear BK884
  clear HB
  have HO864 := n0_
  have HO869 := n1_
  have HO875 := n2_
  have HO881 := n3_
  have HO888 := n4_
  have BK858 := n5_
  have BK859 := n6_
  have BK878 := n7_
  have BK884 := n8_
  have HB := n9_
  clear n0_ n1_ n2_ n3_ n4_ n5_ n6_ n7_ n8_ n9_
  (try clear hb)
  (try clear hb2)
  (try clear hk)
  (try clear hi)
  refine hK.out _ _ ⟨(blk_cell BK878.out 0).trans rfl, (blk_cell BK878.out 1).trans rfl, (blk_cell BK878.out 2).trans rfl, (blk_cell BK858.out 0).trans rfl, (blk_cell BK858.out 1).trans rfl, (blk_cell BK858.out 2).trans rfl⟩ (fun hHeld => ?_)
  clear hK K
  refine norm_ (a' := ?_) ?_ ?_
  rotate_left
  ·show Act.put _ (some 38) _ = _
   simp only [Act.put, xA, xB, xC, i64_w, i32_w]
   rfl
  refine pure_ (i := 4) (N := some 39) (v := ?_) (a' := ?_) #[true, true, true, true, true] rfl rfl (by kernel_rfl) (fun _ _ _ h => h) (Or.inl ⟨by rfl, ?_⟩) ?_ ?_
  rotate_left
  ·intro w'
   go_simp
   with_reducible rfl
  rotate_left
  ·simp only [Act.put, xA, xB, xC, i64_w, i32_w]
   rfl
  refine done_ (by kernel_rfl) ?_
  try go_wp2
  go_ret
  exact ⟨zw, by repeat (first | (with_reducible first | exact HB.out | apply below_alloc | apply pw_below_drewN | apply below_drew1 | refine below_set ?_ GE858.out | refine below_set ?_ GE859.out | refine below_set ?_ GE878.out | refine below_set ?_ GE884.out) | exact HB.out)⟩
 subst c58
 have H1 : ((laws_toPiece.f k l1_0 a1_1 a1_2).bind fun bt892 => ((laws_eqPiece.f k t879 t882 t883 bt892.1 bt892.2.1 bt892.2.2).bind fun t897 => (if t897 = true then (some true) else (some false)))) = some r := by rw [if_pos rfl] at H; exact H
 clear H
 have H := H1
 clear H1
 replace H := Option.bind_eq_some_iff.mp H
 obtain ⟨⟨t892, t895, t896⟩, A590, H⟩ := H
 replace H : ((laws_eqPiece.f k t879 t882 t883 t892 t895 t896).bind fun t897 => (if t897 = true then (some true) else (some false))) = some r := H
 have A59 := aM A590
 clear A590
 replace H := Option.bind_eq_some_iff.mp H
 obtain ⟨t897, A600, H⟩ := H
 replace H : (if t897 = true then (some true) else (some false)) = some r := H
 have A60 := aM A600
 clear A600
 by_cases c61 : t897 = true
 ·subst c61
  have H1 : (some true) = some r := by rw [if_pos rfl] at H; exact H
  clear H
  have H := H1
  clear H1
  obtain rfl := Option.some.inj H
  go_enter Try.func6, Try.ntmps6
  try go_wp2_with (first | ((with_reducible refine gate_dst (N := 2) rfl ?_); refine zx 2 #[.slice A0_0 l0_0.length c0_0, .int .i64 a0_1, .bool a0_2] 47 ?_; intro gb858 hg w62 hbox hb; have n0_ := aM (below_step zb hb); have n1_ := aM (hbox); have n2_ := aM ((ze : w.heap.size ≤ gb858)); have n3_ := aM ((ze : w.heap.size ≤ gb858)); clear HB; have HB := n0_; have BK858 := n1_; have GW858 := n2_; have GE858 := n3_; clear n0_ n1_ n2_ n3_; clear hb hbox hg) | ((with_reducible refine gate_dst (N := 3) rfl ?_); refine zx 3 #[.slice A1_0 l1_0.length c1_0, .int .i64 a1_1, .bool a1_2] 47 ?_; intro gb859 hg w63 hbox hb; have n0_ := aM (blk_below (g := gb858) (o := .cells #[.slice A0_0 l0_0.length c0_0, .int .i64 a0_1, .bool a0_2] 47 (0, 0)) (mB_ BK858.out) hb); have n1_ := aM (below_step (zs GE858.out) hb); have n2_ := aM (hbox); have n3_ := aM ((zf GE858.out : w.heap.size ≤ gb859)); have n4_ := aM ((zf GE858.out : w.heap.size ≤ gb859)); have n5_ := aM ((zl BK858.out : gb858 ≠ gb859)); have n6_ := aM ((zn BK858.out : gb859 ≠ gb858)); clear BK858 HB; have BK858 := n0_; have HB := n1_; have BK859 := n2_; have GW859 := n3_; have GE859 := n4_; have NB858_859 := n5_; have NB859_858 := n6_; clear n0_ n1_ n2_ n3_ n4_ n5_ n6_ hb hbox hg; have hnb64 := NB858_859.out; have hnc64 := NB859_858.out; have hcz65_0 : w63.cell? ⟨gb858, 0, none⟩ = some (.slice A0_0 l0_0.length c0_0) := (blk_cell BK858.out 0).trans rfl; have hcz65_1 : w63.cell? ⟨gb858, 1, none⟩ = some (.int .i64 a0_1) := (blk_cell BK858.out 1).trans rfl; have hcz65_2 : w63.cell? ⟨gb858, 2, none⟩ = some (.bool a0_2) := (blk_cell BK858.out 2).trans rfl; have hfz65_0 := blk_frozen BK858.out 0; have hfz65_1 := blk_frozen BK858.out 1; have hfz65_2 := blk_frozen BK858.out 2) | ((with_reducible refine gate_callee (f := 32) rfl ?_); refine goesL_ (some 12) rfl rfl Try.func32 (by kernel_rfl) rfl #[.agg #[.slice A0_0 l0_0.length c0_0, .int .i64 a0_1, .bool a0_2], .int .i64 1048576] rfl zm ?_; (with_reducible refine (laws_szPiece.calls _ _ l0_0 a0_1 a0_2 1048576 t860 _ ?side1 ?side2 A3.out).mono ?_); (case side1 => repeat (first | exact (Kd.C_below HR0_0.out HB.out) | (with_reducible refine Kd.C_alloc ?_ _) | (with_reducible refine Kd.C_drewN ?_ _) | (with_reducible refine Kd.C_drew ?_))); (case side2 => exact HC0_0.out); rintro e w66 ⟨rfl, hb⟩; refine ⟨_, rfl, ?_⟩; have n0_ := aM (blk_below (g := gb858) (o := .cells #[.slice A0_0 l0_0.length c0_0, .int .i64 a0_1, .bool a0_2] 47 (0, 0)) (mB_ BK858.out) hb); have n1_ := aM (blk_below (g := gb859) (o := .cells #[.slice A1_0 l1_0.length c1_0, .int .i64 a1_1, .bool a1_2] 47 (0, 0)) (mB_ BK859.out) hb); have n2_ := aM (below_step (zt GE858.out GE859.out) hb); clear BK858 BK859 HB; have BK858 := n0_; have BK859 := n1_; have HB := n2_; clear n0_ n1_ n2_; (try clear hb); (try clear hb2); (try clear hk); (try clear hi); have hcz67_0 : w66.cell? ⟨gb859, 0, none⟩ = some (.slice A1_0 l1_0.length c1_0) := (blk_cell BK859.out 0).trans rfl; have hcz67_1 : w66.cell? ⟨gb859, 1, none⟩ = some (.int .i64 a1_1) := (blk_cell BK859.out 1).trans rfl; have hcz67_2 : w66.cell? ⟨gb859, 2, none⟩ = some (.bool a1_2) := (blk_cell BK859.out 2).trans rfl; have hfz67_0 := blk_frozen BK859.out 0; have hfz67_1 := blk_frozen BK859.out 1; have hfz67_2 := blk_frozen BK859.out 2) | ((with_reducible refine gate_callee (f := 32) rfl ?_); refine goesL_ (some 17) rfl rfl Try.func32 (by kernel_rfl) rfl #[.agg #[.slice A1_0 l1_0.length c1_0, .int .i64 a1_1, .bool a1_2], .int .i64 t860] rfl zm ?_; (with_reducible refine (laws_szPiece.calls _ _ l1_0 a1_1 a1_2 t860 t861 _ ?side1 ?side2 A10.out).mono ?_); (case side1 => repeat (first | exact (Kd.C_below HR1_0.out HB.out) | (with_reducible refine Kd.C_alloc ?_ _) | (with_reducible refine Kd.C_drewN ?_ _) | (with_reducible refine Kd.C_drew ?_))); (case side2 => exact HC1_0.out); rintro e w68 ⟨rfl, hb⟩; refine ⟨_, rfl, ?_⟩; have n0_ := aM (blk_below (g := gb858) (o := .cells #[.slice A0_0 l0_0.length c0_0, .int .i64 a0_1, .bool a0_2] 47 (0, 0)) (mB_ BK858.out) hb); have n1_ := aM (blk_below (g := gb859) (o := .cells #[.slice A1_0 l1_0.length c1_0, .int .i64 a1_1, .bool a1_2] 47 (0, 0)) (mB_ BK859.out) hb); have n2_ := aM (below_step (zt GE858.out GE859.out) hb); clear BK858 BK859 HB; have BK858 := n0_; have BK859 := n1_; have HB := n2_; clear n0_ n1_ n2_; (try clear hb); (try clear hb2); (try clear hk); (try clear hi)))
  have n0_ := aM (blk_drew BK858.out)
  have n1_ := aM (blk_drew BK859.out)
  have n2_ := aM (below_drew1 HB.out)
  clear BK858
  clear BK859
  clear HB
  have BK858 := n0_
  have BK859 := n1_
  have HB := n2_
  clear n0_ n1_ n2_
  refine start_ (n := 6) (S := fun w' => w'.cell? ⟨gb858, 0, none⟩ = some (.slice A0_0 l0_0.length c0_0) ∧ w'.cell? ⟨gb858, 1, none⟩ = some (.int .i64 a0_1) ∧ w'.cell? ⟨gb858, 2, none⟩ = some (.bool a0_2) ∧ w'.cell? ⟨gb859, 0, none⟩ = some (.slice A1_0 l1_0.length c1_0) ∧ w'.cell? ⟨gb859, 1, none⟩ = some (.int .i64 a1_1) ∧ w'.cell? ⟨gb859, 2, none⟩ = some (.bool a1_2)) (ds := []) #[false, false, false, false, false, false] (by kernel_rfl) rfl rfl ⟨(blk_cell BK858.out 0).trans rfl, (blk_cell BK858.out 1).trans rfl, (blk_cell BK858.out 2).trans rfl, (blk_cell BK859.out 0).trans rfl, (blk_cell BK859.out 1).trans rfl, (blk_cell BK859.out 2).trans rfl⟩ (fun hHeld => ?_)
  generalize w68.drew = w69 at BK858 BK859 HB hHeld ⊢
  refine take_ (i := 0) (N := some 20) (v := ?_) (a' := ?_) #[true, false, false, false, false, false] rfl rfl (by kernel_rfl) (fun _ _ _ h => h) (Or.inl ⟨by rfl, ?_⟩) hHeld ?_ ?_
  rotate_left
  ·rintro w' ⟨s0, s1, s2, s3, s4, s5⟩
   go_simp
   with_reducible rfl
  rotate_left
  ·simp only [Act.put, xA, xB, xC, i64_w, i32_w]
   rfl
  refine take_ (i := 2) (N := some 22) (v := ?_) (a' := ?_) #[true, false, true, false, false, false] rfl rfl (by kernel_rfl) (fun _ _ _ h => h) (Or.inl ⟨by rfl, ?_⟩) hHeld ?_ ?_
  rotate_left
  ·rintro w' ⟨s0, s1, s2, s3, s4, s5⟩
   go_simp
   with_reducible rfl
  rotate_left
  ·simp only [Act.put, xA, xB, xC, i64_w, i32_w]
   rfl
  refine one_ (i := 1) (N := some 21) #[true, true, true, false, false, false] rfl rfl (by kernel_rfl) (by decide) (fun K hK => ?_)
  refine goes_ Try.func34 (by kernel_rfl) rfl #[.agg #[.slice A0_0 l0_0.length c0_0, .int .i64 a0_1, .bool a0_2]] (by rfl) rfl rfl zm ?_
  with_reducible refine (laws_toPiece.calls k _ _ l0_0 a0_1 a0_2 t862 t865 t866 _ ?side1 ?side2 A19.out).mono ?_
  (case side1 => repeat (first | exact (Kd.C_below HR0_0.out HB.out) | (with_reducible refine Kd.C_alloc ?_ _) | (with_reducible refine Kd.C_drewN ?_ _) | (with_reducible refine Kd.C_drew ?_)))
  (case side2 => exact HC0_0.out)
  rintro e w70 ⟨v863, rfl, ho0, hb⟩
  refine ⟨_, rfl, ?_⟩
  have n0_ := aM (Kd.R_lower ho0 (below_size (zt GE858.out GE859.out)))
  have n1_ := aM (blk_below (g := gb858) (o := .cells #[.slice A0_0 l0_0.length c0_0, .int .i64 a0_1, .bool a0_2] 47 (0, 0)) (mB_ BK858.out) hb)
  have n2_ := aM (blk_below (g := gb859) (o := .cells #[.slice A1_0 l1_0.length c1_0, .int .i64 a1_1, .bool a1_2] 47 (0, 0)) (mB_ BK859.out) hb)
  have n3_ := aM (below_step (zt GE858.out GE859.out) hb)
  clear BK858
  clear BK859
  clear HB
  have HO864 := n0_
  have BK858 := n1_
  have BK859 := n2_
  have HB := n3_
  clear n0_ n1_ n2_ n3_
  (try clear hb)
  (try clear hb2)
  (try clear hk)
  (try clear hi)
  (try clear ho0)
  refine hK.out _ _ ⟨(blk_cell BK858.out 0).trans rfl, (blk_cell BK858.out 1).trans rfl, (blk_cell BK858.out 2).trans rfl, (blk_cell BK859.out 0).trans rfl, (blk_cell BK859.out 1).trans rfl, (blk_cell BK859.out 2).trans rfl⟩ (fun hHeld => ?_)
  clear hK K
  refine norm_ (a' := ?_) ?_ ?_
  rotate_left
  ·show Act.put _ (some 21) _ = _
   simp only [Act.put, xA, xB, xC, i64_w, i32_w]
   rfl
  refine one_ (i := 3) (N := some 23) #[true, true, true, true, false, false] rfl rfl (by kernel_rfl) (by decide) (fun K hK => ?_)
  refine goes_ Try.func34 (by kernel_rfl) rfl #[.agg #[.slice A1_0 l1_0.length c1_0, .int .i64 a1_1, .bool a1_2]] (by rfl) rfl rfl zm ?_
  with_reducible refine (laws_toPiece.calls k _ _ l1_0 a1_1 a1_2 t867 t870 t871 _ ?side1 ?side2 A20.out).mono ?_
  (case side1 => repeat (first | exact (Kd.C_below HR1_0.out HB.out) | (with_reducible refine Kd.C_alloc ?_ _) | (with_reducible refine Kd.C_drewN ?_ _) | (with_reducible refine Kd.C_drew ?_)))
  (case side2 => exact HC1_0.out)
  rintro e w71 ⟨v868, rfl, ho0, hb⟩
  refine ⟨_, rfl, ?_⟩
  have n0_ := aM (Kd.R_elder' (mR_ HO864.out) (Kd.R_base ho0) hb)
  have n1_ := aM (Kd.R_lower (Kd.R_new' ho0 (Kd.R_lt (mR_ HO864.out))) (below_size (zt GE858.out GE859.out)))
  have n2_ := aM (blk_below (g := gb858) (o := .cells #[.slice A0_0 l0_0.length c0_0, .int .i64 a0_1, .bool a0_2] 47 (0, 0)) (mB_ BK858.out) hb)
  have n3_ := aM (blk_below (g := gb859) (o := .cells #[.slice A1_0 l1_0.length c1_0, .int .i64 a1_1, .bool a1_2] 47 (0, 0)) (mB_ BK859.out) hb)
  have n4_ := aM (below_step (zt GE858.out GE859.out) hb)
  clear HO864
  clear BK858
  clear BK859
  clear HB
  have HO864 := n0_
  have HO869 := n1_
  have BK858 := n2_
  have BK859 := n3_
  have HB := n4_
  clear n0_ n1_ n2_ n3_ n4_
  (try clear hb)
  (try clear hb2)
  (try clear hk)
  (try clear hi)
  (try clear ho0)
  obtain ⟨Ao72, co72, eo72⟩ := Kd.R_slice HO864.out
  (first | subst eo72 | (injection eo72 with f1_ f2_ f3_; have f4_ := f1_.symm; have f5_ := f3_.symm; clear f1_ f2_ f3_; subst f4_; subst f5_))
  obtain ⟨Ao73, co73, eo73⟩ := Kd.R_slice HO869.out
  (first | subst eo73 | (injection eo73 with f1_ f2_ f3_; have f4_ := f1_.symm; have f5_ := f3_.symm; clear f1_ f2_ f3_; subst f4_; subst f5_))
  refine hK.out _ _ ⟨(blk_cell BK858.out 0).trans rfl, (blk_cell BK858.out 1).trans rfl, (blk_cell BK858.out 2).trans rfl, (blk_cell BK859.out 0).trans rfl, (blk_cell BK859.out 1).trans rfl, (blk_cell BK859.out 2).trans rfl⟩ (fun hHeld => ?_)
  clear hK K
  refine norm_ (a' := ?_) ?_ ?_
  rotate_left
  ·show Act.put _ (some 23) _ = _
   simp only [Act.put, xA, xB, xC, i64_w, i32_w]
   rfl
  refine one_ (i := 4) (N := some 24) #[true, true, true, true, true, false] rfl rfl (by kernel_rfl) (by decide) (fun K hK => ?_)
  refine goes_ Try.func33 (by kernel_rfl) rfl #[.agg #[.slice Ao72 t862.length co72, .int .i64 t865, .bool t866], .agg #[.slice Ao73 t867.length co73, .int .i64 t870, .bool t871]] (by rfl) rfl rfl zm ?_
  with_reducible refine (spec_AreAlike.calls k _ _ t862 t865 t866 _ _ t867 t870 t871 t872 _ ?side1 ?side2 ?side3 ?side4 A21.out).mono ?_
  (case side1 => exact zc HO864.out)
  (case side2 => exact (Kd.R_reads' HO864.out).2.1)
  (case side3 => exact zc HO869.out)
  (case side4 => exact (Kd.R_reads' HO869.out).2.1)
  rintro e w74 ⟨rfl, hb⟩
  refine ⟨_, rfl, ?_⟩
  have n0_ := aM (Kd.R_below (mR_ HO864.out) hb)
  have n1_ := aM (Kd.R_below (mR_ HO869.out) hb)
  have n2_ := aM (blk_below (g := gb858) (o := .cells #[.slice A0_0 l0_0.length c0_0, .int .i64 a0_1, .bool a0_2] 47 (0, 0)) (mB_ BK858.out) hb)
  have n3_ := aM (blk_below (g := gb859) (o := .cells #[.slice A1_0 l1_0.length c1_0, .int .i64 a1_1, .bool a1_2] 47 (0, 0)) (mB_ BK859.out) hb)
  have n4_ := aM (below_step (zt GE858.out GE859.out) hb)
  clear HO864
  clear HO869
  clear BK858
  clear BK859
  clear HB
  have HO864 := n0_
  have HO869 := n1_
  have BK858 := n2_
  have BK859 := n3_
  have HB := n4_
  clear n0_ n1_ n2_ n3_ n4_
  (try clear hb)
  (try clear hb2)
  (try clear hk)
  (try clear hi)
  refine hK.out _ _ ⟨(blk_cell BK858.out 0).trans rfl, (blk_cell BK858.out 1).trans rfl, (blk_cell BK858.out 2).trans rfl, (blk_cell BK859.out 0).trans rfl, (blk_cell BK859.out 1).trans rfl, (blk_cell BK859.out 2).trans rfl⟩ (fun hHeld => ?_)
  clear hK K
  refine norm_ (a' := ?_) ?_ ?_
  rotate_left
  ·show Act.put _ (some 24) _ = _
   simp only [Act.put, xA, xB, xC, i64_w, i32_w]
   rfl
  refine pure_ (i := 5) (N := some 6) (v := ?_) (a' := ?_) #[true, true, true, true, true, true] rfl rfl (by kernel_rfl) (fun _ _ _ h => h) (Or.inl ⟨by rfl, ?_⟩) ?_ ?_
  rotate_left
  ·intro w'
   go_simp
   with_reducible rfl
  rotate_left
  ·simp only [Act.put, xA, xB, xC, i64_w, i32_w]
   rfl
  refine done_ (by kernel_rfl) ?_
  have hcz75_0 : w74.cell? ⟨gb858, 0, none⟩ = some (.slice A0_0 l0_0.length c0_0) := (blk_cell BK858.out 0).trans rfl
  have hcz75_1 : w74.cell? ⟨gb858, 1, none⟩ = some (.int .i64 a0_1) := (blk_cell BK858.out 1).trans rfl
  have hcz75_2 : w74.cell? ⟨gb858, 2, none⟩ = some (.bool a0_2) := (blk_cell BK858.out 2).trans rfl
  have hfz75_0 := blk_frozen BK858.out 0
  have hfz75_1 := blk_frozen BK858.out 1
  have hfz75_2 := blk_frozen BK858.out 2
  try go_wp2_with (first | ((with_reducible refine gate_callee (f := 34) rfl ?_); refine goesL_ (some 26) rfl rfl Try.func34 (by kernel_rfl) rfl #[.agg #[.slice A0_0 l0_0.length c0_0, .int .i64 a0_1, .bool a0_2]] rfl zm ?_; (with_reducible refine (laws_toPiece.calls k _ _ l0_0 a0_1 a0_2 t873 t876 t877 _ ?side1 ?side2 A22.out).mono ?_); (case side1 => repeat (first | exact (Kd.C_below HR0_0.out HB.out) | (with_reducible refine Kd.C_alloc ?_ _) | (with_reducible refine Kd.C_drewN ?_ _) | (with_reducible refine Kd.C_drew ?_))); (case side2 => exact HC0_0.out); rintro e w76 ⟨v874, rfl, ho0, hb⟩; refine ⟨_, rfl, ?_⟩; have n0_ := aM (Kd.R_elder' (mR_ HO864.out) (Kd.R_base ho0) hb); have n1_ := aM (Kd.R_elder' (mR_ HO869.out) (Kd.R_base ho0) hb); have n2_ := aM (Kd.R_lower (Kd.R_new' (Kd.R_new' ho0 (Kd.R_lt (mR_ HO864.out))) (Kd.R_lt (mR_ HO869.out))) (below_size (zt GE858.out GE859.out))); have n3_ := aM (blk_below (g := gb858) (o := .cells #[.slice A0_0 l0_0.length c0_0, .int .i64 a0_1, .bool a0_2] 47 (0, 0)) (mB_ BK858.out) hb); have n4_ := aM (blk_below (g := gb859) (o := .cells #[.slice A1_0 l1_0.length c1_0, .int .i64 a1_1, .bool a1_2] 47 (0, 0)) (mB_ BK859.out) hb); have n5_ := aM (below_step (zt GE858.out GE859.out) hb); clear HO864 HO869 BK858 BK859 HB; have HO864 := n0_; have HO869 := n1_; have HO875 := n2_; have BK858 := n3_; have BK859 := n4_; have HB := n5_; clear n0_ n1_ n2_ n3_ n4_ n5_; (try clear hb); (try clear hb2); (try clear hk); (try clear hi); (try clear ho0)) | ((with_reducible refine gate_dst (N := 7) rfl ?_); refine zx 7 #[.slice none 0 0, .int .i64 0, .bool false] 51 ?_; intro gb878 hg w77 hbox hb; have n0_ := aM (Kd.R_below (mR_ HO864.out) hb); have n1_ := aM (Kd.R_below (mR_ HO869.out) hb); have n2_ := aM (Kd.R_below (mR_ HO875.out) hb); have n3_ := aM (blk_below (g := gb858) (o := .cells #[.slice A0_0 l0_0.length c0_0, .int .i64 a0_1, .bool a0_2] 47 (0, 0)) (mB_ BK858.out) hb); have n4_ := aM (blk_below (g := gb859) (o := .cells #[.slice A1_0 l1_0.length c1_0, .int .i64 a1_1, .bool a1_2] 47 (0, 0)) (mB_ BK859.out) hb); have n5_ := aM (below_step (zt GE858.out GE859.out) hb); have n6_ := aM (hbox); have n7_ := aM ((by rw [hg]; exact (below_size (zt GE858.out GE859.out)) : w.heap.size ≤ gb878)); have n8_ := aM ((by rw [hg]; exact (below_size (zt GE858.out GE859.out)) : w.heap.size ≤ gb878)); have n9_ := aM ((zl BK858.out : gb858 ≠ gb878)); have n10_ := aM ((zn BK858.out : gb878 ≠ gb858)); have n11_ := aM ((zl BK859.out : gb859 ≠ gb878)); have n12_ := aM ((zn BK859.out : gb878 ≠ gb859)); clear HO864 HO869 HO875 BK858 BK859 HB; have HO864 := n0_; have HO869 := n1_; have HO875 := n2_; have BK858 := n3_; have BK859 := n4_; have HB := n5_; have BK878 := n6_; have GW878 := n7_; have GE878 := n8_; have NB858_878 := n9_; have NB878_858 := n10_; have NB859_878 := n11_; have NB878_859 := n12_; clear n0_ n1_ n2_ n3_ n4_ n5_ n6_ n7_ n8_ n9_ n10_ n11_ n12_ hb hbox hg; obtain ⟨Ao78, co78, eo78⟩ := Kd.R_slice HO875.out; subst eo78; have hnb79 := NB878_858.out; have hnc79 := NB858_878.out; have hnb80 := NB878_859.out; have hnc80 := NB859_878.out; have hcz81_0 : w77.cell? ⟨gb878, 0, none⟩ = some (.slice none 0 0) := (blk_cell BK878.out 0).trans rfl; have hcz81_1 : w77.cell? ⟨gb878, 1, none⟩ = some (.int .i64 0) := (blk_cell BK878.out 1).trans rfl; have hcz81_2 : w77.cell? ⟨gb878, 2, none⟩ = some (.bool false) := (blk_cell BK878.out 2).trans rfl; have hfz81_0 := blk_frozen BK878.out 0; have hfz81_1 := blk_frozen BK878.out 1; have hfz81_2 := blk_frozen BK878.out 2; have hcz82_0 : w77.cell? ⟨gb859, 0, none⟩ = some (.slice A1_0 l1_0.length c1_0) := (blk_cell BK859.out 0).trans rfl; have hcz82_1 : w77.cell? ⟨gb859, 1, none⟩ = some (.int .i64 a1_1) := (blk_cell BK859.out 1).trans rfl; have hcz82_2 : w77.cell? ⟨gb859, 2, none⟩ = some (.bool a1_2) := (blk_cell BK859.out 2).trans rfl; have hfz82_0 := blk_frozen BK859.out 0; have hfz82_1 := blk_frozen BK859.out 1; have hfz82_2 := blk_frozen BK859.out 2) | ((with_reducible refine gate_callee (f := 34) rfl ?_); refine goesL_ (some 28) rfl rfl Try.func34 (by kernel_rfl) rfl #[.agg #[.slice A1_0 l1_0.length c1_0, .int .i64 a1_1, .bool a1_2]] rfl zm ?_; (with_reducible refine (laws_toPiece.calls k _ _ l1_0 a1_1 a1_2 t879 t882 t883 _ ?side1 ?side2 A23.out).mono ?_); (case side1 => exact Kd.C_below HR1_0.out (by repeat (first | (with_reducible first | exact HB.out | apply below_alloc | apply pw_below_drewN | apply below_drew1 | refine below_set ?_ GE858.out | refine below_set ?_ GE859.out | refine below_set ?_ GE878.out) | exact HB.out))); (case side2 => exact HC1_0.out); rintro e w83 ⟨v880, rfl, ho0, hb⟩; refine ⟨_, rfl, ?_⟩; have n0_ := aM (Kd.R_elder' (by (with_reducible repeat (first | apply Kd.R_alloc | apply Kd.R_drewN | apply Kd.R_drew)); exact (Kd.R_mono (Kd.R_far (p := ⟨gb878, 2, none⟩) (Kd.R_far (p := ⟨gb878, 1, none⟩) (Kd.R_far (p := ⟨gb878, 0, none⟩) (Kd.R_types HO864.out BK878.out (by decide)) (fun _ hk => hk.2) (.slice Ao78 t873.length co78)) (fun _ hk => hk.2) (.int .i64 t876)) (fun _ hk => hk.2) (.bool t877)) (fun _ h_ => h_.1))) (Kd.R_base ho0) hb); have n1_ := aM (Kd.R_elder' (by (with_reducible repeat (first | apply Kd.R_alloc | apply Kd.R_drewN | apply Kd.R_drew)); exact (Kd.R_mono (Kd.R_far (p := ⟨gb878, 2, none⟩) (Kd.R_far (p := ⟨gb878, 1, none⟩) (Kd.R_far (p := ⟨gb878, 0, none⟩) (Kd.R_types HO869.out BK878.out (by decide)) (fun _ hk => hk.2) (.slice Ao78 t873.length co78)) (fun _ hk => hk.2) (.int .i64 t876)) (fun _ hk => hk.2) (.bool t877)) (fun _ h_ => h_.1))) (Kd.R_base ho0) hb); have n2_ := aM (Kd.R_elder' (by (with_reducible repeat (first | apply Kd.R_alloc | apply Kd.R_drewN | apply Kd.R_drew)); exact (Kd.R_mono (Kd.R_far (p := ⟨gb878, 2, none⟩) (Kd.R_far (p := ⟨gb878, 1, none⟩) (Kd.R_far (p := ⟨gb878, 0, none⟩) (Kd.R_types HO875.out BK878.out (by decide)) (fun _ hk => hk.2) (.slice Ao78 t873.length co78)) (fun _ hk => hk.2) (.int .i64 t876)) (fun _ hk => hk.2) (.bool t877)) (fun _ h_ => h_.1))) (Kd.R_base ho0) hb); have n3_ := aM (Kd.R_lower (Kd.R_new' (Kd.R_new' (Kd.R_new' ho0 (Kd.R_lt (by (with_reducible repeat (first | apply Kd.R_alloc | apply Kd.R_drewN | apply Kd.R_drew)); exact (Kd.R_mono (Kd.R_far (p := ⟨gb878, 2, none⟩) (Kd.R_far (p := ⟨gb878, 1, none⟩) (Kd.R_far (p := ⟨gb878, 0, none⟩) (Kd.R_types HO864.out BK878.out (by decide)) (fun _ hk => hk.2) (.slice Ao78 t873.length co78)) (fun _ hk => hk.2) (.int .i64 t876)) (fun _ hk => hk.2) (.bool t877)) (fun _ h_ => h_.1))))) (Kd.R_lt (by (with_reducible repeat (first | apply Kd.R_alloc | apply Kd.R_drewN | apply Kd.R_drew)); exact (Kd.R_mono (Kd.R_far (p := ⟨gb878, 2, none⟩) (Kd.R_far (p := ⟨gb878, 1, none⟩) (Kd.R_far (p := ⟨gb878, 0, none⟩) (Kd.R_types HO869.out BK878.out (by decide)) (fun _ hk => hk.2) (.slice Ao78 t873.length co78)) (fun _ hk => hk.2) (.int .i64 t876)) (fun _ hk => hk.2) (.bool t877)) (fun _ h_ => h_.1))))) (Kd.R_lt (by (with_reducible repeat (first | apply Kd.R_alloc | apply Kd.R_drewN | apply Kd.R_drew)); exact (Kd.R_mono (Kd.R_far (p := ⟨gb878, 2, none⟩) (Kd.R_far (p := ⟨gb878, 1, none⟩) (Kd.R_far (p := ⟨gb878, 0, none⟩) (Kd.R_types HO875.out BK878.out (by decide)) (fun _ hk => hk.2) (.slice Ao78 t873.length co78)) (fun _ hk => hk.2) (.int .i64 t876)) (fun _ hk => hk.2) (.bool t877)) (fun _ h_ => h_.1))))) (below_size (by repeat (first | (with_reducible first | exact HB.out | apply below_alloc | apply pw_below_drewN | apply below_drew1 | refine below_set ?_ GE858.out | refine below_set ?_ GE859.out | refine below_set ?_ GE878.out) | exact HB.out)))); have n4_ := aM (blk_below (g := gb858) (o := .cells #[.slice A0_0 l0_0.length c0_0, .int .i64 a0_1, .bool a0_2] 47 (0, 0)) (by (with_reducible repeat (first | refine blk_drewN ?_ _ | refine blk_drew ?_ | refine blk_alloc ?_ _)); refine blk_far ?_ NB858_878.out _; (with_reducible repeat (first | refine blk_drewN ?_ _ | refine blk_drew ?_ | refine blk_alloc ?_ _)); refine blk_far ?_ NB858_878.out _; (with_reducible repeat (first | refine blk_drewN ?_ _ | refine blk_drew ?_ | refine blk_alloc ?_ _)); refine blk_far ?_ NB858_878.out _; (with_reducible repeat (first | refine blk_drewN ?_ _ | refine blk_drew ?_ | refine blk_alloc ?_ _)); exact BK858.out) hb); have n5_ := aM (blk_below (g := gb859) (o := .cells #[.slice A1_0 l1_0.length c1_0, .int .i64 a1_1, .bool a1_2] 47 (0, 0)) (by (with_reducible repeat (first | refine blk_drewN ?_ _ | refine blk_drew ?_ | refine blk_alloc ?_ _)); refine blk_far ?_ NB859_878.out _; (with_reducible repeat (first | refine blk_drewN ?_ _ | refine blk_drew ?_ | refine blk_alloc ?_ _)); refine blk_far ?_ NB859_878.out _; (with_reducible repeat (first | refine blk_drewN ?_ _ | refine blk_drew ?_ | refine blk_alloc ?_ _)); refine blk_far ?_ NB859_878.out _; (with_reducible repeat (first | refine blk_drewN ?_ _ | refine blk_drew ?_ | refine blk_alloc ?_ _)); exact BK859.out) hb); have n6_ := aM (blk_below (g := gb878) (o := .cells #[.slice Ao78 t873.length co78, .int .i64 t876, .bool t877] 51 (0, 0)) (by (with_reducible repeat (first | refine blk_drewN ?_ _ | refine blk_drew ?_ | refine blk_alloc ?_ _)); refine blk_put (cs := #[.slice Ao78 t873.length co78, .int .i64 t876, .bool false]) ?_ 2 _ rfl; (with_reducible repeat (first | refine blk_drewN ?_ _ | refine blk_drew ?_ | refine blk_alloc ?_ _)); refine blk_put (cs := #[.slice Ao78 t873.length co78, .int .i64 0, .bool false]) ?_ 1 _ rfl; (with_reducible repeat (first | refine blk_drewN ?_ _ | refine blk_drew ?_ | refine blk_alloc ?_ _)); refine blk_put (cs := #[.slice none 0 0, .int .i64 0, .bool false]) ?_ 0 _ rfl; (with_reducible repeat (first | refine blk_drewN ?_ _ | refine blk_drew ?_ | refine blk_alloc ?_ _)); exact BK878.out) hb); have n7_ := aM (below_step (by repeat (first | (with_reducible first | exact HB.out | apply below_alloc | apply pw_below_drewN | apply below_drew1 | refine below_set ?_ GE858.out | refine below_set ?_ GE859.out | refine below_set ?_ GE878.out) | exact HB.out)) hb); clear HO864 HO869 HO875 BK858 BK859 BK878 HB; have HO864 := n0_; have HO869 := n1_; have HO875 := n2_; have HO881 := n3_; have BK858 := n4_; have BK859 := n5_; have BK878 := n6_; have HB := n7_; clear n0_ n1_ n2_ n3_ n4_ n5_ n6_ n7_; (try clear hb); (try clear hb2); (try clear hk); (try clear hi); (try clear ho0)) | ((with_reducible refine gate_dst (N := 8) rfl ?_); refine zx 8 #[.slice none 0 0, .int .i64 0, .bool false] 51 ?_; intro gb884 hg w84 hbox hb; have n0_ := aM (Kd.R_below (mR_ HO864.out) hb); have n1_ := aM (Kd.R_below (mR_ HO869.out) hb); have n2_ := aM (Kd.R_below (mR_ HO875.out) hb); have n3_ := aM (Kd.R_below (mR_ HO881.out) hb); have n4_ := aM (blk_below (g := gb858) (o := .cells #[.slice A0_0 l0_0.length c0_0, .int .i64 a0_1, .bool a0_2] 47 (0, 0)) (mB_ BK858.out) hb); have n5_ := aM (blk_below (g := gb859) (o := .cells #[.slice A1_0 l1_0.length c1_0, .int .i64 a1_1, .bool a1_2] 47 (0, 0)) (mB_ BK859.out) hb); have n6_ := aM (blk_below (g := gb878) (o := .cells #[.slice Ao78 t873.length co78, .int .i64 t876, .bool t877] 51 (0, 0)) (mB_ BK878.out) hb); have n7_ := aM (below_step (by repeat (first | (with_reducible first | exact HB.out | apply below_alloc | apply pw_below_drewN | apply below_drew1 | refine below_set ?_ GE858.out | refine below_set ?_ GE859.out | refine below_set ?_ GE878.out) | exact HB.out)) hb); have n8_ := aM (hbox); have n9_ := aM ((by rw [hg]; exact (below_size (by repeat (first | (with_reducible first | exact HB.out | apply below_alloc | apply pw_below_drewN | apply below_drew1 | refine below_set ?_ GE858.out | refine below_set ?_ GE859.out | refine below_set ?_ GE878.out) | exact HB.out))) : w.heap.size ≤ gb884)); have n10_ := aM ((by rw [hg]; exact (below_size (by repeat (first | (with_reducible first | exact HB.out | apply below_alloc | apply pw_below_drewN | apply below_drew1 | refine below_set ?_ GE858.out | refine below_set ?_ GE859.out | refine below_set ?_ GE878.out) | exact HB.out))) : w.heap.size ≤ gb884)); have n11_ := aM ((zl BK858.out : gb858 ≠ gb884)); have n12_ := aM ((zn BK858.out : gb884 ≠ gb858)); have n13_ := aM ((zl BK859.out : gb859 ≠ gb884)); have n14_ := aM ((zn BK859.out : gb884 ≠ gb859)); have n15_ := aM ((zl BK878.out : gb878 ≠ gb884)); have n16_ := aM ((zn BK878.out : gb884 ≠ gb878)); clear HO864 HO869 HO875 HO881 BK858 BK859 BK878 HB; have HO864 := n0_; have HO869 := n1_; have HO875 := n2_; have HO881 := n3_; have BK858 := n4_; have BK859 := n5_; have BK878 := n6_; have HB := n7_; have BK884 := n8_; have GW884 := n9_; have GE884 := n10_; have NB858_884 := n11_; have NB884_858 := n12_; have NB859_884 := n13_; have NB884_859 := n14_; have NB878_884 := n15_; have NB884_878 := n16_; clear n0_ n1_ n2_ n3_ n4_ n5_ n6_ n7_ n8_ n9_ n10_ n11_ n12_ n13_ n14_ n15_ n16_ hb hbox hg; obtain ⟨Ao85, co85, eo85⟩ := Kd.R_slice HO881.out; subst eo85; have hnb86 := NB884_858.out; have hnc86 := NB858_884.out; have hnb87 := NB884_859.out; have hnc87 := NB859_884.out; have hnb88 := NB884_878.out; have hnc88 := NB878_884.out; have hcz89_0 : w84.cell? ⟨gb884, 0, none⟩ = some (.slice none 0 0) := (blk_cell BK884.out 0).trans rfl; have hcz89_1 : w84.cell? ⟨gb884, 1, none⟩ = some (.int .i64 0) := (blk_cell BK884.out 1).trans rfl; have hcz89_2 : w84.cell? ⟨gb884, 2, none⟩ = some (.bool false) := (blk_cell BK884.out 2).trans rfl; have hfz89_0 := blk_frozen BK884.out 0; have hfz89_1 := blk_frozen BK884.out 1; have hfz89_2 := blk_frozen BK884.out 2; have hcz90_0 : w84.cell? ⟨gb878, 0, none⟩ = some (.slice Ao78 t873.length co78) := (blk_cell BK878.out 0).trans rfl; have hcz90_1 : w84.cell? ⟨gb878, 1, none⟩ = some (.int .i64 t876) := (blk_cell BK878.out 1).trans rfl; have hcz90_2 : w84.cell? ⟨gb878, 2, none⟩ = some (.bool t877) := (blk_cell BK878.out 2).trans rfl; have hfz90_0 := blk_frozen BK878.out 0; have hfz90_1 := blk_frozen BK878.out 1; have hfz90_2 := blk_frozen BK878.out 2) | ((with_reducible refine gate_callee (f := 35) rfl ?_); refine goesL_ (some 31) rfl rfl Try.func35 (by kernel_rfl) rfl #[.agg #[.slice Ao78 t873.length co78, .int .i64 t876, .bool t877], .agg #[.slice Ao85 t879.length co85, .int .i64 t882, .bool t883]] rfl zm ?_; (with_reducible refine (impl_AreAlike.calls k _ _ t873 t876 t877 _ _ t879 t882 t883 t885 _ ?side1 ?side2 ?side3 ?side4 A24.out).mono ?_); (case side1 => refine (Kd.R_reads' (e := 59) (base := w.heap.size) (ok := fun k_ => (((True ∧ some k_ ≠ (.slice Ao72 t862.length co72 : Value).ownBlock) ∧ some k_ ≠ (.slice Ao73 t867.length co73 : Value).ownBlock) ∧ some k_ ≠ (.slice Ao85 t879.length co85 : Value).ownBlock)) (n := t873.length) (c := co78) ?_).2.2; exact (by (with_reducible repeat (first | apply Kd.R_alloc | apply Kd.R_drewN | apply Kd.R_drew)); exact (Kd.R_mono (Kd.R_far (p := ⟨gb884, 2, none⟩) (Kd.R_far (p := ⟨gb884, 1, none⟩) (Kd.R_far (p := ⟨gb884, 0, none⟩) (Kd.R_types HO875.out BK884.out (by decide)) (fun _ hk => hk.2) (.slice Ao85 t879.length co85)) (fun _ hk => hk.2) (.int .i64 t882)) (fun _ hk => hk.2) (.bool t883)) (fun _ h_ => h_.1)))); (case side2 => exact (Kd.R_reads' HO875.out).2.1); (case side3 => refine (Kd.R_reads' (e := 59) (base := w.heap.size) (ok := fun k_ => (((True ∧ some k_ ≠ (.slice Ao72 t862.length co72 : Value).ownBlock) ∧ some k_ ≠ (.slice Ao73 t867.length co73 : Value).ownBlock) ∧ some k_ ≠ (.slice Ao78 t873.length co78 : Value).ownBlock)) (n := t879.length) (c := co85) ?_).2.2; exact (by (with_reducible repeat (first | apply Kd.R_alloc | apply Kd.R_drewN | apply Kd.R_drew)); exact (Kd.R_mono (Kd.R_far (p := ⟨gb884, 2, none⟩) (Kd.R_far (p := ⟨gb884, 1, none⟩) (Kd.R_far (p := ⟨gb884, 0, none⟩) (Kd.R_types HO881.out BK884.out (by decide)) (fun _ hk => hk.2) (.slice Ao85 t879.length co85)) (fun _ hk => hk.2) (.int .i64 t882)) (fun _ hk => hk.2) (.bool t883)) (fun _ h_ => h_.1)))); (case side4 => exact (Kd.R_reads' HO881.out).2.1); rintro e w91 ⟨rfl, hb⟩; refine ⟨_, rfl, ?_⟩; have n0_ := aM (Kd.R_below (by (with_reducible repeat (first | apply Kd.R_alloc | apply Kd.R_drewN | apply Kd.R_drew)); exact (Kd.R_mono (Kd.R_far (p := ⟨gb884, 2, none⟩) (Kd.R_far (p := ⟨gb884, 1, none⟩) (Kd.R_far (p := ⟨gb884, 0, none⟩) (Kd.R_types HO864.out BK884.out (by decide)) (fun _ hk => hk.2) (.slice Ao85 t879.length co85)) (fun _ hk => hk.2) (.int .i64 t882)) (fun _ hk => hk.2) (.bool t883)) (fun _ h_ => h_.1))) hb); have n1_ := aM (Kd.R_below (by (with_reducible repeat (first | apply Kd.R_alloc | apply Kd.R_drewN | apply Kd.R_drew)); exact (Kd.R_mono (Kd.R_far (p := ⟨gb884, 2, none⟩) (Kd.R_far (p := ⟨gb884, 1, none⟩) (Kd.R_far (p := ⟨gb884, 0, none⟩) (Kd.R_types HO869.out BK884.out (by decide)) (fun _ hk => hk.2) (.slice Ao85 t879.length co85)) (fun _ hk => hk.2) (.int .i64 t882)) (fun _ hk => hk.2) (.bool t883)) (fun _ h_ => h_.1))) hb); have n2_ := aM (Kd.R_below (by (with_reducible repeat (first | apply Kd.R_alloc | apply Kd.R_drewN | apply Kd.R_drew)); exact (Kd.R_mono (Kd.R_far (p := ⟨gb884, 2, none⟩) (Kd.R_far (p := ⟨gb884, 1, none⟩) (Kd.R_far (p := ⟨gb884, 0, none⟩) (Kd.R_types HO875.out BK884.out (by decide)) (fun _ hk => hk.2) (.slice Ao85 t879.length co85)) (fun _ hk => hk.2) (.int .i64 t882)) (fun _ hk => hk.2) (.bool t883)) (fun _ h_ => h_.1))) hb); have n3_ := aM (Kd.R_below (by (with_reducible repeat (first | apply Kd.R_alloc | apply Kd.R_drewN | apply Kd.R_drew)); exact (Kd.R_mono (Kd.R_far (p := ⟨gb884, 2, none⟩) (Kd.R_far (p := ⟨gb884, 1, none⟩) (Kd.R_far (p := ⟨gb884, 0, none⟩) (Kd.R_types HO881.out BK884.out (by decide)) (fun _ hk => hk.2) (.slice Ao85 t879.length co85)) (fun _ hk => hk.2) (.int .i64 t882)) (fun _ hk => hk.2) (.bool t883)) (fun _ h_ => h_.1))) hb); have n4_ := aM (blk_below (g := gb858) (o := .cells #[.slice A0_0 l0_0.length c0_0, .int .i64 a0_1, .bool a0_2] 47 (0, 0)) (by (with_reducible repeat (first | refine blk_drewN ?_ _ | refine blk_drew ?_ | refine blk_alloc ?_ _)); refine blk_far ?_ NB858_884.out _; (with_reducible repeat (first | refine blk_drewN ?_ _ | refine blk_drew ?_ | refine blk_alloc ?_ _)); refine blk_far ?_ NB858_884.out _; (with_reducible repeat (first | refine blk_drewN ?_ _ | refine blk_drew ?_ | refine blk_alloc ?_ _)); refine blk_far ?_ NB858_884.out _; (with_reducible repeat (first | refine blk_drewN ?_ _ | refine blk_drew ?_ | refine blk_alloc ?_ _)); exact BK858.out) hb); have n5_ := aM (blk_below (g := gb859) (o := .cells #[.slice A1_0 l1_0.length c1_0, .int .i64 a1_1, .bool a1_2] 47 (0, 0)) (by (with_reducible repeat (first | refine blk_drewN ?_ _ | refine blk_drew ?_ | refine blk_alloc ?_ _)); refine blk_far ?_ NB859_884.out _; (with_reducible repeat (first | refine blk_drewN ?_ _ | refine blk_drew ?_ | refine blk_alloc ?_ _)); refine blk_far ?_ NB859_884.out _; (with_reducible repeat (first | refine blk_drewN ?_ _ | refine blk_drew ?_ | refine blk_alloc ?_ _)); refine blk_far ?_ NB859_884.out _; (with_reducible repeat (first | refine blk_drewN ?_ _ | refine blk_drew ?_ | refine blk_alloc ?_ _)); exact BK859.out) hb); have n6_ := aM (blk_below (g := gb878) (o := .cells #[.slice Ao78 t873.length co78, .int .i64 t876, .bool t877] 51 (0, 0)) (by (with_reducible repeat (first | refine blk_drewN ?_ _ | refine blk_drew ?_ | refine blk_alloc ?_ _)); refine blk_far ?_ NB878_884.out _; (with_reducible repeat (first | refine blk_drewN ?_ _ | refine blk_drew ?_ | refine blk_alloc ?_ _)); refine blk_far ?_ NB878_884.out _; (with_reducible repeat (first | refine blk_drewN ?_ _ | refine blk_drew ?_ | refine blk_alloc ?_ _)); refine blk_far ?_ NB878_884.out _; (with_reducible repeat (first | refine blk_drewN ?_ _ | refine blk_drew ?_ | refine blk_alloc ?_ _)); exact BK878.out) hb); have n7_ := aM (blk_below (g := gb884) (o := .cells #[.slice Ao85 t879.length co85, .int .i64 t882, .bool t883] 51 (0, 0)) (by (with_reducible repeat (first | refine blk_drewN ?_ _ | refine blk_drew ?_ | refine blk_alloc ?_ _)); refine blk_put (cs := #[.slice Ao85 t879.length co85, .int .i64 t882, .bool false]) ?_ 2 _ rfl; (with_reducible repeat (first | refine blk_drewN ?_ _ | refine blk_drew ?_ | refine blk_alloc ?_ _)); refine blk_put (cs := #[.slice Ao85 t879.length co85, .int .i64 0, .bool false]) ?_ 1 _ rfl; (with_reducible repeat (first | refine blk_drewN ?_ _ | refine blk_drew ?_ | refine blk_alloc ?_ _)); refine blk_put (cs := #[.slice none 0 0, .int .i64 0, .bool false]) ?_ 0 _ rfl; (with_reducible repeat (first | refine blk_drewN ?_ _ | refine blk_drew ?_ | refine blk_alloc ?_ _)); exact BK884.out) hb); have n8_ := aM (below_step (by repeat (first | (with_reducible first | exact HB.out | apply below_alloc | apply pw_below_drewN | apply below_drew1 | refine below_set ?_ GE858.out | refine below_set ?_ GE859.out | refine below_set ?_ GE878.out | refine below_set ?_ GE884.out) | exact HB.out)) hb); clear HO864 HO869 HO875 HO881 BK858 BK859 BK878 BK884 HB; have HO864 := n0_; have HO869 := n1_; have HO875 := n2_; have HO881 := n3_; have BK858 := n4_; have BK859 := n5_; have BK878 := n6_; have BK884 := n7_; have HB := n8_; clear n0_ n1_ n2_ n3_ n4_ n5_ n6_ n7_ n8_; (try clear hb); (try clear hb2); (try clear hk); (try clear hi)))
  have n0_ := aM (Kd.R_drew HO864.out)
  have n1_ := aM (Kd.R_drew HO869.out)
  have n2_ := aM (Kd.R_drew HO875.out)
  have n3_ := aM (Kd.R_drew HO881.out)
  have n4_ := aM (blk_drew BK858.out)
  have n5_ := aM (blk_drew BK859.out)
  have n6_ := aM (blk_drew BK878.out)
  have n7_ := aM (blk_drew BK884.out)
  have n8_ := aM (below_drew1 HB.out)
  clear HO864
  clear HO869
  clear HO875
  clear HO881
  clear BK858
  clear BK859
  clear BK878
  clear BK884
  clear HB
  have HO864 := n0_
  have HO869 := n1_
  have HO875 := n2_
  have HO881 := n3_
  have BK858 := n4_
  have BK859 := n5_
  have BK878 := n6_
  have BK884 := n7_
  have HB := n8_
  clear n0_ n1_ n2_ n3_ n4_ n5_ n6_ n7_ n8_
  refine start_ (n := 5) (S := fun w' => w'.cell? ⟨gb878, 0, none⟩ = some (.slice Ao78 t873.length co78) ∧ w'.cell? ⟨gb878, 1, none⟩ = some (.int .i64 t876) ∧ w'.cell? ⟨gb878, 2, none⟩ = some (.bool t877) ∧ w'.cell? ⟨gb858, 0, none⟩ = some (.slice A0_0 l0_0.length c0_0) ∧ w'.cell? ⟨gb858, 1, none⟩ = some (.int .i64 a0_1) ∧ w'.cell? ⟨gb858, 2, none⟩ = some (.bool a0_2)) (ds := []) #[false, false, false, false, false] (by kernel_rfl) rfl rfl ⟨(blk_cell BK878.out 0).trans rfl, (blk_cell BK878.out 1).trans rfl, (blk_cell BK878.out 2).trans rfl, (blk_cell BK858.out 0).trans rfl, (blk_cell BK858.out 1).trans rfl, (blk_cell BK858.out 2).trans rfl⟩ (fun hHeld => ?_)
  generalize w91.drew = w92 at HO864 HO869 HO875 HO881 BK858 BK859 BK878 BK884 HB hHeld ⊢
  refine take_ (i := 0) (N := some 35) (v := ?_) (a' := ?_) #[true, false, false, false, false] rfl rfl (by kernel_rfl) (fun _ _ _ h => h) (Or.inl ⟨by rfl, ?_⟩) hHeld ?_ ?_
  rotate_left
  ·rintro w' ⟨s0, s1, s2, s3, s4, s5⟩
   go_simp
   with_reducible rfl
  rotate_left
  ·simp only [Act.put, xA, xB, xC, i64_w, i32_w]
   rfl
  refine take_ (i := 1) (N := some 36) (v := ?_) (a' := ?_) #[true, true, false, false, false] rfl rfl (by kernel_rfl) (fun _ _ _ h => h) (Or.inl ⟨by rfl, ?_⟩) hHeld ?_ ?_
  rotate_left
  ·rintro w' ⟨s0, s1, s2, s3, s4, s5⟩
   go_simp
   with_reducible rfl
  rotate_left
  ·simp only [Act.put, xA, xB, xC, i64_w, i32_w]
   rfl
  refine one_ (i := 2) (N := some 37) #[true, true, true, false, false] rfl rfl (by kernel_rfl) (by decide) (fun K hK => ?_)
  refine goes_ Try.func34 (by kernel_rfl) rfl #[.agg #[.slice A0_0 l0_0.length c0_0, .int .i64 a0_1, .bool a0_2]] (by rfl) rfl rfl zm ?_
  with_reducible refine (laws_toPiece.calls k _ _ l0_0 a0_1 a0_2 t886 t889 t890 _ ?side1 ?side2 A56.out).mono ?_
  (case side1 => repeat (first | exact (Kd.C_below HR0_0.out HB.out) | (with_reducible refine Kd.C_alloc ?_ _) | (with_reducible refine Kd.C_drewN ?_ _) | (with_reducible refine Kd.C_drew ?_)))
  (case side2 => exact HC0_0.out)
  rintro e w93 ⟨v887, rfl, ho0, hb⟩
  refine ⟨_, rfl, ?_⟩
  have n0_ := aM (Kd.R_elder' (mR_ HO864.out) (Kd.R_base ho0) hb)
  have n1_ := aM (Kd.R_elder' (mR_ HO869.out) (Kd.R_base ho0) hb)
  have n2_ := aM (Kd.R_elder' (mR_ HO875.out) (Kd.R_base ho0) hb)
  have n3_ := aM (Kd.R_elder' (mR_ HO881.out) (Kd.R_base ho0) hb)
  have n4_ := aM (Kd.R_lower (Kd.R_new' (Kd.R_new' (Kd.R_new' (Kd.R_new' ho0 (Kd.R_lt (mR_ HO864.out))) (Kd.R_lt (mR_ HO869.out))) (Kd.R_lt (mR_ HO875.out))) (Kd.R_lt (mR_ HO881.out))) (below_size (by repeat (first | (with_reducible first | exact HB.out | apply below_alloc | apply pw_below_drewN | apply below_drew1 | refine below_set ?_ GE858.out | refine below_set ?_ GE859.out | refine below_set ?_ GE878.out | refine below_set ?_ GE884.out) | exact HB.out))))
  have n5_ := aM (blk_below (g := gb858) (o := .cells #[.slice A0_0 l0_0.length c0_0, .int .i64 a0_1, .bool a0_2] 47 (0, 0)) (mB_ BK858.out) hb)
  have n6_ := aM (blk_below (g := gb859) (o := .cells #[.slice A1_0 l1_0.length c1_0, .int .i64 a1_1, .bool a1_2] 47 (0, 0)) (mB_ BK859.out) hb)
  have n7_ := aM (blk_below (g := gb878) (o := .cells #[.slice Ao78 t873.length co78, .int .i64 t876, .bool t877] 51 (0, 0)) (mB_ BK878.out) hb)
  have n8_ := aM (blk_below (g := gb884) (o := .cells #[.slice Ao85 t879.length co85, .int .i64 t882, .bool t883] 51 (0, 0)) (mB_ BK884.out) hb)
  have n9_ := aM (below_step (by repeat (first | (with_reducible first | exact HB.out | apply below_alloc | apply pw_below_drewN | apply below_drew1 | refine below_set ?_ GE858.out | refine below_set ?_ GE859.out | refine below_set ?_ GE878.out | refine below_set ?_ GE884.out) | exact HB.out)) hb)
  clear HO864
  clear HO869
  clear HO875
  clear HO881
  clear BK858
  clear BK859
  clear BK878
  clear BK884
  clear HB
  have HO864 := n0_
  have HO869 := n1_
  have HO875 := n2_
  have HO881 := n3_
  have HO888 := n4_
  have BK858 := n5_
  have BK859 := n6_
  have BK878 := n7_
  have BK884 := n8_
  have HB := n9_
  clear n0_ n1_ n2_ n3_ n4_ n5_ n6_ n7_ n8_ n9_
  (try clear hb)
  (try clear hb2)
  (try clear hk)
  (try clear hi)
  (try clear ho0)
  obtain ⟨Ao94, co94, eo94⟩ := Kd.R_slice HO888.out
  (first | subst eo94 | (injection eo94 with f1_ f2_ f3_; have f4_ := f1_.symm; have f5_ := f3_.symm; clear f1_ f2_ f3_; subst f4_; subst f5_))
  refine hK.out _ _ ⟨(blk_cell BK878.out 0).trans rfl, (blk_cell BK878.out 1).trans rfl, (blk_cell BK878.out 2).trans rfl, (blk_cell BK858.out 0).trans rfl, (blk_cell BK858.out 1).trans rfl, (blk_cell BK858.out 2).trans rfl⟩ (fun hHeld => ?_)
  clear hK K
  refine norm_ (a' := ?_) ?_ ?_
  rotate_left
  ·show Act.put _ (some 37) _ = _
   simp only [Act.put, xA, xB, xC, i64_w, i32_w]
   rfl
  refine one_ (i := 3) (N := some 38) #[true, true, true, true, false] rfl rfl (by kernel_rfl) (by decide) (fun K hK => ?_)
  refine goes_ Try.func36 (by kernel_rfl) rfl #[.agg #[.slice Ao78 t873.length co78, .int .i64 t876, .bool t877], .agg #[.slice Ao94 t886.length co94, .int .i64 t889, .bool t890]] (by rfl) rfl rfl zm ?_
  with_reducible refine (laws_eqPiece.calls k _ _ t873 t876 t877 _ _ t886 t889 t890 true _ ?side1 ?side2 ?side3 ?side4 A57.out).mono ?_
  (case side1 => exact zc HO875.out)
  (case side2 => exact (Kd.R_reads' HO875.out).2.1)
  (case side3 => exact zc HO888.out)
  (case side4 => exact (Kd.R_reads' HO888.out).2.1)
  rintro e w95 ⟨rfl, hb⟩
  refine ⟨_, rfl, ?_⟩
  have n0_ := aM (Kd.R_below (mR_ HO864.out) hb)
  have n1_ := aM (Kd.R_below (mR_ HO869.out) hb)
  have n2_ := aM (Kd.R_below (mR_ HO875.out) hb)
  have n3_ := aM (Kd.R_below (mR_ HO881.out) hb)
  have n4_ := aM (Kd.R_below (mR_ HO888.out) hb)
  have n5_ := aM (blk_below (g := gb858) (o := .cells #[.slice A0_0 l0_0.length c0_0, .int .i64 a0_1, .bool a0_2] 47 (0, 0)) (mB_ BK858.out) hb)
  have n6_ := aM (blk_below (g := gb859) (o := .cells #[.slice A1_0 l1_0.length c1_0, .int .i64 a1_1, .bool a1_2] 47 (0, 0)) (mB_ BK859.out) hb)
  have n7_ := aM (blk_below (g := gb878) (o := .cells #[.slice Ao78 t873.length co78, .int .i64 t876, .bool t877] 51 (0, 0)) (mB_ BK878.out) hb)
  have n8_ := aM (blk_below (g := gb884) (o := .cells #[.slice Ao85 t879.length co85, .int .i64 t882, .bool t883] 51 (0, 0)) (mB_ BK884.out) hb)
  have n9_ := aM (below_step (by repeat (first | (with_reducible first | exact HB.out | apply below_alloc | apply pw_below_drewN | apply below_drew1 | refine below_set ?_ GE858.out | refine below_set ?_ GE859.out | refine below_set ?_ GE878.out | refine below_set ?_ GE884.out) | exact HB.out)) hb)
  clear HO864
  clear HO869
  clear HO875
  clear HO881
  clear HO888
  clear BK858
  clear BK859
  clear BK878
  clear BK884
  clear HB
  have HO864 := n0_
  have HO869 := n1_
  have HO875 := n2_
  have HO881 := n3_
  have HO888 := n4_
  have BK858 := n5_
  have BK859 := n6_
  have BK878 := n7_
  have BK884 := n8_
  have HB := n9_
  clear n0_ n1_ n2_ n3_ n4_ n5_ n6_ n7_ n8_ n9_
  (try clear hb)
  (try clear hb2)
  (try clear hk)
  (try clear hi)
  refine hK.out _ _ ⟨(blk_cell BK878.out 0).trans rfl, (blk_cell BK878.out 1).trans rfl, (blk_cell BK878.out 2).trans rfl, (blk_cell BK858.out 0).trans rfl, (blk_cell BK858.out 1).trans rfl, (blk_cell BK858.out 2).trans rfl⟩ (fun hHeld => ?_)
  clear hK K
  refine norm_ (a' := ?_) ?_ ?_
  rotate_left
  ·show Act.put _ (some 38) _ = _
   simp only [Act.put, xA, xB, xC, i64_w, i32_w]
   rfl
  refine pure_ (i := 4) (N := some 39) (v := ?_) (a' := ?_) #[true, true, true, true, true] rfl rfl (by kernel_rfl) (fun _ _ _ h => h) (Or.inl ⟨by rfl, ?_⟩) ?_ ?_
  rotate_left
  ·intro w'
   go_simp
   with_reducible rfl
  rotate_left
  ·simp only [Act.put, xA, xB, xC, i64_w, i32_w]
   rfl
  refine done_ (by kernel_rfl) ?_
  try go_wp2
  have n0_ := aM (Kd.R_drew HO864.out)
  have n1_ := aM (Kd.R_drew HO869.out)
  have n2_ := aM (Kd.R_drew HO875.out)
  have n3_ := aM (Kd.R_drew HO881.out)
  have n4_ := aM (Kd.R_drew HO888.out)
  have n5_ := aM (blk_drew BK858.out)
  have n6_ := aM (blk_drew BK859.out)
  have n7_ := aM (blk_drew BK878.out)
  have n8_ := aM (blk_drew BK884.out)
  have n9_ := aM (below_drew1 HB.out)
  clear HO864
  clear HO869
  clear HO875
  clear HO881
  clear HO888
  clear BK858
  clear BK859
  clear BK878
  clear BK884
  clear HB
  have HO864 := n0_
  have HO869 := n1_
  have HO875 := n2_
  have HO881 := n3_
  have HO888 := n4_
  have BK858 := n5_
  have BK859 := n6_
  have BK878 := n7_
  have BK884 := n8_
  have HB := n9_
  clear n0_ n1_ n2_ n3_ n4_ n5_ n6_ n7_ n8_ n9_
  refine start_ (n := 5) (S := fun w' => w'.cell? ⟨gb884, 0, none⟩ = some (.slice Ao85 t879.length co85) ∧ w'.cell? ⟨gb884, 1, none⟩ = some (.int .i64 t882) ∧ w'.cell? ⟨gb884, 2, none⟩ = some (.bool t883) ∧ w'.cell? ⟨gb859, 0, none⟩ = some (.slice A1_0 l1_0.length c1_0) ∧ w'.cell? ⟨gb859, 1, none⟩ = some (.int .i64 a1_1) ∧ w'.cell? ⟨gb859, 2, none⟩ = some (.bool a1_2)) (ds := []) #[false, false, false, false, false] (by kernel_rfl) rfl rfl ⟨(blk_cell BK884.out 0).trans rfl, (blk_cell BK884.out 1).trans rfl, (blk_cell BK884.out 2).trans rfl, (blk_cell BK859.out 0).trans rfl, (blk_cell BK859.out 1).trans rfl, (blk_cell BK859.out 2).trans rfl⟩ (fun hHeld => ?_)
  generalize w95.drew = w96 at HO864 HO869 HO875 HO881 HO888 BK858 BK859 BK878 BK884 HB hHeld ⊢
  refine take_ (i := 0) (N := some 40) (v := ?_) (a' := ?_) #[true, false, false, false, false] rfl rfl (by kernel_rfl) (fun _ _ _ h => h) (Or.inl ⟨by rfl, ?_⟩) hHeld ?_ ?_
  rotate_left
  ·rintro w' ⟨s0, s1, s2, s3, s4, s5⟩
   go_simp
   with_reducible rfl
  rotate_left
  ·simp only [Act.put, xA, xB, xC, i64_w, i32_w]
   rfl
  refine take_ (i := 1) (N := some 41) (v := ?_) (a' := ?_) #[true, true, false, false, false] rfl rfl (by kernel_rfl) (fun _ _ _ h => h) (Or.inl ⟨by rfl, ?_⟩) hHeld ?_ ?_
  rotate_left
  ·rintro w' ⟨s0, s1, s2, s3, s4, s5⟩
   go_simp
   with_reducible rfl
  rotate_left
  ·simp only [Act.put, xA, xB, xC, i64_w, i32_w]
   rfl
  refine one_ (i := 2) (N := some 42) #[true, true, true, false, false] rfl rfl (by kernel_rfl) (by decide) (fun K hK => ?_)
  refine goes_ Try.func34 (by kernel_rfl) rfl #[.agg #[.slice A1_0 l1_0.length c1_0, .int .i64 a1_1, .bool a1_2]] (by rfl) rfl rfl zm ?_
  with_reducible refine (laws_toPiece.calls k _ _ l1_0 a1_1 a1_2 t892 t895 t896 _ ?side1 ?side2 A59.out).mono ?_
  (case side1 => repeat (first | exact (Kd.C_below HR1_0.out HB.out) | (with_reducible refine Kd.C_alloc ?_ _) | (with_reducible refine Kd.C_drewN ?_ _) | (with_reducible refine Kd.C_drew ?_)))
  (case side2 => exact HC1_0.out)
  rintro e w97 ⟨v893, rfl, ho0, hb⟩
  refine ⟨_, rfl, ?_⟩
  have n0_ := aM (Kd.R_elder' (mR_ HO864.out) (Kd.R_base ho0) hb)
  have n1_ := aM (Kd.R_elder' (mR_ HO869.out) (Kd.R_base ho0) hb)
  have n2_ := aM (Kd.R_elder' (mR_ HO875.out) (Kd.R_base ho0) hb)
  have n3_ := aM (Kd.R_elder' (mR_ HO881.out) (Kd.R_base ho0) hb)
  have n4_ := aM (Kd.R_elder' (mR_ HO888.out) (Kd.R_base ho0) hb)
  have n5_ := aM (Kd.R_lower (Kd.R_new' (Kd.R_new' (Kd.R_new' (Kd.R_new' (Kd.R_new' ho0 (Kd.R_lt (mR_ HO864.out))) (Kd.R_lt (mR_ HO869.out))) (Kd.R_lt (mR_ HO875.out))) (Kd.R_lt (mR_ HO881.out))) (Kd.R_lt (mR_ HO888.out))) (below_size (by repeat (first | (with_reducible first | exact HB.out | apply below_alloc | apply pw_below_drewN | apply below_drew1 | refine below_set ?_ GE858.out | refine below_set ?_ GE859.out | refine below_set ?_ GE878.out | refine below_set ?_ GE884.out) | exact HB.out))))
  have n6_ := aM (blk_below (g := gb858) (o := .cells #[.slice A0_0 l0_0.length c0_0, .int .i64 a0_1, .bool a0_2] 47 (0, 0)) (mB_ BK858.out) hb)
  have n7_ := aM (blk_below (g := gb859) (o := .cells #[.slice A1_0 l1_0.length c1_0, .int .i64 a1_1, .bool a1_2] 47 (0, 0)) (mB_ BK859.out) hb)
  have n8_ := aM (blk_below (g := gb878) (o := .cells #[.slice Ao78 t873.length co78, .int .i64 t876, .bool t877] 51 (0, 0)) (mB_ BK878.out) hb)
  have n9_ := aM (blk_below (g := gb884) (o := .cells #[.slice Ao85 t879.length co85, .int .i64 t882, .bool t883] 51 (0, 0)) (mB_ BK884.out) hb)
  have n10_ := aM (below_step (by repeat (first | (with_reducible first | exact HB.out | apply below_alloc | apply pw_below_drewN | apply below_drew1 | refine below_set ?_ GE858.out | refine below_set ?_ GE859.out | refine below_set ?_ GE878.out | refine below_set ?_ GE884.out) | exact HB.out)) hb)
  clear HO864
  clear HO869
  clear HO875
  clear HO881
  clear HO888
  clear BK858
  clear BK859
  clear BK878
  clear BK884
  clear HB
  have HO864 := n0_
  have HO869 := n1_
  have HO875 := n2_
  have HO881 := n3_
  have HO888 := n4_
  have HO894 := n5_
  have BK858 := n6_
  have BK859 := n7_
  have BK878 := n8_
  have BK884 := n9_
  have HB := n10_
  clear n0_ n1_ n2_ n3_ n4_ n5_ n6_ n7_ n8_ n9_ n10_
  (try clear hb)
  (try clear hb2)
  (try clear hk)
  (try clear hi)
  (try clear ho0)
  obtain ⟨Ao98, co98, eo98⟩ := Kd.R_slice HO894.out
  (first | subst eo98 | (injection eo98 with f1_ f2_ f3_; have f4_ := f1_.symm; have f5_ := f3_.symm; clear f1_ f2_ f3_; subst f4_; subst f5_))
  refine hK.out _ _ ⟨(blk_cell BK884.out 0).trans rfl, (blk_cell BK884.out 1).trans rfl, (blk_cell BK884.out 2).trans rfl, (blk_cell BK859.out 0).trans rfl, (blk_cell BK859.out 1).trans rfl, (blk_cell BK859.out 2).trans rfl⟩ (fun hHeld => ?_)
  clear hK K
  refine norm_ (a' := ?_) ?_ ?_
  rotate_left
  ·show Act.put _ (some 42) _ = _
   simp only [Act.put, xA, xB, xC, i64_w, i32_w]
   rfl
  refine one_ (i := 3) (N := some 43) #[true, true, true, true, false] rfl rfl (by kernel_rfl) (by decide) (fun K hK => ?_)
  refine goes_ Try.func36 (by kernel_rfl) rfl #[.agg #[.slice Ao85 t879.length co85, .int .i64 t882, .bool t883], .agg #[.slice Ao98 t892.length co98, .int .i64 t895, .bool t896]] (by rfl) rfl rfl zm ?_
  with_reducible refine (laws_eqPiece.calls k _ _ t879 t882 t883 _ _ t892 t895 t896 true _ ?side1 ?side2 ?side3 ?side4 A60.out).mono ?_
  (case side1 => exact zc HO881.out)
  (case side2 => exact (Kd.R_reads' HO881.out).2.1)
  (case side3 => exact zc HO894.out)
  (case side4 => exact (Kd.R_reads' HO894.out).2.1)
  rintro e w99 ⟨rfl, hb⟩
  refine ⟨_, rfl, ?_⟩
  have n0_ := aM (Kd.R_below (mR_ HO864.out) hb)
  have n1_ := aM (Kd.R_below (mR_ HO869.out) hb)
  have n2_ := aM (Kd.R_below (mR_ HO875.out) hb)
  have n3_ := aM (Kd.R_below (mR_ HO881.out) hb)
  have n4_ := aM (Kd.R_below (mR_ HO888.out) hb)
  have n5_ := aM (Kd.R_below (mR_ HO894.out) hb)
  have n6_ := aM (blk_below (g := gb858) (o := .cells #[.slice A0_0 l0_0.length c0_0, .int .i64 a0_1, .bool a0_2] 47 (0, 0)) (mB_ BK858.out) hb)
  have n7_ := aM (blk_below (g := gb859) (o := .cells #[.slice A1_0 l1_0.length c1_0, .int .i64 a1_1, .bool a1_2] 47 (0, 0)) (mB_ BK859.out) hb)
  have n8_ := aM (blk_below (g := gb878) (o := .cells #[.slice Ao78 t873.length co78, .int .i64 t876, .bool t877] 51 (0, 0)) (mB_ BK878.out) hb)
  have n9_ := aM (blk_below (g := gb884) (o := .cells #[.slice Ao85 t879.length co85, .int .i64 t882, .bool t883] 51 (0, 0)) (mB_ BK884.out) hb)
  have n10_ := aM (below_step (by repeat (first | (with_reducible first | exact HB.out | apply below_alloc | apply pw_below_drewN | apply below_drew1 | refine below_set ?_ GE858.out | refine below_set ?_ GE859.out | refine below_set ?_ GE878.out | refine below_set ?_ GE884.out) | exact HB.out)) hb)
  clear HO864
  clear HO869
  clear HO875
  clear HO881
  clear HO888
  clear HO894
  clear BK858
  clear BK859
  clear BK878
  clear BK884
  clear HB
  have HO864 := n0_
  have HO869 := n1_
  have HO875 := n2_
  have HO881 := n3_
  have HO888 := n4_
  have HO894 := n5_
  have BK858 := n6_
  have BK859 := n7_
  have BK878 := n8_
  have BK884 := n9_
  have HB := n10_
  clear n0_ n1_ n2_ n3_ n4_ n5_ n6_ n7_ n8_ n9_ n10_
  (try clear hb)
  (try clear hb2)
  (try clear hk)
  (try clear hi)
  refine hK.out _ _ ⟨(blk_cell BK884.out 0).trans rfl, (blk_cell BK884.out 1).trans rfl, (blk_cell BK884.out 2).trans rfl, (blk_cell BK859.out 0).trans rfl, (blk_cell BK859.out 1).trans rfl, (blk_cell BK859.out 2).trans rfl⟩ (fun hHeld => ?_)
  clear hK K
  refine norm_ (a' := ?_) ?_ ?_
  rotate_left
  ·show Act.put _ (some 43) _ = _
   simp only [Act.put, xA, xB, xC, i64_w, i32_w]
   rfl
  refine pure_ (i := 4) (N := some 44) (v := ?_) (a' := ?_) #[true, true, true, true, true] rfl rfl (by kernel_rfl) (fun _ _ _ h => h) (Or.inl ⟨by rfl, ?_⟩) ?_ ?_
  rotate_left
  ·intro w'
   go_simp
   with_reducible rfl
  rotate_left
  ·simp only [Act.put, xA, xB, xC, i64_w, i32_w]
   rfl
  refine done_ (by kernel_rfl) ?_
  try go_wp2
  go_ret
  exact ⟨zw, by repeat (first | (with_reducible first | exact HB.out | apply below_alloc | apply pw_below_drewN | apply below_drew1 | refine below_set ?_ GE858.out | refine below_set ?_ GE859.out | refine below_set ?_ GE878.out | refine below_set ?_ GE884.out) | exact HB.out)⟩
 replace c61 := Bool.eq_false_iff.mpr c61
 subst c61
 have H1 : (some false) = some r := by rw [if_neg (show ¬ (false = true) by decide)] at H; exact H
 clear H
 have H := H1
 clear H1
 obtain rfl := Option.some.inj H
 go_enter Try.func6, Try.ntmps6
 try go_wp2_with (first | ((with_reducible refine gate_dst (N := 2) rfl ?_); refine zx 2 #[.slice A0_0 l0_0.length c0_0, .int .i64 a0_1, .bool a0_2] 47 ?_; intro gb858 hg w100 hbox hb; have n0_ := aM (below_step zb hb); have n1_ := aM (hbox); have n2_ := aM ((ze : w.heap.size ≤ gb858)); have n3_ := aM ((ze : w.heap.size ≤ gb858)); clear HB; have HB := n0_; have BK858 := n1_; have GW858 := n2_; have GE858 := n3_; clear n0_ n1_ n2_ n3_; clear hb hbox hg) | ((with_reducible refine gate_dst (N := 3) rfl ?_); refine zx 3 #[.slice A1_0 l1_0.length c1_0, .int .i64 a1_1, .bool a1_2] 47 ?_; intro gb859 hg w101 hbox hb; have n0_ := aM (blk_below (g := gb858) (o := .cells #[.slice A0_0 l0_0.length c0_0, .int .i64 a0_1, .bool a0_2] 47 (0, 0)) (mB_ BK858.out) hb); have n1_ := aM (below_step (zs GE858.out) hb); have n2_ := aM (hbox); have n3_ := aM ((zf GE858.out : w.heap.size ≤ gb859)); have n4_ := aM ((zf GE858.out : w.heap.size ≤ gb859)); have n5_ := aM ((zl BK858.out : gb858 ≠ gb859)); have n6_ := aM ((zn BK858.out : gb859 ≠ gb858)); clear BK858 HB; have BK858 := n0_; have HB := n1_; have BK859 := n2_; have GW859 := n3_; have GE859 := n4_; have NB858_859 := n5_; have NB859_858 := n6_; clear n0_ n1_ n2_ n3_ n4_ n5_ n6_ hb hbox hg; have hnb102 := NB858_859.out; have hnc102 := NB859_858.out; have hcz103_0 : w101.cell? ⟨gb858, 0, none⟩ = some (.slice A0_0 l0_0.length c0_0) := (blk_cell BK858.out 0).trans rfl; have hcz103_1 : w101.cell? ⟨gb858, 1, none⟩ = some (.int .i64 a0_1) := (blk_cell BK858.out 1).trans rfl; have hcz103_2 : w101.cell? ⟨gb858, 2, none⟩ = some (.bool a0_2) := (blk_cell BK858.out 2).trans rfl; have hfz103_0 := blk_frozen BK858.out 0; have hfz103_1 := blk_frozen BK858.out 1; have hfz103_2 := blk_frozen BK858.out 2) | ((with_reducible refine gate_callee (f := 32) rfl ?_); refine goesL_ (some 12) rfl rfl Try.func32 (by kernel_rfl) rfl #[.agg #[.slice A0_0 l0_0.length c0_0, .int .i64 a0_1, .bool a0_2], .int .i64 1048576] rfl zm ?_; (with_reducible refine (laws_szPiece.calls _ _ l0_0 a0_1 a0_2 1048576 t860 _ ?side1 ?side2 A3.out).mono ?_); (case side1 => repeat (first | exact (Kd.C_below HR0_0.out HB.out) | (with_reducible refine Kd.C_alloc ?_ _) | (with_reducible refine Kd.C_drewN ?_ _) | (with_reducible refine Kd.C_drew ?_))); (case side2 => exact HC0_0.out); rintro e w104 ⟨rfl, hb⟩; refine ⟨_, rfl, ?_⟩; have n0_ := aM (blk_below (g := gb858) (o := .cells #[.slice A0_0 l0_0.length c0_0, .int .i64 a0_1, .bool a0_2] 47 (0, 0)) (mB_ BK858.out) hb); have n1_ := aM (blk_below (g := gb859) (o := .cells #[.slice A1_0 l1_0.length c1_0, .int .i64 a1_1, .bool a1_2] 47 (0, 0)) (mB_ BK859.out) hb); have n2_ := aM (below_step (zt GE858.out GE859.out) hb); clear BK858 BK859 HB; have BK858 := n0_; have BK859 := n1_; have HB := n2_; clear n0_ n1_ n2_; (try clear hb); (try clear hb2); (try clear hk); (try clear hi); have hcz105_0 : w104.cell? ⟨gb859, 0, none⟩ = some (.slice A1_0 l1_0.length c1_0) := (blk_cell BK859.out 0).trans rfl; have hcz105_1 : w104.cell? ⟨gb859, 1, none⟩ = some (.int .i64 a1_1) := (blk_cell BK859.out 1).trans rfl; have hcz105_2 : w104.cell? ⟨gb859, 2, none⟩ = some (.bool a1_2) := (blk_cell BK859.out 2).trans rfl; have hfz105_0 := blk_frozen BK859.out 0; have hfz105_1 := blk_frozen BK859.out 1; have hfz105_2 := blk_frozen BK859.out 2) | ((with_reducible refine gate_callee (f := 32) rfl ?_); refine goesL_ (some 17) rfl rfl Try.func32 (by kernel_rfl) rfl #[.agg #[.slice A1_0 l1_0.length c1_0, .int .i64 a1_1, .bool a1_2], .int .i64 t860] rfl zm ?_; (with_reducible refine (laws_szPiece.calls _ _ l1_0 a1_1 a1_2 t860 t861 _ ?side1 ?side2 A10.out).mono ?_); (case side1 => repeat (first | exact (Kd.C_below HR1_0.out HB.out) | (with_reducible refine Kd.C_alloc ?_ _) | (with_reducible refine Kd.C_drewN ?_ _) | (with_reducible refine Kd.C_drew ?_))); (case side2 => exact HC1_0.out); rintro e w106 ⟨rfl, hb⟩; refine ⟨_, rfl, ?_⟩; have n0_ := aM (blk_below (g := gb858) (o := .cells #[.slice A0_0 l0_0.length c0_0, .int .i64 a0_1, .bool a0_2] 47 (0, 0)) (mB_ BK858.out) hb); have n1_ := aM (blk_below (g := gb859) (o := .cells #[.slice A1_0 l1_0.length c1_0, .int .i64 a1_1, .bool a1_2] 47 (0, 0)) (mB_ BK859.out) hb); have n2_ := aM (below_step (zt GE858.out GE859.out) hb); clear BK858 BK859 HB; have BK858 := n0_; have BK859 := n1_; have HB := n2_; clear n0_ n1_ n2_; (try clear hb); (try clear hb2); (try clear hk); (try clear hi)))
 have n0_ := aM (blk_drew BK858.out)
 have n1_ := aM (blk_drew BK859.out)
 have n2_ := aM (below_drew1 HB.out)
 clear BK858
 clear BK859
 clear HB
 have BK858 := n0_
 have BK859 := n1_
 have HB := n2_
 clear n0_ n1_ n2_
 refine start_ (n := 6) (S := fun w' => w'.cell? ⟨gb858, 0, none⟩ = some (.slice A0_0 l0_0.length c0_0) ∧ w'.cell? ⟨gb858, 1, none⟩ = some (.int .i64 a0_1) ∧ w'.cell? ⟨gb858, 2, none⟩ = some (.bool a0_2) ∧ w'.cell? ⟨gb859, 0, none⟩ = some (.slice A1_0 l1_0.length c1_0) ∧ w'.cell? ⟨gb859, 1, none⟩ = some (.int .i64 a1_1) ∧ w'.cell? ⟨gb859, 2, none⟩ = some (.bool a1_2)) (ds := []) #[false, false, false, false, false, false] (by kernel_rfl) rfl rfl ⟨(blk_cell BK858.out 0).trans rfl, (blk_cell BK858.out 1).trans rfl, (blk_cell BK858.out 2).trans rfl, (blk_cell BK859.out 0).trans rfl, (blk_cell BK859.out 1).trans rfl, (blk_cell BK859.out 2).trans rfl⟩ (fun hHeld => ?_)
 generalize w106.drew = w107 at BK858 BK859 HB hHeld ⊢
 refine take_ (i := 0) (N := some 20) (v := ?_) (a' := ?_) #[true, false, false, false, false, false] rfl rfl (by kernel_rfl) (fun _ _ _ h => h) (Or.inl ⟨by rfl, ?_⟩) hHeld ?_ ?_
 rotate_left
 ·rintro w' ⟨s0, s1, s2, s3, s4, s5⟩
  go_simp
  with_reducible rfl
 rotate_left
 ·simp only [Act.put, xA, xB, xC, i64_w, i32_w]
  rfl
 refine take_ (i := 2) (N := some 22) (v := ?_) (a' := ?_) #[true, false, true, false, false, false] rfl rfl (by kernel_rfl) (fun _ _ _ h => h) (Or.inl ⟨by rfl, ?_⟩) hHeld ?_ ?_
 rotate_left
 ·rintro w' ⟨s0, s1, s2, s3, s4, s5⟩
  go_simp
  with_reducible rfl
 rotate_left
 ·simp only [Act.put, xA, xB, xC, i64_w, i32_w]
  rfl
 refine one_ (i := 1) (N := some 21) #[true, true, true, false, false, false] rfl rfl (by kernel_rfl) (by decide) (fun K hK => ?_)
 refine goes_ Try.func34 (by kernel_rfl) rfl #[.agg #[.slice A0_0 l0_0.length c0_0, .int .i64 a0_1, .bool a0_2]] (by rfl) rfl rfl zm ?_
 with_reducible refine (laws_toPiece.calls k _ _ l0_0 a0_1 a0_2 t862 t865 t866 _ ?side1 ?side2 A19.out).mono ?_
 (case side1 => repeat (first | exact (Kd.C_below HR0_0.out HB.out) | (with_reducible refine Kd.C_alloc ?_ _) | (with_reducible refine Kd.C_drewN ?_ _) | (with_reducible refine Kd.C_drew ?_)))
 (case side2 => exact HC0_0.out)
 rintro e w108 ⟨v863, rfl, ho0, hb⟩
 refine ⟨_, rfl, ?_⟩
 have n0_ := aM (Kd.R_lower ho0 (below_size (zt GE858.out GE859.out)))
 have n1_ := aM (blk_below (g := gb858) (o := .cells #[.slice A0_0 l0_0.length c0_0, .int .i64 a0_1, .bool a0_2] 47 (0, 0)) (mB_ BK858.out) hb)
 have n2_ := aM (blk_below (g := gb859) (o := .cells #[.slice A1_0 l1_0.length c1_0, .int .i64 a1_1, .bool a1_2] 47 (0, 0)) (mB_ BK859.out) hb)
 have n3_ := aM (below_step (zt GE858.out GE859.out) hb)
 clear BK858
 clear BK859
 clear HB
 have HO864 := n0_
 have BK858 := n1_
 have BK859 := n2_
 have HB := n3_
 clear n0_ n1_ n2_ n3_
 (try clear hb)
 (try clear hb2)
 (try clear hk)
 (try clear hi)
 (try clear ho0)
 refine hK.out _ _ ⟨(blk_cell BK858.out 0).trans rfl, (blk_cell BK858.out 1).trans rfl, (blk_cell BK858.out 2).trans rfl, (blk_cell BK859.out 0).trans rfl, (blk_cell BK859.out 1).trans rfl, (blk_cell BK859.out 2).trans rfl⟩ (fun hHeld => ?_)
 clear hK K
 refine norm_ (a' := ?_) ?_ ?_
 rotate_left
 ·show Act.put _ (some 21) _ = _
  simp only [Act.put, xA, xB, xC, i64_w, i32_w]
  rfl
 refine one_ (i := 3) (N := some 23) #[true, true, true, true, false, false] rfl rfl (by kernel_rfl) (by decide) (fun K hK => ?_)
 refine goes_ Try.func34 (by kernel_rfl) rfl #[.agg #[.slice A1_0 l1_0.length c1_0, .int .i64 a1_1, .bool a1_2]] (by rfl) rfl rfl zm ?_
 with_reducible refine (laws_toPiece.calls k _ _ l1_0 a1_1 a1_2 t867 t870 t871 _ ?side1 ?side2 A20.out).mono ?_
 (case side1 => repeat (first | exact (Kd.C_below HR1_0.out HB.out) | (with_reducible refine Kd.C_alloc ?_ _) | (with_reducible refine Kd.C_drewN ?_ _) | (with_reducible refine Kd.C_drew ?_)))
 (case side2 => exact HC1_0.out)
 rintro e w109 ⟨v868, rfl, ho0, hb⟩
 refine ⟨_, rfl, ?_⟩
 have n0_ := aM (Kd.R_elder' (mR_ HO864.out) (Kd.R_base ho0) hb)
 have n1_ := aM (Kd.R_lower (Kd.R_new' ho0 (Kd.R_lt (mR_ HO864.out))) (below_size (zt GE858.out GE859.out)))
 have n2_ := aM (blk_below (g := gb858) (o := .cells #[.slice A0_0 l0_0.length c0_0, .int .i64 a0_1, .bool a0_2] 47 (0, 0)) (mB_ BK858.out) hb)
 have n3_ := aM (blk_below (g := gb859) (o := .cells #[.slice A1_0 l1_0.length c1_0, .int .i64 a1_1, .bool a1_2] 47 (0, 0)) (mB_ BK859.out) hb)
 have n4_ := aM (below_step (zt GE858.out GE859.out) hb)
 clear HO864
 clear BK858
 clear BK859
 clear HB
 have HO864 := n0_
 have HO869 := n1_
 have BK858 := n2_
 have BK859 := n3_
 have HB := n4_
 clear n0_ n1_ n2_ n3_ n4_
 (try clear hb)
 (try clear hb2)
 (try clear hk)
 (try clear hi)
 (try clear ho0)
 obtain ⟨Ao110, co110, eo110⟩ := Kd.R_slice HO864.out
 (first | subst eo110 | (injection eo110 with f1_ f2_ f3_; have f4_ := f1_.symm; have f5_ := f3_.symm; clear f1_ f2_ f3_; subst f4_; subst f5_))
 obtain ⟨Ao111, co111, eo111⟩ := Kd.R_slice HO869.out
 (first | subst eo111 | (injection eo111 with f1_ f2_ f3_; have f4_ := f1_.symm; have f5_ := f3_.symm; clear f1_ f2_ f3_; subst f4_; subst f5_))
 refine hK.out _ _ ⟨(blk_cell BK858.out 0).trans rfl, (blk_cell BK858.out 1).trans rfl, (blk_cell BK858.out 2).trans rfl, (blk_cell BK859.out 0).trans rfl, (blk_cell BK859.out 1).trans rfl, (blk_cell BK859.out 2).trans rfl⟩ (fun hHeld => ?_)
 clear hK K
 refine norm_ (a' := ?_) ?_ ?_
 rotate_left
 ·show Act.put _ (some 23) _ = _
  simp only [Act.put, xA, xB, xC, i64_w, i32_w]
  rfl
 refine one_ (i := 4) (N := some 24) #[true, true, true, true, true, false] rfl rfl (by kernel_rfl) (by decide) (fun K hK => ?_)
 refine goes_ Try.func33 (by kernel_rfl) rfl #[.agg #[.slice Ao110 t862.length co110, .int .i64 t865, .bool t866], .agg #[.slice Ao111 t867.length co111, .int .i64 t870, .bool t871]] (by rfl) rfl rfl zm ?_
 with_reducible refine (spec_AreAlike.calls k _ _ t862 t865 t866 _ _ t867 t870 t871 t872 _ ?side1 ?side2 ?side3 ?side4 A21.out).mono ?_
 (case side1 => exact zc HO864.out)
 (case side2 => exact (Kd.R_reads' HO864.out).2.1)
 (case side3 => exact zc HO869.out)
 (case side4 => exact (Kd.R_reads' HO869.out).2.1)
 rintro e w112 ⟨rfl, hb⟩
 refine ⟨_, rfl, ?_⟩
 have n0_ := aM (Kd.R_below (mR_ HO864.out) hb)
 have n1_ := aM (Kd.R_below (mR_ HO869.out) hb)
 have n2_ := aM (blk_below (g := gb858) (o := .cells #[.slice A0_0 l0_0.length c0_0, .int .i64 a0_1, .bool a0_2] 47 (0, 0)) (mB_ BK858.out) hb)
 have n3_ := aM (blk_below (g := gb859) (o := .cells #[.slice A1_0 l1_0.length c1_0, .int .i64 a1_1, .bool a1_2] 47 (0, 0)) (mB_ BK859.out) hb)
 have n4_ := aM (below_step (zt GE858.out GE859.out) hb)
 clear HO864
 clear HO869
 clear BK858
 clear BK859
 clear HB
 have HO864 := n0_
 have HO869 := n1_
 have BK858 := n2_
 have BK859 := n3_
 have HB := n4_
 clear n0_ n1_ n2_ n3_ n4_
 (try clear hb)
 (try clear hb2)
 (try clear hk)
 (try clear hi)
 refine hK.out _ _ ⟨(blk_cell BK858.out 0).trans rfl, (blk_cell BK858.out 1).trans rfl, (blk_cell BK858.out 2).trans rfl, (blk_cell BK859.out 0).trans rfl, (blk_cell BK859.out 1).trans rfl, (blk_cell BK859.out 2).trans rfl⟩ (fun hHeld => ?_)
 clear hK K
 refine norm_ (a' := ?_) ?_ ?_
 rotate_left
 ·show Act.put _ (some 24) _ = _
  simp only [Act.put, xA, xB, xC, i64_w, i32_w]
  rfl
 refine pure_ (i := 5) (N := some 6) (v := ?_) (a' := ?_) #[true, true, true, true, true, true] rfl rfl (by kernel_rfl) (fun _ _ _ h => h) (Or.inl ⟨by rfl, ?_⟩) ?_ ?_
 rotate_left
 ·intro w'
  go_simp
  with_reducible rfl
 rotate_left
 ·simp only [Act.put, xA, xB, xC, i64_w, i32_w]
  rfl
 refine done_ (by kernel_rfl) ?_
 have hcz113_0 : w112.cell? ⟨gb858, 0, none⟩ = some (.slice A0_0 l0_0.length c0_0) := (blk_cell BK858.out 0).trans rfl
 have hcz113_1 : w112.cell? ⟨gb858, 1, none⟩ = some (.int .i64 a0_1) := (blk_cell BK858.out 1).trans rfl
 have hcz113_2 : w112.cell? ⟨gb858, 2, none⟩ = some (.bool a0_2) := (blk_cell BK858.out 2).trans rfl
 have hfz113_0 := blk_frozen BK858.out 0
 have hfz113_1 := blk_frozen BK858.out 1
 have hfz113_2 := blk_frozen BK858.out 2
 try go_wp2_with (first | ((with_reducible refine gate_callee (f := 34) rfl ?_); refine goesL_ (some 26) rfl rfl Try.func34 (by kernel_rfl) rfl #[.agg #[.slice A0_0 l0_0.length c0_0, .int .i64 a0_1, .bool a0_2]] rfl zm ?_; (with_reducible refine (laws_toPiece.calls k _ _ l0_0 a0_1 a0_2 t873 t876 t877 _ ?side1 ?side2 A22.out).mono ?_); (case side1 => repeat (first | exact (Kd.C_below HR0_0.out HB.out) | (with_reducible refine Kd.C_alloc ?_ _) | (with_reducible refine Kd.C_drewN ?_ _) | (with_reducible refine Kd.C_drew ?_))); (case side2 => exact HC0_0.out); rintro e w114 ⟨v874, rfl, ho0, hb⟩; refine ⟨_, rfl, ?_⟩; have n0_ := aM (Kd.R_elder' (mR_ HO864.out) (Kd.R_base ho0) hb); have n1_ := aM (Kd.R_elder' (mR_ HO869.out) (Kd.R_base ho0) hb); have n2_ := aM (Kd.R_lower (Kd.R_new' (Kd.R_new' ho0 (Kd.R_lt (mR_ HO864.out))) (Kd.R_lt (mR_ HO869.out))) (below_size (zt GE858.out GE859.out))); have n3_ := aM (blk_below (g := gb858) (o := .cells #[.slice A0_0 l0_0.length c0_0, .int .i64 a0_1, .bool a0_2] 47 (0, 0)) (mB_ BK858.out) hb); have n4_ := aM (blk_below (g := gb859) (o := .cells #[.slice A1_0 l1_0.length c1_0, .int .i64 a1_1, .bool a1_2] 47 (0, 0)) (mB_ BK859.out) hb); have n5_ := aM (below_step (zt GE858.out GE859.out) hb); clear HO864 HO869 BK858 BK859 HB; have HO864 := n0_; have HO869 := n1_; have HO875 := n2_; have BK858 := n3_; have BK859 := n4_; have HB := n5_; clear n0_ n1_ n2_ n3_ n4_ n5_; (try clear hb); (try clear hb2); (try clear hk); (try clear hi); (try clear ho0)) | ((with_reducible refine gate_dst (N := 7) rfl ?_); refine zx 7 #[.slice none 0 0, .int .i64 0, .bool false] 51 ?_; intro gb878 hg w115 hbox hb; have n0_ := aM (Kd.R_below (mR_ HO864.out) hb); have n1_ := aM (Kd.R_below (mR_ HO869.out) hb); have n2_ := aM (Kd.R_below (mR_ HO875.out) hb); have n3_ := aM (blk_below (g := gb858) (o := .cells #[.slice A0_0 l0_0.length c0_0, .int .i64 a0_1, .bool a0_2] 47 (0, 0)) (mB_ BK858.out) hb); have n4_ := aM (blk_below (g := gb859) (o := .cells #[.slice A1_0 l1_0.length c1_0, .int .i64 a1_1, .bool a1_2] 47 (0, 0)) (mB_ BK859.out) hb); have n5_ := aM (below_step (zt GE858.out GE859.out) hb); have n6_ := aM (hbox); have n7_ := aM ((by rw [hg]; exact (below_size (zt GE858.out GE859.out)) : w.heap.size ≤ gb878)); have n8_ := aM ((by rw [hg]; exact (below_size (zt GE858.out GE859.out)) : w.heap.size ≤ gb878)); have n9_ := aM ((zl BK858.out : gb858 ≠ gb878)); have n10_ := aM ((zn BK858.out : gb878 ≠ gb858)); have n11_ := aM ((zl BK859.out : gb859 ≠ gb878)); have n12_ := aM ((zn BK859.out : gb878 ≠ gb859)); clear HO864 HO869 HO875 BK858 BK859 HB; have HO864 := n0_; have HO869 := n1_; have HO875 := n2_; have BK858 := n3_; have BK859 := n4_; have HB := n5_; have BK878 := n6_; have GW878 := n7_; have GE878 := n8_; have NB858_878 := n9_; have NB878_858 := n10_; have NB859_878 := n11_; have NB878_859 := n12_; clear n0_ n1_ n2_ n3_ n4_ n5_ n6_ n7_ n8_ n9_ n10_ n11_ n12_ hb hbox hg; obtain ⟨Ao116, co116, eo116⟩ := Kd.R_slice HO875.out; subst eo116; have hnb117 := NB878_858.out; have hnc117 := NB858_878.out; have hnb118 := NB878_859.out; have hnc118 := NB859_878.out; have hcz119_0 : w115.cell? ⟨gb878, 0, none⟩ = some (.slice none 0 0) := (blk_cell BK878.out 0).trans rfl; have hcz119_1 : w115.cell? ⟨gb878, 1, none⟩ = some (.int .i64 0) := (blk_cell BK878.out 1).trans rfl; have hcz119_2 : w115.cell? ⟨gb878, 2, none⟩ = some (.bool false) := (blk_cell BK878.out 2).trans rfl; have hfz119_0 := blk_frozen BK878.out 0; have hfz119_1 := blk_frozen BK878.out 1; have hfz119_2 := blk_frozen BK878.out 2; have hcz120_0 : w115.cell? ⟨gb859, 0, none⟩ = some (.slice A1_0 l1_0.length c1_0) := (blk_cell BK859.out 0).trans rfl; have hcz120_1 : w115.cell? ⟨gb859, 1, none⟩ = some (.int .i64 a1_1) := (blk_cell BK859.out 1).trans rfl; have hcz120_2 : w115.cell? ⟨gb859, 2, none⟩ = some (.bool a1_2) := (blk_cell BK859.out 2).trans rfl; have hfz120_0 := blk_frozen BK859.out 0; have hfz120_1 := blk_frozen BK859.out 1; have hfz120_2 := blk_frozen BK859.out 2) | ((with_reducible refine gate_callee (f := 34) rfl ?_); refine goesL_ (some 28) rfl rfl Try.func34 (by kernel_rfl) rfl #[.agg #[.slice A1_0 l1_0.length c1_0, .int .i64 a1_1, .bool a1_2]] rfl zm ?_; (with_reducible refine (laws_toPiece.calls k _ _ l1_0 a1_1 a1_2 t879 t882 t883 _ ?side1 ?side2 A23.out).mono ?_); (case side1 => exact Kd.C_below HR1_0.out (by repeat (first | (with_reducible first | exact HB.out | apply below_alloc | apply pw_below_drewN | apply below_drew1 | refine below_set ?_ GE858.out | refine below_set ?_ GE859.out | refine below_set ?_ GE878.out) | exact HB.out))); (case side2 => exact HC1_0.out); rintro e w121 ⟨v880, rfl, ho0, hb⟩; refine ⟨_, rfl, ?_⟩; have n0_ := aM (Kd.R_elder' (by (with_reducible repeat (first | apply Kd.R_alloc | apply Kd.R_drewN | apply Kd.R_drew)); exact (Kd.R_mono (Kd.R_far (p := ⟨gb878, 2, none⟩) (Kd.R_far (p := ⟨gb878, 1, none⟩) (Kd.R_far (p := ⟨gb878, 0, none⟩) (Kd.R_types HO864.out BK878.out (by decide)) (fun _ hk => hk.2) (.slice Ao116 t873.length co116)) (fun _ hk => hk.2) (.int .i64 t876)) (fun _ hk => hk.2) (.bool t877)) (fun _ h_ => h_.1))) (Kd.R_base ho0) hb); have n1_ := aM (Kd.R_elder' (by (with_reducible repeat (first | apply Kd.R_alloc | apply Kd.R_drewN | apply Kd.R_drew)); exact (Kd.R_mono (Kd.R_far (p := ⟨gb878, 2, none⟩) (Kd.R_far (p := ⟨gb878, 1, none⟩) (Kd.R_far (p := ⟨gb878, 0, none⟩) (Kd.R_types HO869.out BK878.out (by decide)) (fun _ hk => hk.2) (.slice Ao116 t873.length co116)) (fun _ hk => hk.2) (.int .i64 t876)) (fun _ hk => hk.2) (.bool t877)) (fun _ h_ => h_.1))) (Kd.R_base ho0) hb); have n2_ := aM (Kd.R_elder' (by (with_reducible repeat (first | apply Kd.R_alloc | apply Kd.R_drewN | apply Kd.R_drew)); exact (Kd.R_mono (Kd.R_far (p := ⟨gb878, 2, none⟩) (Kd.R_far (p := ⟨gb878, 1, none⟩) (Kd.R_far (p := ⟨gb878, 0, none⟩) (Kd.R_types HO875.out BK878.out (by decide)) (fun _ hk => hk.2) (.slice Ao116 t873.length co116)) (fun _ hk => hk.2) (.int .i64 t876)) (fun _ hk => hk.2) (.bool t877)) (fun _ h_ => h_.1))) (Kd.R_base ho0) hb); have n3_ := aM (Kd.R_lower (Kd.R_new' (Kd.R_new' (Kd.R_new' ho0 (Kd.R_lt (by (with_reducible repeat (first | apply Kd.R_alloc | apply Kd.R_drewN | apply Kd.R_drew)); exact (Kd.R_mono (Kd.R_far (p := ⟨gb878, 2, none⟩) (Kd.R_far (p := ⟨gb878, 1, none⟩) (Kd.R_far (p := ⟨gb878, 0, none⟩) (Kd.R_types HO864.out BK878.out (by decide)) (fun _ hk => hk.2) (.slice Ao116 t873.length co116)) (fun _ hk => hk.2) (.int .i64 t876)) (fun _ hk => hk.2) (.bool t877)) (fun _ h_ => h_.1))))) (Kd.R_lt (by (with_reducible repeat (first | apply Kd.R_alloc | apply Kd.R_drewN | apply Kd.R_drew)); exact (Kd.R_mono (Kd.R_far (p := ⟨gb878, 2, none⟩) (Kd.R_far (p := ⟨gb878, 1, none⟩) (Kd.R_far (p := ⟨gb878, 0, none⟩) (Kd.R_types HO869.out BK878.out (by decide)) (fun _ hk => hk.2) (.slice Ao116 t873.length co116)) (fun _ hk => hk.2) (.int .i64 t876)) (fun _ hk => hk.2) (.bool t877)) (fun _ h_ => h_.1))))) (Kd.R_lt (by (with_reducible repeat (first | apply Kd.R_alloc | apply Kd.R_drewN | apply Kd.R_drew)); exact (Kd.R_mono (Kd.R_far (p := ⟨gb878, 2, none⟩) (Kd.R_far (p := ⟨gb878, 1, none⟩) (Kd.R_far (p := ⟨gb878, 0, none⟩) (Kd.R_types HO875.out BK878.out (by decide)) (fun _ hk => hk.2) (.slice Ao116 t873.length co116)) (fun _ hk => hk.2) (.int .i64 t876)) (fun _ hk => hk.2) (.bool t877)) (fun _ h_ => h_.1))))) (below_size (by repeat (first | (with_reducible first | exact HB.out | apply below_alloc | apply pw_below_drewN | apply below_drew1 | refine below_set ?_ GE858.out | refine below_set ?_ GE859.out | refine below_set ?_ GE878.out) | exact HB.out)))); have n4_ := aM (blk_below (g := gb858) (o := .cells #[.slice A0_0 l0_0.length c0_0, .int .i64 a0_1, .bool a0_2] 47 (0, 0)) (by (with_reducible repeat (first | refine blk_drewN ?_ _ | refine blk_drew ?_ | refine blk_alloc ?_ _)); refine blk_far ?_ NB858_878.out _; (with_reducible repeat (first | refine blk_drewN ?_ _ | refine blk_drew ?_ | refine blk_alloc ?_ _)); refine blk_far ?_ NB858_878.out _; (with_reducible repeat (first | refine blk_drewN ?_ _ | refine blk_drew ?_ | refine blk_alloc ?_ _)); refine blk_far ?_ NB858_878.out _; (with_reducible repeat (first | refine blk_drewN ?_ _ | refine blk_drew ?_ | refine blk_alloc ?_ _)); exact BK858.out) hb); have n5_ := aM (blk_below (g := gb859) (o := .cells #[.slice A1_0 l1_0.length c1_0, .int .i64 a1_1, .bool a1_2] 47 (0, 0)) (by (with_reducible repeat (first | refine blk_drewN ?_ _ | refine blk_drew ?_ | refine blk_alloc ?_ _)); refine blk_far ?_ NB859_878.out _; (with_reducible repeat (first | refine blk_drewN ?_ _ | refine blk_drew ?_ | refine blk_alloc ?_ _)); refine blk_far ?_ NB859_878.out _; (with_reducible repeat (first | refine blk_drewN ?_ _ | refine blk_drew ?_ | refine blk_alloc ?_ _)); refine blk_far ?_ NB859_878.out _; (with_reducible repeat (first | refine blk_drewN ?_ _ | refine blk_drew ?_ | refine blk_alloc ?_ _)); exact BK859.out) hb); have n6_ := aM (blk_below (g := gb878) (o := .cells #[.slice Ao116 t873.length co116, .int .i64 t876, .bool t877] 51 (0, 0)) (by (with_reducible repeat (first | refine blk_drewN ?_ _ | refine blk_drew ?_ | refine blk_alloc ?_ _)); refine blk_put (cs := #[.slice Ao116 t873.length co116, .int .i64 t876, .bool false]) ?_ 2 _ rfl; (with_reducible repeat (first | refine blk_drewN ?_ _ | refine blk_drew ?_ | refine blk_alloc ?_ _)); refine blk_put (cs := #[.slice Ao116 t873.length co116, .int .i64 0, .bool false]) ?_ 1 _ rfl; (with_reducible repeat (first | refine blk_drewN ?_ _ | refine blk_drew ?_ | refine blk_alloc ?_ _)); refine blk_put (cs := #[.slice none 0 0, .int .i64 0, .bool false]) ?_ 0 _ rfl; (with_reducible repeat (first | refine blk_drewN ?_ _ | refine blk_drew ?_ | refine blk_alloc ?_ _)); exact BK878.out) hb); have n7_ := aM (below_step (by repeat (first | (with_reducible first | exact HB.out | apply below_alloc | apply pw_below_drewN | apply below_drew1 | refine below_set ?_ GE858.out | refine below_set ?_ GE859.out | refine below_set ?_ GE878.out) | exact HB.out)) hb); clear HO864 HO869 HO875 BK858 BK859 BK878 HB; have HO864 := n0_; have HO869 := n1_; have HO875 := n2_; have HO881 := n3_; have BK858 := n4_; have BK859 := n5_; have BK878 := n6_; have HB := n7_; clear n0_ n1_ n2_ n3_ n4_ n5_ n6_ n7_; (try clear hb); (try clear hb2); (try clear hk); (try clear hi); (try clear ho0)) | ((with_reducible refine gate_dst (N := 8) rfl ?_); refine zx 8 #[.slice none 0 0, .int .i64 0, .bool false] 51 ?_; intro gb884 hg w122 hbox hb; have n0_ := aM (Kd.R_below (mR_ HO864.out) hb); have n1_ := aM (Kd.R_below (mR_ HO869.out) hb); have n2_ := aM (Kd.R_below (mR_ HO875.out) hb); have n3_ := aM (Kd.R_below (mR_ HO881.out) hb); have n4_ := aM (blk_below (g := gb858) (o := .cells #[.slice A0_0 l0_0.length c0_0, .int .i64 a0_1, .bool a0_2] 47 (0, 0)) (mB_ BK858.out) hb); have n5_ := aM (blk_below (g := gb859) (o := .cells #[.slice A1_0 l1_0.length c1_0, .int .i64 a1_1, .bool a1_2] 47 (0, 0)) (mB_ BK859.out) hb); have n6_ := aM (blk_below (g := gb878) (o := .cells #[.slice Ao116 t873.length co116, .int .i64 t876, .bool t877] 51 (0, 0)) (mB_ BK878.out) hb); have n7_ := aM (below_step (by repeat (first | (with_reducible first | exact HB.out | apply below_alloc | apply pw_below_drewN | apply below_drew1 | refine below_set ?_ GE858.out | refine below_set ?_ GE859.out | refine below_set ?_ GE878.out) | exact HB.out)) hb); have n8_ := aM (hbox); have n9_ := aM ((by rw [hg]; exact (below_size (by repeat (first | (with_reducible first | exact HB.out | apply below_alloc | apply pw_below_drewN | apply below_drew1 | refine below_set ?_ GE858.out | refine below_set ?_ GE859.out | refine below_set ?_ GE878.out) | exact HB.out))) : w.heap.size ≤ gb884)); have n10_ := aM ((by rw [hg]; exact (below_size (by repeat (first | (with_reducible first | exact HB.out | apply below_alloc | apply pw_below_drewN | apply below_drew1 | refine below_set ?_ GE858.out | refine below_set ?_ GE859.out | refine below_set ?_ GE878.out) | exact HB.out))) : w.heap.size ≤ gb884)); have n11_ := aM ((zl BK858.out : gb858 ≠ gb884)); have n12_ := aM ((zn BK858.out : gb884 ≠ gb858)); have n13_ := aM ((zl BK859.out : gb859 ≠ gb884)); have n14_ := aM ((zn BK859.out : gb884 ≠ gb859)); have n15_ := aM ((zl BK878.out : gb878 ≠ gb884)); have n16_ := aM ((zn BK878.out : gb884 ≠ gb878)); clear HO864 HO869 HO875 HO881 BK858 BK859 BK878 HB; have HO864 := n0_; have HO869 := n1_; have HO875 := n2_; have HO881 := n3_; have BK858 := n4_; have BK859 := n5_; have BK878 := n6_; have HB := n7_; have BK884 := n8_; have GW884 := n9_; have GE884 := n10_; have NB858_884 := n11_; have NB884_858 := n12_; have NB859_884 := n13_; have NB884_859 := n14_; have NB878_884 := n15_; have NB884_878 := n16_; clear n0_ n1_ n2_ n3_ n4_ n5_ n6_ n7_ n8_ n9_ n10_ n11_ n12_ n13_ n14_ n15_ n16_ hb hbox hg; obtain ⟨Ao123, co123, eo123⟩ := Kd.R_slice HO881.out; subst eo123; have hnb124 := NB884_858.out; have hnc124 := NB858_884.out; have hnb125 := NB884_859.out; have hnc125 := NB859_884.out; have hnb126 := NB884_878.out; have hnc126 := NB878_884.out; have hcz127_0 : w122.cell? ⟨gb884, 0, none⟩ = some (.slice none 0 0) := (blk_cell BK884.out 0).trans rfl; have hcz127_1 : w122.cell? ⟨gb884, 1, none⟩ = some (.int .i64 0) := (blk_cell BK884.out 1).trans rfl; have hcz127_2 : w122.cell? ⟨gb884, 2, none⟩ = some (.bool false) := (blk_cell BK884.out 2).trans rfl; have hfz127_0 := blk_frozen BK884.out 0; have hfz127_1 := blk_frozen BK884.out 1; have hfz127_2 := blk_frozen BK884.out 2; have hcz128_0 : w122.cell? ⟨gb878, 0, none⟩ = some (.slice Ao116 t873.length co116) := (blk_cell BK878.out 0).trans rfl; have hcz128_1 : w122.cell? ⟨gb878, 1, none⟩ = some (.int .i64 t876) := (blk_cell BK878.out 1).trans rfl; have hcz128_2 : w122.cell? ⟨gb878, 2, none⟩ = some (.bool t877) := (blk_cell BK878.out 2).trans rfl; have hfz128_0 := blk_frozen BK878.out 0; have hfz128_1 := blk_frozen BK878.out 1; have hfz128_2 := blk_frozen BK878.out 2) | ((with_reducible refine gate_callee (f := 35) rfl ?_); refine goesL_ (some 31) rfl rfl Try.func35 (by kernel_rfl) rfl #[.agg #[.slice Ao116 t873.length co116, .int .i64 t876, .bool t877], .agg #[.slice Ao123 t879.length co123, .int .i64 t882, .bool t883]] rfl zm ?_; (with_reducible refine (impl_AreAlike.calls k _ _ t873 t876 t877 _ _ t879 t882 t883 t885 _ ?side1 ?side2 ?side3 ?side4 A24.out).mono ?_); (case side1 => refine (Kd.R_reads' (e := 59) (base := w.heap.size) (ok := fun k_ => (((True ∧ some k_ ≠ (.slice Ao110 t862.length co110 : Value).ownBlock) ∧ some k_ ≠ (.slice Ao111 t867.length co111 : Value).ownBlock) ∧ some k_ ≠ (.slice Ao123 t879.length co123 : Value).ownBlock)) (n := t873.length) (c := co116) ?_).2.2; exact (by (with_reducible repeat (first | apply Kd.R_alloc | apply Kd.R_drewN | apply Kd.R_drew)); exact (Kd.R_mono (Kd.R_far (p := ⟨gb884, 2, none⟩) (Kd.R_far (p := ⟨gb884, 1, none⟩) (Kd.R_far (p := ⟨gb884, 0, none⟩) (Kd.R_types HO875.out BK884.out (by decide)) (fun _ hk => hk.2) (.slice Ao123 t879.length co123)) (fun _ hk => hk.2) (.int .i64 t882)) (fun _ hk => hk.2) (.bool t883)) (fun _ h_ => h_.1)))); (case side2 => exact (Kd.R_reads' HO875.out).2.1); (case side3 => refine (Kd.R_reads' (e := 59) (base := w.heap.size) (ok := fun k_ => (((True ∧ some k_ ≠ (.slice Ao110 t862.length co110 : Value).ownBlock) ∧ some k_ ≠ (.slice Ao111 t867.length co111 : Value).ownBlock) ∧ some k_ ≠ (.slice Ao116 t873.length co116 : Value).ownBlock)) (n := t879.length) (c := co123) ?_).2.2; exact (by (with_reducible repeat (first | apply Kd.R_alloc | apply Kd.R_drewN | apply Kd.R_drew)); exact (Kd.R_mono (Kd.R_far (p := ⟨gb884, 2, none⟩) (Kd.R_far (p := ⟨gb884, 1, none⟩) (Kd.R_far (p := ⟨gb884, 0, none⟩) (Kd.R_types HO881.out BK884.out (by decide)) (fun _ hk => hk.2) (.slice Ao123 t879.length co123)) (fun _ hk => hk.2) (.int .i64 t882)) (fun _ hk => hk.2) (.bool t883)) (fun _ h_ => h_.1)))); (case side4 => exact (Kd.R_reads' HO881.out).2.1); rintro e w129 ⟨rfl, hb⟩; refine ⟨_, rfl, ?_⟩; have n0_ := aM (Kd.R_below (by (with_reducible repeat (first | apply Kd.R_alloc | apply Kd.R_drewN | apply Kd.R_drew)); exact (Kd.R_mono (Kd.R_far (p := ⟨gb884, 2, none⟩) (Kd.R_far (p := ⟨gb884, 1, none⟩) (Kd.R_far (p := ⟨gb884, 0, none⟩) (Kd.R_types HO864.out BK884.out (by decide)) (fun _ hk => hk.2) (.slice Ao123 t879.length co123)) (fun _ hk => hk.2) (.int .i64 t882)) (fun _ hk => hk.2) (.bool t883)) (fun _ h_ => h_.1))) hb); have n1_ := aM (Kd.R_below (by (with_reducible repeat (first | apply Kd.R_alloc | apply Kd.R_drewN | apply Kd.R_drew)); exact (Kd.R_mono (Kd.R_far (p := ⟨gb884, 2, none⟩) (Kd.R_far (p := ⟨gb884, 1, none⟩) (Kd.R_far (p := ⟨gb884, 0, none⟩) (Kd.R_types HO869.out BK884.out (by decide)) (fun _ hk => hk.2) (.slice Ao123 t879.length co123)) (fun _ hk => hk.2) (.int .i64 t882)) (fun _ hk => hk.2) (.bool t883)) (fun _ h_ => h_.1))) hb); have n2_ := aM (Kd.R_below (by (with_reducible repeat (first | apply Kd.R_alloc | apply Kd.R_drewN | apply Kd.R_drew)); exact (Kd.R_mono (Kd.R_far (p := ⟨gb884, 2, none⟩) (Kd.R_far (p := ⟨gb884, 1, none⟩) (Kd.R_far (p := ⟨gb884, 0, none⟩) (Kd.R_types HO875.out BK884.out (by decide)) (fun _ hk => hk.2) (.slice Ao123 t879.length co123)) (fun _ hk => hk.2) (.int .i64 t882)) (fun _ hk => hk.2) (.bool t883)) (fun _ h_ => h_.1))) hb); have n3_ := aM (Kd.R_below (by (with_reducible repeat (first | apply Kd.R_alloc | apply Kd.R_drewN | apply Kd.R_drew)); exact (Kd.R_mono (Kd.R_far (p := ⟨gb884, 2, none⟩) (Kd.R_far (p := ⟨gb884, 1, none⟩) (Kd.R_far (p := ⟨gb884, 0, none⟩) (Kd.R_types HO881.out BK884.out (by decide)) (fun _ hk => hk.2) (.slice Ao123 t879.length co123)) (fun _ hk => hk.2) (.int .i64 t882)) (fun _ hk => hk.2) (.bool t883)) (fun _ h_ => h_.1))) hb); have n4_ := aM (blk_below (g := gb858) (o := .cells #[.slice A0_0 l0_0.length c0_0, .int .i64 a0_1, .bool a0_2] 47 (0, 0)) (by (with_reducible repeat (first | refine blk_drewN ?_ _ | refine blk_drew ?_ | refine blk_alloc ?_ _)); refine blk_far ?_ NB858_884.out _; (with_reducible repeat (first | refine blk_drewN ?_ _ | refine blk_drew ?_ | refine blk_alloc ?_ _)); refine blk_far ?_ NB858_884.out _; (with_reducible repeat (first | refine blk_drewN ?_ _ | refine blk_drew ?_ | refine blk_alloc ?_ _)); refine blk_far ?_ NB858_884.out _; (with_reducible repeat (first | refine blk_drewN ?_ _ | refine blk_drew ?_ | refine blk_alloc ?_ _)); exact BK858.out) hb); have n5_ := aM (blk_below (g := gb859) (o := .cells #[.slice A1_0 l1_0.length c1_0, .int .i64 a1_1, .bool a1_2] 47 (0, 0)) (by (with_reducible repeat (first | refine blk_drewN ?_ _ | refine blk_drew ?_ | refine blk_alloc ?_ _)); refine blk_far ?_ NB859_884.out _; (with_reducible repeat (first | refine blk_drewN ?_ _ | refine blk_drew ?_ | refine blk_alloc ?_ _)); refine blk_far ?_ NB859_884.out _; (with_reducible repeat (first | refine blk_drewN ?_ _ | refine blk_drew ?_ | refine blk_alloc ?_ _)); refine blk_far ?_ NB859_884.out _; (with_reducible repeat (first | refine blk_drewN ?_ _ | refine blk_drew ?_ | refine blk_alloc ?_ _)); exact BK859.out) hb); have n6_ := aM (blk_below (g := gb878) (o := .cells #[.slice Ao116 t873.length co116, .int .i64 t876, .bool t877] 51 (0, 0)) (by (with_reducible repeat (first | refine blk_drewN ?_ _ | refine blk_drew ?_ | refine blk_alloc ?_ _)); refine blk_far ?_ NB878_884.out _; (with_reducible repeat (first | refine blk_drewN ?_ _ | refine blk_drew ?_ | refine blk_alloc ?_ _)); refine blk_far ?_ NB878_884.out _; (with_reducible repeat (first | refine blk_drewN ?_ _ | refine blk_drew ?_ | refine blk_alloc ?_ _)); refine blk_far ?_ NB878_884.out _; (with_reducible repeat (first | refine blk_drewN ?_ _ | refine blk_drew ?_ | refine blk_alloc ?_ _)); exact BK878.out) hb); have n7_ := aM (blk_below (g := gb884) (o := .cells #[.slice Ao123 t879.length co123, .int .i64 t882, .bool t883] 51 (0, 0)) (by (with_reducible repeat (first | refine blk_drewN ?_ _ | refine blk_drew ?_ | refine blk_alloc ?_ _)); refine blk_put (cs := #[.slice Ao123 t879.length co123, .int .i64 t882, .bool false]) ?_ 2 _ rfl; (with_reducible repeat (first | refine blk_drewN ?_ _ | refine blk_drew ?_ | refine blk_alloc ?_ _)); refine blk_put (cs := #[.slice Ao123 t879.length co123, .int .i64 0, .bool false]) ?_ 1 _ rfl; (with_reducible repeat (first | refine blk_drewN ?_ _ | refine blk_drew ?_ | refine blk_alloc ?_ _)); refine blk_put (cs := #[.slice none 0 0, .int .i64 0, .bool false]) ?_ 0 _ rfl; (with_reducible repeat (first | refine blk_drewN ?_ _ | refine blk_drew ?_ | refine blk_alloc ?_ _)); exact BK884.out) hb); have n8_ := aM (below_step (by repeat (first | (with_reducible first | exact HB.out | apply below_alloc | apply pw_below_drewN | apply below_drew1 | refine below_set ?_ GE858.out | refine below_set ?_ GE859.out | refine below_set ?_ GE878.out | refine below_set ?_ GE884.out) | exact HB.out)) hb); clear HO864 HO869 HO875 HO881 BK858 BK859 BK878 BK884 HB; have HO864 := n0_; have HO869 := n1_; have HO875 := n2_; have HO881 := n3_; have BK858 := n4_; have BK859 := n5_; have BK878 := n6_; have BK884 := n7_; have HB := n8_; clear n0_ n1_ n2_ n3_ n4_ n5_ n6_ n7_ n8_; (try clear hb); (try clear hb2); (try clear hk); (try clear hi)))
 have n0_ := aM (Kd.R_drew HO864.out)
 have n1_ := aM (Kd.R_drew HO869.out)
 have n2_ := aM (Kd.R_drew HO875.out)
 have n3_ := aM (Kd.R_drew HO881.out)
 have n4_ := aM (blk_drew BK858.out)
 have n5_ := aM (blk_drew BK859.out)
 have n6_ := aM (blk_drew BK878.out)
 have n7_ := aM (blk_drew BK884.out)
 have n8_ := aM (below_drew1 HB.out)
 clear HO864
 clear HO869
 clear HO875
 clear HO881
 clear BK858
 clear BK859
 clear BK878
 clear BK884
 clear HB
 have HO864 := n0_
 have HO869 := n1_
 have HO875 := n2_
 have HO881 := n3_
 have BK858 := n4_
 have BK859 := n5_
 have BK878 := n6_
 have BK884 := n7_
 have HB := n8_
 clear n0_ n1_ n2_ n3_ n4_ n5_ n6_ n7_ n8_
 refine start_ (n := 5) (S := fun w' => w'.cell? ⟨gb878, 0, none⟩ = some (.slice Ao116 t873.length co116) ∧ w'.cell? ⟨gb878, 1, none⟩ = some (.int .i64 t876) ∧ w'.cell? ⟨gb878, 2, none⟩ = some (.bool t877) ∧ w'.cell? ⟨gb858, 0, none⟩ = some (.slice A0_0 l0_0.length c0_0) ∧ w'.cell? ⟨gb858, 1, none⟩ = some (.int .i64 a0_1) ∧ w'.cell? ⟨gb858, 2, none⟩ = some (.bool a0_2)) (ds := []) #[false, false, false, false, false] (by kernel_rfl) rfl rfl ⟨(blk_cell BK878.out 0).trans rfl, (blk_cell BK878.out 1).trans rfl, (blk_cell BK878.out 2).trans rfl, (blk_cell BK858.out 0).trans rfl, (blk_cell BK858.out 1).trans rfl, (blk_cell BK858.out 2).trans rfl⟩ (fun hHeld => ?_)
 generalize w129.drew = w130 at HO864 HO869 HO875 HO881 BK858 BK859 BK878 BK884 HB hHeld ⊢
 refine take_ (i := 0) (N := some 35) (v := ?_) (a' := ?_) #[true, false, false, false, false] rfl rfl (by kernel_rfl) (fun _ _ _ h => h) (Or.inl ⟨by rfl, ?_⟩) hHeld ?_ ?_
 rotate_left
 ·rintro w' ⟨s0, s1, s2, s3, s4, s5⟩
  go_simp
  with_reducible rfl
 rotate_left
 ·simp only [Act.put, xA, xB, xC, i64_w, i32_w]
  rfl
 refine take_ (i := 1) (N := some 36) (v := ?_) (a' := ?_) #[true, true, false, false, false] rfl rfl (by kernel_rfl) (fun _ _ _ h => h) (Or.inl ⟨by rfl, ?_⟩) hHeld ?_ ?_
 rotate_left
 ·rintro w' ⟨s0, s1, s2, s3, s4, s5⟩
  go_simp
  with_reducible rfl
 rotate_left
 ·simp only [Act.put, xA, xB, xC, i64_w, i32_w]
  rfl
 refine one_ (i := 2) (N := some 37) #[true, true, true, false, false] rfl rfl (by kernel_rfl) (by decide) (fun K hK => ?_)
 refine goes_ Try.func34 (by kernel_rfl) rfl #[.agg #[.slice A0_0 l0_0.length c0_0, .int .i64 a0_1, .bool a0_2]] (by rfl) rfl rfl zm ?_
 with_reducible refine (laws_toPiece.calls k _ _ l0_0 a0_1 a0_2 t886 t889 t890 _ ?side1 ?side2 A56.out).mono ?_
 (case side1 => repeat (first | exact (Kd.C_below HR0_0.out HB.out) | (with_reducible refine Kd.C_alloc ?_ _) | (with_reducible refine Kd.C_drewN ?_ _) | (with_reducible refine Kd.C_drew ?_)))
 (case side2 => exact HC0_0.out)
 rintro e w131 ⟨v887, rfl, ho0, hb⟩
 refine ⟨_, rfl, ?_⟩
 have n0_ := aM (Kd.R_elder' (mR_ HO864.out) (Kd.R_base ho0) hb)
 have n1_ := aM (Kd.R_elder' (mR_ HO869.out) (Kd.R_base ho0) hb)
 have n2_ := aM (Kd.R_elder' (mR_ HO875.out) (Kd.R_base ho0) hb)
 have n3_ := aM (Kd.R_elder' (mR_ HO881.out) (Kd.R_base ho0) hb)
 have n4_ := aM (Kd.R_lower (Kd.R_new' (Kd.R_new' (Kd.R_new' (Kd.R_new' ho0 (Kd.R_lt (mR_ HO864.out))) (Kd.R_lt (mR_ HO869.out))) (Kd.R_lt (mR_ HO875.out))) (Kd.R_lt (mR_ HO881.out))) (below_size (by repeat (first | (with_reducible first | exact HB.out | apply below_alloc | apply pw_below_drewN | apply below_drew1 | refine below_set ?_ GE858.out | refine below_set ?_ GE859.out | refine below_set ?_ GE878.out | refine below_set ?_ GE884.out) | exact HB.out))))
 have n5_ := aM (blk_below (g := gb858) (o := .cells #[.slice A0_0 l0_0.length c0_0, .int .i64 a0_1, .bool a0_2] 47 (0, 0)) (mB_ BK858.out) hb)
 have n6_ := aM (blk_below (g := gb859) (o := .cells #[.slice A1_0 l1_0.length c1_0, .int .i64 a1_1, .bool a1_2] 47 (0, 0)) (mB_ BK859.out) hb)
 have n7_ := aM (blk_below (g := gb878) (o := .cells #[.slice Ao116 t873.length co116, .int .i64 t876, .bool t877] 51 (0, 0)) (mB_ BK878.out) hb)
 have n8_ := aM (blk_below (g := gb884) (o := .cells #[.slice Ao123 t879.length co123, .int .i64 t882, .bool t883] 51 (0, 0)) (mB_ BK884.out) hb)
 have n9_ := aM (below_step (by repeat (first | (with_reducible first | exact HB.out | apply below_alloc | apply pw_below_drewN | apply below_drew1 | refine below_set ?_ GE858.out | refine below_set ?_ GE859.out | refine below_set ?_ GE878.out | refine below_set ?_ GE884.out) | exact HB.out)) hb)
 clear HO864
 clear HO869
 clear HO875
 clear HO881
 clear BK858
 clear BK859
 clear BK878
 clear BK884
 clear HB
 have HO864 := n0_
 have HO869 := n1_
 have HO875 := n2_
 have HO881 := n3_
 have HO888 := n4_
 have BK858 := n5_
 have BK859 := n6_
 have BK878 := n7_
 have BK884 := n8_
 have HB := n9_
 clear n0_ n1_ n2_ n3_ n4_ n5_ n6_ n7_ n8_ n9_
 (try clear hb)
 (try clear hb2)
 (try clear hk)
 (try clear hi)
 (try clear ho0)
 obtain ⟨Ao132, co132, eo132⟩ := Kd.R_slice HO888.out
 (first | subst eo132 | (injection eo132 with f1_ f2_ f3_; have f4_ := f1_.symm; have f5_ := f3_.symm; clear f1_ f2_ f3_; subst f4_; subst f5_))
 refine hK.out _ _ ⟨(blk_cell BK878.out 0).trans rfl, (blk_cell BK878.out 1).trans rfl, (blk_cell BK878.out 2).trans rfl, (blk_cell BK858.out 0).trans rfl, (blk_cell BK858.out 1).trans rfl, (blk_cell BK858.out 2).trans rfl⟩ (fun hHeld => ?_)
 clear hK K
 refine norm_ (a' := ?_) ?_ ?_
 rotate_left
 ·show Act.put _ (some 37) _ = _
  simp only [Act.put, xA, xB, xC, i64_w, i32_w]
  rfl
 refine one_ (i := 3) (N := some 38) #[true, true, true, true, false] rfl rfl (by kernel_rfl) (by decide) (fun K hK => ?_)
 refine goes_ Try.func36 (by kernel_rfl) rfl #[.agg #[.slice Ao116 t873.length co116, .int .i64 t876, .bool t877], .agg #[.slice Ao132 t886.length co132, .int .i64 t889, .bool t890]] (by rfl) rfl rfl zm ?_
 with_reducible refine (laws_eqPiece.calls k _ _ t873 t876 t877 _ _ t886 t889 t890 true _ ?side1 ?side2 ?side3 ?side4 A57.out).mono ?_
 (case side1 => exact zc HO875.out)
 (case side2 => exact (Kd.R_reads' HO875.out).2.1)
 (case side3 => exact zc HO888.out)
 (case side4 => exact (Kd.R_reads' HO888.out).2.1)
 rintro e w133 ⟨rfl, hb⟩
 refine ⟨_, rfl, ?_⟩
 have n0_ := aM (Kd.R_below (mR_ HO864.out) hb)
 have n1_ := aM (Kd.R_below (mR_ HO869.out) hb)
 have n2_ := aM (Kd.R_below (mR_ HO875.out) hb)
 have n3_ := aM (Kd.R_below (mR_ HO881.out) hb)
 have n4_ := aM (Kd.R_below (mR_ HO888.out) hb)
 have n5_ := aM (blk_below (g := gb858) (o := .cells #[.slice A0_0 l0_0.length c0_0, .int .i64 a0_1, .bool a0_2] 47 (0, 0)) (mB_ BK858.out) hb)
 have n6_ := aM (blk_below (g := gb859) (o := .cells #[.slice A1_0 l1_0.length c1_0, .int .i64 a1_1, .bool a1_2] 47 (0, 0)) (mB_ BK859.out) hb)
 have n7_ := aM (blk_below (g := gb878) (o := .cells #[.slice Ao116 t873.length co116, .int .i64 t876, .bool t877] 51 (0, 0)) (mB_ BK878.out) hb)
 have n8_ := aM (blk_below (g := gb884) (o := .cells #[.slice Ao123 t879.length co123, .int .i64 t882, .bool t883] 51 (0, 0)) (mB_ BK884.out) hb)
 have n9_ := aM (below_step (by repeat (first | (with_reducible first | exact HB.out | apply below_alloc | apply pw_below_drewN | apply below_drew1 | refine below_set ?_ GE858.out | refine below_set ?_ GE859.out | refine below_set ?_ GE878.out | refine below_set ?_ GE884.out) | exact HB.out)) hb)
 clear HO864
 clear HO869
 clear HO875
 clear HO881
 clear HO888
 clear BK858
 clear BK859
 clear BK878
 clear BK884
 clear HB
 have HO864 := n0_
 have HO869 := n1_
 have HO875 := n2_
 have HO881 := n3_
 have HO888 := n4_
 have BK858 := n5_
 have BK859 := n6_
 have BK878 := n7_
 have BK884 := n8_
 have HB := n9_
 clear n0_ n1_ n2_ n3_ n4_ n5_ n6_ n7_ n8_ n9_
 (try clear hb)
 (try clear hb2)
 (try clear hk)
 (try clear hi)
 refine hK.out _ _ ⟨(blk_cell BK878.out 0).trans rfl, (blk_cell BK878.out 1).trans rfl, (blk_cell BK878.out 2).trans rfl, (blk_cell BK858.out 0).trans rfl, (blk_cell BK858.out 1).trans rfl, (blk_cell BK858.out 2).trans rfl⟩ (fun hHeld => ?_)
 clear hK K
 refine norm_ (a' := ?_) ?_ ?_
 rotate_left
 ·show Act.put _ (some 38) _ = _
  simp only [Act.put, xA, xB, xC, i64_w, i32_w]
  rfl
 refine pure_ (i := 4) (N := some 39) (v := ?_) (a' := ?_) #[true, true, true, true, true] rfl rfl (by kernel_rfl) (fun _ _ _ h => h) (Or.inl ⟨by rfl, ?_⟩) ?_ ?_
 rotate_left
 ·intro w'
  go_simp
  with_reducible rfl
 rotate_left
 ·simp only [Act.put, xA, xB, xC, i64_w, i32_w]
  rfl
 refine done_ (by kernel_rfl) ?_
 try go_wp2
 have n0_ := aM (Kd.R_drew HO864.out)
 have n1_ := aM (Kd.R_drew HO869.out)
 have n2_ := aM (Kd.R_drew HO875.out)
 have n3_ := aM (Kd.R_drew HO881.out)
 have n4_ := aM (Kd.R_drew HO888.out)
 have n5_ := aM (blk_drew BK858.out)
 have n6_ := aM (blk_drew BK859.out)
 have n7_ := aM (blk_drew BK878.out)
 have n8_ := aM (blk_drew BK884.out)
 have n9_ := aM (below_drew1 HB.out)
 clear HO864
 clear HO869
 clear HO875
 clear HO881
 clear HO888
 clear BK858
 clear BK859
 clear BK878
 clear BK884
 clear HB
 have HO864 := n0_
 have HO869 := n1_
 have HO875 := n2_
 have HO881 := n3_
 have HO888 := n4_
 have BK858 := n5_
 have BK859 := n6_
 have BK878 := n7_
 have BK884 := n8_
 have HB := n9_
 clear n0_ n1_ n2_ n3_ n4_ n5_ n6_ n7_ n8_ n9_
 refine start_ (n := 5) (S := fun w' => w'.cell? ⟨gb884, 0, none⟩ = some (.slice Ao123 t879.length co123) ∧ w'.cell? ⟨gb884, 1, none⟩ = some (.int .i64 t882) ∧ w'.cell? ⟨gb884, 2, none⟩ = some (.bool t883) ∧ w'.cell? ⟨gb859, 0, none⟩ = some (.slice A1_0 l1_0.length c1_0) ∧ w'.cell? ⟨gb859, 1, none⟩ = some (.int .i64 a1_1) ∧ w'.cell? ⟨gb859, 2, none⟩ = some (.bool a1_2)) (ds := []) #[false, false, false, false, false] (by kernel_rfl) rfl rfl ⟨(blk_cell BK884.out 0).trans rfl, (blk_cell BK884.out 1).trans rfl, (blk_cell BK884.out 2).trans rfl, (blk_cell BK859.out 0).trans rfl, (blk_cell BK859.out 1).trans rfl, (blk_cell BK859.out 2).trans rfl⟩ (fun hHeld => ?_)
 generalize w133.drew = w134 at HO864 HO869 HO875 HO881 HO888 BK858 BK859 BK878 BK884 HB hHeld ⊢
 refine take_ (i := 0) (N := some 40) (v := ?_) (a' := ?_) #[true, false, false, false, false] rfl rfl (by kernel_rfl) (fun _ _ _ h => h) (Or.inl ⟨by rfl, ?_⟩) hHeld ?_ ?_
 rotate_left
 ·rintro w' ⟨s0, s1, s2, s3, s4, s5⟩
  go_simp
  with_reducible rfl
 rotate_left
 ·simp only [Act.put, xA, xB, xC, i64_w, i32_w]
  rfl
 refine take_ (i := 1) (N := some 41) (v := ?_) (a' := ?_) #[true, true, false, false, false] rfl rfl (by kernel_rfl) (fun _ _ _ h => h) (Or.inl ⟨by rfl, ?_⟩) hHeld ?_ ?_
 rotate_left
 ·rintro w' ⟨s0, s1, s2, s3, s4, s5⟩
  go_simp
  with_reducible rfl
 rotate_left
 ·simp only [Act.put, xA, xB, xC, i64_w, i32_w]
  rfl
 refine one_ (i := 2) (N := some 42) #[true, true, true, false, false] rfl rfl (by kernel_rfl) (by decide) (fun K hK => ?_)
 refine goes_ Try.func34 (by kernel_rfl) rfl #[.agg #[.slice A1_0 l1_0.length c1_0, .int .i64 a1_1, .bool a1_2]] (by rfl) rfl rfl zm ?_
 with_reducible refine (laws_toPiece.calls k _ _ l1_0 a1_1 a1_2 t892 t895 t896 _ ?side1 ?side2 A59.out).mono ?_
 (case side1 => repeat (first | exact (Kd.C_below HR1_0.out HB.out) | (with_reducible refine Kd.C_alloc ?_ _) | (with_reducible refine Kd.C_drewN ?_ _) | (with_reducible refine Kd.C_drew ?_)))
 (case side2 => exact HC1_0.out)
 rintro e w135 ⟨v893, rfl, ho0, hb⟩
 refine ⟨_, rfl, ?_⟩
 have n0_ := aM (Kd.R_elder' (mR_ HO864.out) (Kd.R_base ho0) hb)
 have n1_ := aM (Kd.R_elder' (mR_ HO869.out) (Kd.R_base ho0) hb)
 have n2_ := aM (Kd.R_elder' (mR_ HO875.out) (Kd.R_base ho0) hb)
 have n3_ := aM (Kd.R_elder' (mR_ HO881.out) (Kd.R_base ho0) hb)
 have n4_ := aM (Kd.R_elder' (mR_ HO888.out) (Kd.R_base ho0) hb)
 have n5_ := aM (Kd.R_lower (Kd.R_new' (Kd.R_new' (Kd.R_new' (Kd.R_new' (Kd.R_new' ho0 (Kd.R_lt (mR_ HO864.out))) (Kd.R_lt (mR_ HO869.out))) (Kd.R_lt (mR_ HO875.out))) (Kd.R_lt (mR_ HO881.out))) (Kd.R_lt (mR_ HO888.out))) (below_size (by repeat (first | (with_reducible first | exact HB.out | apply below_alloc | apply pw_below_drewN | apply below_drew1 | refine below_set ?_ GE858.out | refine below_set ?_ GE859.out | refine below_set ?_ GE878.out | refine below_set ?_ GE884.out) | exact HB.out))))
 have n6_ := aM (blk_below (g := gb858) (o := .cells #[.slice A0_0 l0_0.length c0_0, .int .i64 a0_1, .bool a0_2] 47 (0, 0)) (mB_ BK858.out) hb)
 have n7_ := aM (blk_below (g := gb859) (o := .cells #[.slice A1_0 l1_0.length c1_0, .int .i64 a1_1, .bool a1_2] 47 (0, 0)) (mB_ BK859.out) hb)
 have n8_ := aM (blk_below (g := gb878) (o := .cells #[.slice Ao116 t873.length co116, .int .i64 t876, .bool t877] 51 (0, 0)) (mB_ BK878.out) hb)
 have n9_ := aM (blk_below (g := gb884) (o := .cells #[.slice Ao123 t879.length co123, .int .i64 t882, .bool t883] 51 (0, 0)) (mB_ BK884.out) hb)
 have n10_ := aM (below_step (by repeat (first | (with_reducible first | exact HB.out | apply below_alloc | apply pw_below_drewN | apply below_drew1 | refine below_set ?_ GE858.out | refine below_set ?_ GE859.out | refine below_set ?_ GE878.out | refine below_set ?_ GE884.out) | exact HB.out)) hb)
 clear HO864
 clear HO869
 clear HO875
 clear HO881
 clear HO888
 clear BK858
 clear BK859
 clear BK878
 clear BK884
 clear HB
 have HO864 := n0_
 have HO869 := n1_
 have HO875 := n2_
 have HO881 := n3_
 have HO888 := n4_
 have HO894 := n5_
 have BK858 := n6_
 have BK859 := n7_
 have BK878 := n8_
 have BK884 := n9_
 have HB := n10_
 clear n0_ n1_ n2_ n3_ n4_ n5_ n6_ n7_ n8_ n9_ n10_
 (try clear hb)
 (try clear hb2)
 (try clear hk)
 (try clear hi)
 (try clear ho0)
 obtain ⟨Ao136, co136, eo136⟩ := Kd.R_slice HO894.out
 (first | subst eo136 | (injection eo136 with f1_ f2_ f3_; have f4_ := f1_.symm; have f5_ := f3_.symm; clear f1_ f2_ f3_; subst f4_; subst f5_))
 refine hK.out _ _ ⟨(blk_cell BK884.out 0).trans rfl, (blk_cell BK884.out 1).trans rfl, (blk_cell BK884.out 2).trans rfl, (blk_cell BK859.out 0).trans rfl, (blk_cell BK859.out 1).trans rfl, (blk_cell BK859.out 2).trans rfl⟩ (fun hHeld => ?_)
 clear hK K
 refine norm_ (a' := ?_) ?_ ?_
 rotate_left
 ·show Act.put _ (some 42) _ = _
  simp only [Act.put, xA, xB, xC, i64_w, i32_w]
  rfl
 refine one_ (i := 3) (N := some 43) #[true, true, true, true, false] rfl rfl (by kernel_rfl) (by decide) (fun K hK => ?_)
 refine goes_ Try.func36 (by kernel_rfl) rfl #[.agg #[.slice Ao123 t879.length co123, .int .i64 t882, .bool t883], .agg #[.slice Ao136 t892.length co136, .int .i64 t895, .bool t896]] (by rfl) rfl rfl zm ?_
 with_reducible refine (laws_eqPiece.calls k _ _ t879 t882 t883 _ _ t892 t895 t896 false _ ?side1 ?side2 ?side3 ?side4 A60.out).mono ?_
 (case side1 => exact zc HO881.out)
 (case side2 => exact (Kd.R_reads' HO881.out).2.1)
 (case side3 => exact zc HO894.out)
 (case side4 => exact (Kd.R_reads' HO894.out).2.1)
 rintro e w137 ⟨rfl, hb⟩
 refine ⟨_, rfl, ?_⟩
 have n0_ := aM (Kd.R_below (mR_ HO864.out) hb)
 have n1_ := aM (Kd.R_below (mR_ HO869.out) hb)
 have n2_ := aM (Kd.R_below (mR_ HO875.out) hb)
 have n3_ := aM (Kd.R_below (mR_ HO881.out) hb)
 have n4_ := aM (Kd.R_below (mR_ HO888.out) hb)
 have n5_ := aM (Kd.R_below (mR_ HO894.out) hb)
 have n6_ := aM (blk_below (g := gb858) (o := .cells #[.slice A0_0 l0_0.length c0_0, .int .i64 a0_1, .bool a0_2] 47 (0, 0)) (mB_ BK858.out) hb)
 have n7_ := aM (blk_below (g := gb859) (o := .cells #[.slice A1_0 l1_0.length c1_0, .int .i64 a1_1, .bool a1_2] 47 (0, 0)) (mB_ BK859.out) hb)
 have n8_ := aM (blk_below (g := gb878) (o := .cells #[.slice Ao116 t873.length co116, .int .i64 t876, .bool t877] 51 (0, 0)) (mB_ BK878.out) hb)
 have n9_ := aM (blk_below (g := gb884) (o := .cells #[.slice Ao123 t879.length co123, .int .i64 t882, .bool t883] 51 (0, 0)) (mB_ BK884.out) hb)
 have n10_ := aM (below_step (by repeat (first | (with_reducible first | exact HB.out | apply below_alloc | apply pw_below_drewN | apply below_drew1 | refine below_set ?_ GE858.out | refine below_set ?_ GE859.out | refine below_set ?_ GE878.out | refine below_set ?_ GE884.out) | exact HB.out)) hb)
 clear HO864
 clear HO869
 clear HO875
 clear HO881
 clear HO888
 clear HO894
 clear BK858
 clear BK859
 clear BK878
 clear BK884
 clear HB
 have HO864 := n0_
 have HO869 := n1_
 have HO875 := n2_
 have HO881 := n3_
 have HO888 := n4_
 have HO894 := n5_
 have BK858 := n6_
 have BK859 := n7_
 have BK878 := n8_
 have BK884 := n9_
 have HB := n10_
 clear n0_ n1_ n2_ n3_ n4_ n5_ n6_ n7_ n8_ n9_ n10_
 (try clear hb)
 (try clear hb2)
 (try clear hk)
 (try clear hi)
 refine hK.out _ _ ⟨(blk_cell BK884.out 0).trans rfl, (blk_cell BK884.out 1).trans rfl, (blk_cell BK884.out 2).trans rfl, (blk_cell BK859.out 0).trans rfl, (blk_cell BK859.out 1).trans rfl, (blk_cell BK859.out 2).trans rfl⟩ (fun hHeld => ?_)
 clear hK K
 refine norm_ (a' := ?_) ?_ ?_
 rotate_left
 ·show Act.put _ (some 43) _ = _
  simp only [Act.put, xA, xB, xC, i64_w, i32_w]
  rfl
 refine pure_ (i := 4) (N := some 44) (v := ?_) (a' := ?_) #[true, true, true, true, true] rfl rfl (by kernel_rfl) (fun _ _ _ h => h) (Or.inl ⟨by rfl, ?_⟩) ?_ ?_
 rotate_left
 ·intro w'
  go_simp
  with_reducible rfl
 rotate_left
 ·simp only [Act.put, xA, xB, xC, i64_w, i32_w]
  rfl
 refine done_ (by kernel_rfl) ?_
 try go_wp2
 go_ret
 exact ⟨zw, by repeat (first | (with_reducible first | exact HB.out | apply below_alloc | apply pw_below_drewN | apply below_drew1 | refine below_set ?_ GE858.out | refine below_set ?_ GE859.out | refine below_set ?_ GE878.out | refine below_set ?_ GE884.out) | exact HB.out)⟩
end Go.Proofs.Ytfdfdifjkaaeoaa.F
end
