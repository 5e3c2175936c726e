/- The row of FnHexForms, with what it needs: text 9 of 11. -/
import Derived.Test.YtlnliahadgmbcaaKHF7
import Derived.ChangeArms
import Derived.ChangeSame
import Derived.Deep.Fields
import Derived.Deep.Slices
import Derived.Deep.Strs
import Derived.WideShapes
set_option maxHeartbeats 8000000
set_option maxRecDepth 100000
section
namespace Go.Proofs.Ytlnliahadgmbcaa.F
open Go.RowKit Go.Proofs.YtlnliahadgmbcaaW.PrintWords Go.Proofs.YtlnliahadgmbcaaW.PrintLast Go.Proofs.YtlnliahadgmbcaaW.PrintMore
attribute [local go_sem] max2_int min2_int max_two min_two max_three min_three max_four min_four
set_option linter.unusedVariables false
set_option linter.unusedSimpArgs false
theorem impl_HexForm.calls (k : Nat) (A0 : Option Addr) (c0 : Nat) (l0 : List (S59)) (a1 : Int) (r1 : List (S59)) (r2 : Int) (w : World) (hr0 : Kd.C k59 w A0 l0.length l0) (hc0 : l0.length ≤ c0) (h : impl_HexForm.f k l0 a1 = some (r1, r2)) :
  Calls Try.prog 32 #[.slice A0 l0.length c0, .int .i64 a1] w fun e w' => ∃ v0_ : Value, e = .returned (.tuple #[v0_, .int .i64 r2]) ∧ Kd.R k59 59 w' w.heap.size (fun _ => True) v0_ r1 ∧ Below w.heap.size w w' := by
 have HR0 := aM hr0
 have HC0 := aM hc0
 clear hr0 hc0
 have HB := aM (Below.refl w.heap.size w)
 have H : ((impl_IsShape.f k l0).bind fun t1027 => (if t1027 = true then ((impl_isLatticeTurn.f a1).bind fun t1028 => (if t1028 = true then ((impl_hexForm.f k l0 a1).bind fun t1029 => ((impl_IsShape.f k t1029).bind fun t1032 => (if t1032 = true then (some (t1029, 0)) else (some (([] : List (S59)), 3))))) else (some (([] : List (S59)), 2)))) else (some (([] : List (S59)), 1)))) = some (r1, r2) := h
 clear h
 replace H := Option.bind_eq_some_iff.mp H
 obtain ⟨t1027, A30, H⟩ := H
 replace H : (if t1027 = true then ((impl_isLatticeTurn.f a1).bind fun t1028 => (if t1028 = true then ((impl_hexForm.f k l0 a1).bind fun t1029 => ((impl_IsShape.f k t1029).bind fun t1032 => (if t1032 = true then (some (t1029, 0)) else (some (([] : List (S59)), 3))))) else (some (([] : List (S59)), 2)))) else (some (([] : List (S59)), 1))) = some (r1, r2) := H
 have A3 := aM A30
 clear A30
 by_cases c4 : t1027 = true
 rotate_left
 ·replace c4 := Bool.eq_false_iff.mpr c4
  subst c4
  have H1 : (some (([] : List (S59)), 1)) = some (r1, r2) := by rw [if_neg (show ¬ (false = true) by decide)] at H; exact H
  clear H
  have H := H1
  clear H1
  simp only [Option.some.injEq, Prod.mk.injEq] at H
  obtain ⟨rfl, rfl⟩ := H
  go_enter Try.func32, Try.ntmps32
  go_wp2_with (first | ((with_reducible refine gate_callee (f := 40) rfl ?_); refine goesL_ (some 8) rfl rfl Try.func40 (by kernel_rfl) rfl #[.slice A0 l0.length c0] rfl zm ?_; (with_reducible refine (impl_IsShape.calls k _ _ l0 false _ ?side1 ?side2 A3.out).mono ?_); (case side1 => repeat (first | exact HR0.out | (with_reducible refine Kd.C_alloc ?_ _) | (with_reducible refine Kd.C_drewN ?_ _) | (with_reducible refine Kd.C_drew ?_))); (case side2 => exact HC0.out); rintro e w19 ⟨rfl, hb⟩; refine ⟨_, rfl, ?_⟩; have n0_ := aM (below_step zb hb); clear HB; have HB := n0_; clear n0_; (try clear hb); (try clear hb2); (try clear hk); (try clear hi)))
  go_ret2
  exact ⟨_, zw, by first | exact Kd.R_nil _ _ _ _ _ | exact Kd.N_nil _ _ _ _ _ | exact Kd.V_nil _ _ _ _ _ | exact Kd.Q_nil _ _ _ _ _ | exact Kd.S_nil _ _ _ _ _, zb⟩
 subst c4
 have H1 : ((impl_isLatticeTurn.f a1).bind fun t1028 => (if t1028 = true then ((impl_hexForm.f k l0 a1).bind fun t1029 => ((impl_IsShape.f k t1029).bind fun t1032 => (if t1032 = true then (some (t1029, 0)) else (some (([] : List (S59)), 3))))) else (some (([] : List (S59)), 2)))) = some (r1, r2) := by rw [if_pos rfl] at H; exact H
 clear H
 have H := H1
 clear H1
 replace H := Option.bind_eq_some_iff.mp H
 obtain ⟨t1028, A50, H⟩ := H
 replace H : (if t1028 = true then ((impl_hexForm.f k l0 a1).bind fun t1029 => ((impl_IsShape.f k t1029).bind fun t1032 => (if t1032 = true then (some (t1029, 0)) else (some (([] : List (S59)), 3))))) else (some (([] : List (S59)), 2))) = some (r1, r2) := H
 have A5 := aM A50
 clear A50
 by_cases c6 : t1028 = true
 rotate_left
 ·replace c6 := Bool.eq_false_iff.mpr c6
  subst c6
  have H1 : (some (([] : List (S59)), 2)) = some (r1, r2) := by rw [if_neg (show ¬ (false = true) by decide)] at H; exact H
  clear H
  have H := H1
  clear H1
  simp only [Option.some.injEq, Prod.mk.injEq] at H
  obtain ⟨rfl, rfl⟩ := H
  go_enter Try.func32, Try.ntmps32
  go_wp2_with (first | ((with_reducible refine gate_callee (f := 40) rfl ?_); refine goesL_ (some 8) rfl rfl Try.func40 (by kernel_rfl) rfl #[.slice A0 l0.length c0] rfl zm ?_; (with_reducible refine (impl_IsShape.calls k _ _ l0 true _ ?side1 ?side2 A3.out).mono ?_); (case side1 => repeat (first | exact HR0.out | (with_reducible refine Kd.C_alloc ?_ _) | (with_reducible refine Kd.C_drewN ?_ _) | (with_reducible refine Kd.C_drew ?_))); (case side2 => exact HC0.out); rintro e w18 ⟨rfl, hb⟩; refine ⟨_, rfl, ?_⟩; have n0_ := aM (below_step zb hb); clear HB; have HB := n0_; clear n0_; (try clear hb); (try clear hb2); (try clear hk); (try clear hi)) | ((with_reducible refine gate_callee (f := 38) rfl ?_); refine goesL_ (some 11) rfl rfl Try.func38 (by kernel_rfl) rfl #[.int .i64 a1] rfl zm ?_; (with_reducible refine (impl_isLatticeTurn.calls a1 false _ A5.out).mono ?_); rintro e w' ⟨rfl, ⟨nd, rfl⟩⟩; refine ⟨_, rfl, ?_⟩))
  go_ret2
  exact ⟨_, zw, by first | exact Kd.R_nil _ _ _ _ _ | exact Kd.N_nil _ _ _ _ _ | exact Kd.V_nil _ _ _ _ _ | exact Kd.Q_nil _ _ _ _ _ | exact Kd.S_nil _ _ _ _ _, zb⟩
 subst c6
 have H1 : ((impl_hexForm.f k l0 a1).bind fun t1029 => ((impl_IsShape.f k t1029).bind fun t1032 => (if t1032 = true then (some (t1029, 0)) else (some (([] : List (S59)), 3))))) = some (r1, r2) := by rw [if_pos rfl] at H; exact H
 clear H
 have H := H1
 clear H1
 replace H := Option.bind_eq_some_iff.mp H
 obtain ⟨t1029, A70, H⟩ := H
 replace H : ((impl_IsShape.f k t1029).bind fun t1032 => (if t1032 = true then (some (t1029, 0)) else (some (([] : List (S59)), 3)))) = some (r1, r2) := H
 have A7 := aM A70
 clear A70
 replace H := Option.bind_eq_some_iff.mp H
 obtain ⟨t1032, A80, H⟩ := H
 replace H : (if t1032 = true then (some (t1029, 0)) else (some (([] : List (S59)), 3))) = some (r1, r2) := H
 have A8 := aM A80
 clear A80
 by_cases c9 : t1032 = true
 ·subst c9
  have H1 : (some (t1029, 0)) = some (r1, r2) := by rw [if_pos rfl] at H; exact H
  clear H
  have H := H1
  clear H1
  simp only [Option.some.injEq, Prod.mk.injEq] at H
  obtain ⟨rfl, rfl⟩ := H
  go_enter Try.func32, Try.ntmps32
  go_wp2_with (first | ((with_reducible refine gate_callee (f := 40) rfl ?_); refine goesL_ (some 8) rfl rfl Try.func40 (by kernel_rfl) rfl #[.slice A0 l0.length c0] rfl zm ?_; (with_reducible refine (impl_IsShape.calls k _ _ l0 true _ ?side1 ?side2 A3.out).mono ?_); (case side1 => repeat (first | exact HR0.out | (with_reducible refine Kd.C_alloc ?_ _) | (with_reducible refine Kd.C_drewN ?_ _) | (with_reducible refine Kd.C_drew ?_))); (case side2 => exact HC0.out); rintro e w10 ⟨rfl, hb⟩; refine ⟨_, rfl, ?_⟩; have n0_ := aM (below_step zb hb); clear HB; have HB := n0_; clear n0_; (try clear hb); (try clear hb2); (try clear hk); (try clear hi)) | ((with_reducible refine gate_callee (f := 38) rfl ?_); refine goesL_ (some 11) rfl rfl Try.func38 (by kernel_rfl) rfl #[.int .i64 a1] rfl zm ?_; (with_reducible refine (impl_isLatticeTurn.calls a1 true _ A5.out).mono ?_); rintro e w' ⟨rfl, ⟨nd, rfl⟩⟩; refine ⟨_, rfl, ?_⟩) | ((with_reducible refine gate_callee (f := 55) rfl ?_); refine goesL_ (some 15) rfl rfl Try.func55 (by kernel_rfl) rfl #[.slice A0 l0.length c0, .int .i64 a1] rfl zm ?_; (with_reducible refine (impl_hexForm.calls k _ _ l0 a1 t1029 _ ?side1 ?side2 A7.out).mono ?_); (case side1 => repeat (first | exact (Kd.C_below HR0.out zb) | (with_reducible refine Kd.C_alloc ?_ _) | (with_reducible refine Kd.C_drewN ?_ _) | (with_reducible refine Kd.C_drew ?_))); (case side2 => exact HC0.out); rintro e w11 ⟨v1030, rfl, ho0, hb⟩; refine ⟨_, rfl, ?_⟩; have n0_ := aM (Kd.R_lower ho0 (below_size zb)); have n1_ := aM (below_step zb hb); clear HB; have HO1031 := n0_; have HB := n1_; clear n0_ n1_; (try clear hb); (try clear hb2); (try clear hk); (try clear hi); (try clear ho0); obtain ⟨Ao12, co12, eo12⟩ := Kd.R_slice HO1031.out; subst eo12) | ((with_reducible refine gate_callee (f := 40) rfl ?_); refine goesL_ (some 17) rfl rfl Try.func40 (by kernel_rfl) rfl #[.slice Ao12 t1029.length co12] rfl zm ?_; (with_reducible refine (impl_IsShape.calls k _ _ t1029 true _ ?side1 ?side2 A8.out).mono ?_); (case side1 => exact zc HO1031.out); (case side2 => exact (Kd.R_reads' HO1031.out).2.1); rintro e w13 ⟨rfl, hb⟩; refine ⟨_, rfl, ?_⟩; have n0_ := aM (Kd.R_below (mR_ HO1031.out) hb); have n1_ := aM (below_step zb hb); clear HO1031 HB; have HO1031 := n0_; have HB := n1_; clear n0_ n1_; (try clear hb); (try clear hb2); (try clear hk); (try clear hi)))
  go_ret2
  exact ⟨_, zw, mR_ HO1031.out, zb⟩
 replace c9 := Bool.eq_false_iff.mpr c9
 subst c9
 have H1 : (some (([] : List (S59)), 3)) = some (r1, r2) := by rw [if_neg (show ¬ (false = true) by decide)] at H; exact H
 clear H
 have H := H1
 clear H1
 simp only [Option.some.injEq, Prod.mk.injEq] at H
 obtain ⟨rfl, rfl⟩ := H
 go_enter Try.func32, Try.ntmps32
 go_wp2_with (first | ((with_reducible refine gate_callee (f := 40) rfl ?_); refine goesL_ (some 8) rfl rfl Try.func40 (by kernel_rfl) rfl #[.slice A0 l0.length c0] rfl zm ?_; (with_reducible refine (impl_IsShape.calls k _ _ l0 true _ ?side1 ?side2 A3.out).mono ?_); (case side1 => repeat (first | exact HR0.out | (with_reducible refine Kd.C_alloc ?_ _) | (with_reducible refine Kd.C_drewN ?_ _) | (with_reducible refine Kd.C_drew ?_))); (case side2 => exact HC0.out); rintro e w14 ⟨rfl, hb⟩; refine ⟨_, rfl, ?_⟩; have n0_ := aM (below_step zb hb); clear HB; have HB := n0_; clear n0_; (try clear hb); (try clear hb2); (try clear hk); (try clear hi)) | ((with_reducible refine gate_callee (f := 38) rfl ?_); refine goesL_ (some 11) rfl rfl Try.func38 (by kernel_rfl) rfl #[.int .i64 a1] rfl zm ?_; (with_reducible refine (impl_isLatticeTurn.calls a1 true _ A5.out).mono ?_); rintro e w' ⟨rfl, ⟨nd, rfl⟩⟩; refine ⟨_, rfl, ?_⟩) | ((with_reducible refine gate_callee (f := 55) rfl ?_); refine goesL_ (some 15) rfl rfl Try.func55 (by kernel_rfl) rfl #[.slice A0 l0.length c0, .int .i64 a1] rfl zm ?_; (with_reducible refine (impl_hexForm.calls k _ _ l0 a1 t1029 _ ?side1 ?side2 A7.out).mono ?_); (case side1 => repeat (first | exact (Kd.C_below HR0.out zb) | (with_reducible refine Kd.C_alloc ?_ _) | (with_reducible refine Kd.C_drewN ?_ _) | (with_reducible refine Kd.C_drew ?_))); (case side2 => exact HC0.out); rintro e w15 ⟨v1030, rfl, ho0, hb⟩; refine ⟨_, rfl, ?_⟩; have n0_ := aM (Kd.R_lower ho0 (below_size zb)); have n1_ := aM (below_step zb hb); clear HB; have HO1031 := n0_; have HB := n1_; clear n0_ n1_; (try clear hb); (try clear hb2); (try clear hk); (try clear hi); (try clear ho0); obtain ⟨Ao16, co16, eo16⟩ := Kd.R_slice HO1031.out; subst eo16) | ((with_reducible refine gate_callee (f := 40) rfl ?_); refine goesL_ (some 17) rfl rfl Try.func40 (by kernel_rfl) rfl #[.slice Ao16 t1029.length co16] rfl zm ?_; (with_reducible refine (impl_IsShape.calls k _ _ t1029 false _ ?side1 ?side2 A8.out).mono ?_); (case side1 => exact zc HO1031.out); (case side2 => exact (Kd.R_reads' HO1031.out).2.1); rintro e w17 ⟨rfl, hb⟩; refine ⟨_, rfl, ?_⟩; have n0_ := aM (Kd.R_below (mR_ HO1031.out) hb); have n1_ := aM (below_step zb hb); clear HO1031 HB; have HO1031 := n0_; have HB := n1_; clear n0_ n1_; (try clear hb); (try clear hb2); (try clear hk); (try clear hi)))
 go_ret2
 exact ⟨_, zw, by first | exact Kd.R_nil _ _ _ _ _ | exact Kd.N_nil _ _ _ _ _ | exact Kd.V_nil _ _ _ _ _ | exact Kd.Q_nil _ _ _ _ _ | exact Kd.S_nil _ _ _ _ _, zb⟩
def spec_HexForm.f (k : Nat) (l0 : List (S59)) (a1 : Int) : Option ((List (S59)) × Int) := (spec_l07FormCode.f k 1 l0 a1).bind fun bt1033 => (some (bt1033.1, bt1033.2))
theorem spec_HexForm.calls (k : Nat) (A0 : Option Addr) (c0 : Nat) (l0 : List (S59)) (a1 : Int) (r1 : List (S59)) (r2 : Int) (w : World) (hr0 : Kd.C k59 w A0 l0.length l0) (hc0 : l0.length ≤ c0) (h : spec_HexForm.f k l0 a1 = some (r1, r2)) :
  Calls Try.prog 33 #[.slice A0 l0.length c0, .int .i64 a1] w fun e w' => ∃ v0_ : Value, e = .returned (.tuple #[v0_, .int .i64 r2]) ∧ Kd.R k59 59 w' w.heap.size (fun _ => True) v0_ r1 ∧ Below w.heap.size w w' := by
 have HR0 := aM hr0
 have HC0 := aM hc0
 clear hr0 hc0
 have HB := aM (Below.refl w.heap.size w)
 have H : ((spec_l07FormCode.f k 1 l0 a1).bind fun bt1033 => (some (bt1033.1, bt1033.2))) = some (r1, r2) := h
 clear h
 replace H := Option.bind_eq_some_iff.mp H
 obtain ⟨⟨t1033, t1034⟩, A30, H⟩ := H
 replace H : (some (t1033, t1034)) = some (r1, r2) := H
 have A3 := aM A30
 clear A30
 simp only [Option.some.injEq, Prod.mk.injEq] at H
 obtain ⟨rfl, rfl⟩ := H
 go_enter Try.func33, Try.ntmps33
 go_wp2_with (first | ((with_reducible refine gate_callee (f := 41) rfl ?_); refine goesL_ (some 8) rfl rfl Try.func41 (by kernel_rfl) rfl #[.int .i64 1, .slice A0 l0.length c0, .int .i64 a1] rfl zm ?_; (with_reducible refine (spec_l07FormCode.calls k 1 _ _ l0 a1 t1033 t1034 _ ?side1 ?side2 A3.out).mono ?_); (case side1 => repeat (first | exact HR0.out | (with_reducible refine Kd.C_alloc ?_ _) | (with_reducible refine Kd.C_drewN ?_ _) | (with_reducible refine Kd.C_drew ?_))); (case side2 => exact HC0.out); rintro e w4 ⟨v1035, rfl, ho0, hb⟩; refine ⟨_, rfl, ?_⟩; have n0_ := aM (Kd.R_lower ho0 (below_size zb)); have n1_ := aM (below_step zb hb); clear HB; have HO1036 := n0_; have HB := n1_; clear n0_ n1_; (try clear hb); (try clear hb2); (try clear hk); (try clear hi); (try clear ho0)))
 go_ret2
 exact ⟨_, zw, mR_ HO1036.out, zb⟩
mutual
def laws_FnHexForms.j0 : Nat → List (S59) → List Int → Int → Bool → Option (Bool)
 | 0, _, _, _, _ => none
 | k + 1, x3, x4, x5, x70 => if x70 = true then (some false) else (if x5 = 0 then (laws_FnHexForms.l0 k x3 x4 (([] : List (List (S59)))) 0) else (some true))
def laws_FnHexForms.l0 : Nat → List (S59) → List Int → List (List (S59)) → Int → Option (Bool)
 | 0, _, _, _, _ => none
 | k + 1, x3, x4, x12, x13 => if x13 < 12 then ((impl_HexForm.f k x3 x13).bind fun bt1064 => ((spec_HexForm.f k x3 x13).bind fun bt1068 => (if bt1064.2 = bt1068.2 then ((laws_likeCells.f k bt1064.1 bt1068.1).bind fun t1072 => (if t1072 = true then ((impl_IsHexConnected.f k bt1064.1).bind fun t1073 => ((impl_IsHexConnected.f k x3).bind fun t1074 => (laws_FnHexForms.j2 k x3 x4 x12 x13 bt1064.1 (t1073 != t1074)))) else (laws_FnHexForms.j2 k x3 x4 x12 x13 bt1064.1 true))) else (laws_FnHexForms.j2 k x3 x4 x12 x13 bt1064.1 true)))) else (some ((wrap64 ((x12.length : Int) * (x4.length : Int))) == 12))
def laws_FnHexForms.j2 : Nat → List (S59) → List Int → List (List (S59)) → Int → List (S59) → Bool → Option (Bool)
 | 0, _, _, _, _, _, _ => none
 | k + 1, x3, x4, x12, x13, x14, x105 => if x105 = true then (some false) else (laws_FnHexForms.l1 k x3 x4 x12 x13 x14 false 0)
def laws_FnHexForms.l1 : Nat → List (S59) → List Int → List (List (S59)) → Int → List (S59) → Bool → Int → Option (Bool)
 | 0, _, _, _, _, _, _, _ => none
 | k + 1, x3, x4, x12, x13, x14, x18, x19 => if x19 < (x12.length : Int) then (if x18 = true then (laws_FnHexForms.l1 k x3 x4 x12 x13 x14 true (wrap64 (x19 + 1))) else (if 0 ≤ x19 then ((laws_likeCells.f k (rd_L2 x12 x19) x14).bind fun t1076 => (laws_FnHexForms.l1 k x3 x4 x12 x13 x14 t1076 (wrap64 (x19 + 1)))) else (none))) else (if x18 = true then (laws_FnHexForms.l0 k x3 x4 x12 (wrap64 (x13 + 1))) else (if x12.length < 5864062014805 then (laws_FnHexForms.l0 k x3 x4 (x12 ++ [x14]) (wrap64 (x13 + 1))) else (none)))
end
def laws_FnHexForms.f (k : Nat) (l0 : List Int) : Option (Bool) := (laws_big.f l0).bind fun t1037 => (if t1037 = true then (some true) else ((spec_DrawHexSymmetries.f k l0).bind fun t1038 => ((impl_HexSymmetries.f k t1038).bind fun bt1041 => ((spec_HexSymmetries.f k t1038).bind fun bt1045 => ((impl_HexFree.f k t1038).bind fun bt1049 => ((spec_HexFree.f k t1038).bind fun bt1053 => (if bt1041.2 = bt1045.2 then ((laws_likeInts.f k bt1041.1 bt1045.1).bind fun t1057 => (if t1057 = true then (if bt1049.2 = bt1053.2 then ((laws_likeCells.f k bt1049.1 bt1053.1).bind fun t1058 => (if t1058 = true then ((impl_IsHexConnected.f k t1038).bind fun t1059 => ((spec_IsHexConnected.f k t1038).bind fun t1060 => (laws_FnHexForms.j0 k t1038 bt1041.1 bt1041.2 (t1059 != t1060)))) else (laws_FnHexForms.j0 k t1038 bt1041.1 bt1041.2 true))) else (laws_FnHexForms.j0 k t1038 bt1041.1 bt1041.2 true)) else (laws_FnHexForms.j0 k t1038 bt1041.1 bt1041.2 true))) else (laws_FnHexForms.j0 k t1038 bt1041.1 bt1041.2 true))))))))
theorem laws_FnHexForms.calls (k : Nat) (A0 : Option Addr) (c0 : Nat) (l0 : List Int) (r : Bool) (w : World) (hr0 : Kd.C (Kd.int .u8) w A0 l0.length l0) (hc0 : l0.length ≤ c0) (h : laws_FnHexForms.f k l0 = some r) :
  Calls Try.prog 6 #[.slice A0 l0.length c0] w fun e w' => e = .returned (.bool r) ∧ Below w.heap.size w w' := by
 have HR0 := aM hr0
 have HC0 := aM hc0
 clear hr0 hc0
 have HB := aM (Below.refl w.heap.size w)
 have H : ((laws_big.f l0).bind fun t1037 => (if t1037 = true then (some true) else ((spec_DrawHexSymmetries.f k l0).bind fun t1038 => ((impl_HexSymmetries.f k t1038).bind fun bt1041 => ((spec_HexSymmetries.f k t1038).bind fun bt1045 => ((impl_HexFree.f k t1038).bind fun bt1049 => ((spec_HexFree.f k t1038).bind fun bt1053 => (if bt1041.2 = bt1045.2 then ((laws_likeInts.f k bt1041.1 bt1045.1).bind fun t1057 => (if t1057 = true then (if bt1049.2 = bt1053.2 then ((laws_likeCells.f k bt1049.1 bt1053.1).bind fun t1058 => (if t1058 = true then ((impl_IsHexConnected.f k t1038).bind fun t1059 => ((spec_IsHexConnected.f k t1038).bind fun t1060 => (laws_FnHexForms.j0 k t1038 bt1041.1 bt1041.2 (t1059 != t1060)))) else (laws_FnHexForms.j0 k t1038 bt1041.1 bt1041.2 true))) else (laws_FnHexForms.j0 k t1038 bt1041.1 bt1041.2 true)) else (laws_FnHexForms.j0 k t1038 bt1041.1 bt1041.2 true))) else (laws_FnHexForms.j0 k t1038 bt1041.1 bt1041.2 true))))))))) = some r := h
 clear h
 replace H := Option.bind_eq_some_iff.mp H
 obtain ⟨t1037, A20, H⟩ := H
 replace H : (if t1037 = true then (some true) else ((spec_DrawHexSymmetries.f k l0).bind fun t1038 => ((impl_HexSymmetries.f k t1038).bind fun bt1041 => ((spec_HexSymmetries.f k t1038).bind fun bt1045 => ((impl_HexFree.f k t1038).bind fun bt1049 => ((spec_HexFree.f k t1038).bind fun bt1053 => (if bt1041.2 = bt1045.2 then ((laws_likeInts.f k bt1041.1 bt1045.1).bind fun t1057 => (if t1057 = true then (if bt1049.2 = bt1053.2 then ((laws_likeCells.f k bt1049.1 bt1053.1).bind fun t1058 => (if t1058 = true then ((impl_IsHexConnected.f k t1038).bind fun t1059 => ((spec_IsHexConnected.f k t1038).bind fun t1060 => (laws_FnHexForms.j0 k t1038 bt1041.1 bt1041.2 (t1059 != t1060)))) else (laws_FnHexForms.j0 k t1038 bt1041.1 bt1041.2 true))) else (laws_FnHexForms.j0 k t1038 bt1041.1 bt1041.2 true)) else (laws_FnHexForms.j0 k t1038 bt1041.1 bt1041.2 true))) else (laws_FnHexForms.j0 k t1038 bt1041.1 bt1041.2 true)))))))) = some r := H
 have A2 := aM A20
 clear A20
 by_cases c3 : t1037 = true
 ·subst c3
  have H1 : (some true) = some r := by rw [if_pos rfl] at H; exact H
  clear H
  have H := H1
  clear H1
  obtain rfl := Option.some.inj H
  go_enter Try.func6, Try.ntmps6
  go_wp2_with (first | ((with_reducible refine gate_callee (f := 7) rfl ?_); refine goesL_ (some 21) rfl rfl Try.func7 (by kernel_rfl) rfl #[.slice A0 l0.length c0] rfl zm ?_; (with_reducible refine (laws_big.calls _ _ l0 true _ ?side1 ?side2 A2.out).mono ?_); (case side1 => repeat (first | exact HR0.out | (with_reducible refine Kd.C_alloc ?_ _) | (with_reducible refine Kd.C_drewN ?_ _) | (with_reducible refine Kd.C_drew ?_))); (case side2 => exact HC0.out); rintro e w' ⟨rfl, ⟨nd, rfl⟩⟩; refine ⟨_, rfl, ?_⟩))
  go_ret
  exact ⟨zw, zb⟩
 replace c3 := Bool.eq_false_iff.mpr c3
 subst c3
 have H1 : ((spec_DrawHexSymmetries.f k l0).bind fun t1038 => ((impl_HexSymmetries.f k t1038).bind fun bt1041 => ((spec_HexSymmetries.f k t1038).bind fun bt1045 => ((impl_HexFree.f k t1038).bind fun bt1049 => ((spec_HexFree.f k t1038).bind fun bt1053 => (if bt1041.2 = bt1045.2 then ((laws_likeInts.f k bt1041.1 bt1045.1).bind fun t1057 => (if t1057 = true then (if bt1049.2 = bt1053.2 then ((laws_likeCells.f k bt1049.1 bt1053.1).bind fun t1058 => (if t1058 = true then ((impl_IsHexConnected.f k t1038).bind fun t1059 => ((spec_IsHexConnected.f k t1038).bind fun t1060 => (laws_FnHexForms.j0 k t1038 bt1041.1 bt1041.2 (t1059 != t1060)))) else (laws_FnHexForms.j0 k t1038 bt1041.1 bt1041.2 true))) else (laws_FnHexForms.j0 k t1038 bt1041.1 bt1041.2 true)) else (laws_FnHexForms.j0 k t1038 bt1041.1 bt1041.2 true))) else (laws_FnHexForms.j0 k t1038 bt1041.1 bt1041.2 true))))))) = some r := by rw [if_neg (show ¬ (false = true) by decide)] at H; exact H
 clear H
 have H := H1
 clear H1
 replace H := Option.bind_eq_some_iff.mp H
 obtain ⟨t1038, A40, H⟩ := H
 replace H : ((impl_HexSymmetries.f k t1038).bind fun bt1041 => ((spec_HexSymmetries.f k t1038).bind fun bt1045 => ((impl_HexFree.f k t1038).bind fun bt1049 => ((spec_HexFree.f k t1038).bind fun bt1053 => (if bt1041.2 = bt1045.2 then ((laws_likeInts.f k bt1041.1 bt1045.1).bind fun t1057 => (if t1057 = true then (if bt1049.2 = bt1053.2 then ((laws_likeCells.f k bt1049.1 bt1053.1).bind fun t1058 => (if t1058 = true then ((impl_IsHexConnected.f k t1038).bind fun t1059 => ((spec_IsHexConnected.f k t1038).bind fun t1060 => (laws_FnHexForms.j0 k t1038 bt1041.1 bt1041.2 (t1059 != t1060)))) else (laws_FnHexForms.j0 k t1038 bt1041.1 bt1041.2 true))) else (laws_FnHexForms.j0 k t1038 bt1041.1 bt1041.2 true)) else (laws_FnHexForms.j0 k t1038 bt1041.1 bt1041.2 true))) else (laws_FnHexForms.j0 k t1038 bt1041.1 bt1041.2 true)))))) = some r := H
 have A4 := aM A40
 clear A40
 replace H := Option.bind_eq_some_iff.mp H
 obtain ⟨⟨t1041, t1042⟩, A50, H⟩ := H
 replace H : ((spec_HexSymmetries.f k t1038).bind fun bt1045 => ((impl_HexFree.f k t1038).bind fun bt1049 => ((spec_HexFree.f k t1038).bind fun bt1053 => (if t1042 = bt1045.2 then ((laws_likeInts.f k t1041 bt1045.1).bind fun t1057 => (if t1057 = true then (if bt1049.2 = bt1053.2 then ((laws_likeCells.f k bt1049.1 bt1053.1).bind fun t1058 => (if t1058 = true then ((impl_IsHexConnected.f k t1038).bind fun t1059 => ((spec_IsHexConnected.f k t1038).bind fun t1060 => (laws_FnHexForms.j0 k t1038 t1041 t1042 (t1059 != t1060)))) else (laws_FnHexForms.j0 k t1038 t1041 t1042 true))) else (laws_FnHexForms.j0 k t1038 t1041 t1042 true)) else (laws_FnHexForms.j0 k t1038 t1041 t1042 true))) else (laws_FnHexForms.j0 k t1038 t1041 t1042 true))))) = some r := H
 have A5 := aM A50
 clear A50
 replace H := Option.bind_eq_some_iff.mp H
 obtain ⟨⟨t1045, t1046⟩, A60, H⟩ := H
 replace H : ((impl_HexFree.f k t1038).bind fun bt1049 => ((spec_HexFree.f k t1038).bind fun bt1053 => (if t1042 = t1046 then ((laws_likeInts.f k t1041 t1045).bind fun t1057 => (if t1057 = true then (if bt1049.2 = bt1053.2 then ((laws_likeCells.f k bt1049.1 bt1053.1).bind fun t1058 => (if t1058 = true then ((impl_IsHexConnected.f k t1038).bind fun t1059 => ((spec_IsHexConnected.f k t1038).bind fun t1060 => (laws_FnHexForms.j0 k t1038 t1041 t1042 (t1059 != t1060)))) else (laws_FnHexForms.j0 k t1038 t1041 t1042 true))) else (laws_FnHexForms.j0 k t1038 t1041 t1042 true)) else (laws_FnHexForms.j0 k t1038 t1041 t1042 true))) else (laws_FnHexForms.j0 k t1038 t1041 t1042 true)))) = some r := H
 have A6 := aM A60
 clear A60
 replace H := Option.bind_eq_some_iff.mp H
 obtain ⟨⟨t1049, t1050⟩, A70, H⟩ := H
 replace H : ((spec_HexFree.f k t1038).bind fun bt1053 => (if t1042 = t1046 then ((laws_likeInts.f k t1041 t1045).bind fun t1057 => (if t1057 = true then (if t1050 = bt1053.2 then ((laws_likeCells.f k t1049 bt1053.1).bind fun t1058 => (if t1058 = true then ((impl_IsHexConnected.f k t1038).bind fun t1059 => ((spec_IsHexConnected.f k t1038).bind fun t1060 => (laws_FnHexForms.j0 k t1038 t1041 t1042 (t1059 != t1060)))) else (laws_FnHexForms.j0 k t1038 t1041 t1042 true))) else (laws_FnHexForms.j0 k t1038 t1041 t1042 true)) else (laws_FnHexForms.j0 k t1038 t1041 t1042 true))) else (laws_FnHexForms.j0 k t1038 t1041 t1042 true))) = some r := H
 have A7 := aM A70
 clear A70
 replace H := Option.bind_eq_some_iff.mp H
 obtain ⟨⟨t1053, t1054⟩, A80, H⟩ := H
 replace H : (if t1042 = t1046 then ((laws_likeInts.f k t1041 t1045).bind fun t1057 => (if t1057 = true then (if t1050 = t1054 then ((laws_likeCells.f k t1049 t1053).bind fun t1058 => (if t1058 = true then ((impl_IsHexConnected.f k t1038).bind fun t1059 => ((spec_IsHexConnected.f k t1038).bind fun t1060 => (laws_FnHexForms.j0 k t1038 t1041 t1042 (t1059 != t1060)))) else (laws_FnHexForms.j0 k t1038 t1041 t1042 true))) else (laws_FnHexForms.j0 k t1038 t1041 t1042 true)) else (laws_FnHexForms.j0 k t1038 t1041 t1042 true))) else (laws_FnHexForms.j0 k t1038 t1041 t1042 true)) = some r := H
 have A8 := aM A80
 clear A80
 have HC9 := aM H
 clear H
 go_enter Try.func6, Try.ntmps6
 go_upto_region 8 with (first | ((with_reducible refine gate_callee (f := 7) rfl ?_); refine goesL_ (some 21) rfl rfl Try.func7 (by kernel_rfl) rfl #[.slice A0 l0.length c0] rfl zm ?_; (with_reducible refine (laws_big.calls _ _ l0 false _ ?side1 ?side2 A2.out).mono ?_); (case side1 => repeat (first | exact HR0.out | (with_reducible refine Kd.C_alloc ?_ _) | (with_reducible refine Kd.C_drewN ?_ _) | (with_reducible refine Kd.C_drew ?_))); (case side2 => exact HC0.out); rintro e w' ⟨rfl, ⟨nd, rfl⟩⟩; refine ⟨_, rfl, ?_⟩) | ((with_reducible refine gate_callee (f := 24) rfl ?_); refine goesL_ (some 23) rfl rfl Try.func24 (by kernel_rfl) rfl #[.slice A0 l0.length c0] rfl zm ?_; (with_reducible refine (spec_DrawHexSymmetries.calls k _ _ l0 t1038 _ ?side1 ?side2 A4.out).mono ?_); (case side1 => repeat (first | exact HR0.out | (with_reducible refine Kd.C_alloc ?_ _) | (with_reducible refine Kd.C_drewN ?_ _) | (with_reducible refine Kd.C_drew ?_))); (case side2 => exact HC0.out); rintro e w10 ⟨v1039, rfl, ho0, hb⟩; refine ⟨_, rfl, ?_⟩; have n0_ := aM (Kd.R_lower ho0 (below_size zb)); have n1_ := aM (below_step zb hb); clear HB; have HO1040 := n0_; have HB := n1_; clear n0_ n1_; (try clear hb); (try clear hb2); (try clear hk); (try clear hi); (try clear ho0); obtain ⟨Ao11, co11, eo11⟩ := Kd.R_slice HO1040.out; subst eo11) | ((with_reducible refine gate_callee (f := 25) rfl ?_); refine goesL_ (some 26) rfl rfl Try.func25 (by kernel_rfl) rfl #[.slice Ao11 t1038.length co11] rfl zm ?_; (with_reducible refine (impl_HexSymmetries.calls k _ _ t1038 t1041 t1042 _ ?side1 ?side2 A5.out).mono ?_); (case side1 => exact zc HO1040.out); (case side2 => exact (Kd.R_reads' HO1040.out).2.1); rintro e w12 ⟨v1043, rfl, ho0, hb⟩; refine ⟨_, rfl, ?_⟩; have n0_ := aM (Kd.R_below (mR_ HO1040.out) hb); have n1_ := aM (Kd.R_lower ho0 (below_size zb)); have n2_ := aM (below_step zb hb); clear HO1040 HB; have HO1040 := n0_; have HO1044 := n1_; have HB := n2_; clear n0_ n1_ n2_; (try clear hb); (try clear hb2); (try clear hk); (try clear hi); (try clear ho0)) | ((with_reducible refine gate_callee (f := 26) rfl ?_); refine goesL_ (some 31) rfl rfl Try.func26 (by kernel_rfl) rfl #[.slice Ao11 t1038.length co11] rfl zm ?_; (with_reducible refine (spec_HexSymmetries.calls k _ _ t1038 t1045 t1046 _ ?side1 ?side2 A6.out).mono ?_); (case side1 => exact zc HO1040.out); (case side2 => exact (Kd.R_reads' HO1040.out).2.1); rintro e w13 ⟨v1047, rfl, ho0, hb⟩; refine ⟨_, rfl, ?_⟩; have n0_ := aM (Kd.R_below (mR_ HO1040.out) hb); have n1_ := aM (Kd.R_elder' (mR_ HO1044.out) (Kd.R_base ho0) hb); have n2_ := aM (Kd.R_lower (Kd.R_new' ho0 (Kd.R_lt (mR_ HO1044.out))) (below_size zb)); have n3_ := aM (below_step zb hb); clear HO1040 HO1044 HB; have HO1040 := n0_; have HO1044 := n1_; have HO1048 := n2_; have HB := n3_; clear n0_ n1_ n2_ n3_; (try clear hb); (try clear hb2); (try clear hk); (try clear hi); (try clear ho0)) | ((with_reducible refine gate_callee (f := 27) rfl ?_); refine goesL_ (some 36) rfl rfl Try.func27 (by kernel_rfl) rfl #[.slice Ao11 t1038.length co11] rfl zm ?_; (with_reducible refine (impl_HexFree.calls k _ _ t1038 t1049 t1050 _ ?side1 ?side2 A7.out).mono ?_); (case side1 => exact zc HO1040.out); (case side2 => exact (Kd.R_reads' HO1040.out).2.1); rintro e w14 ⟨v1051, rfl, ho0, hb⟩; refine ⟨_, rfl, ?_⟩; have n0_ := aM (Kd.R_elder' (mR_ HO1040.out) (Kd.R_base ho0) hb); have n1_ := aM (Kd.R_below (mR_ HO1044.out) hb); have n2_ := aM (Kd.R_below (mR_ HO1048.out) hb); have n3_ := aM (Kd.R_lower (Kd.R_new' ho0 (Kd.R_lt (mR_ HO1040.out))) (below_size zb)); have n4_ := aM (below_step zb hb); clear HO1040 HO1044 HO1048 HB; have HO1040 := n0_; have HO1044 := n1_; have HO1048 := n2_; have HO1052 := n3_; have HB := n4_; clear n0_ n1_ n2_ n3_ n4_; (try clear hb); (try clear hb2); (try clear hk); (try clear hi); (try clear ho0)) | ((with_reducible refine gate_callee (f := 28) rfl ?_); refine goesL_ (some 41) rfl rfl Try.func28 (by kernel_rfl) rfl #[.slice Ao11 t1038.length co11] rfl zm ?_; (with_reducible refine (spec_HexFree.calls k _ _ t1038 t1053 t1054 _ ?side1 ?side2 A8.out).mono ?_); (case side1 => exact zc HO1040.out); (case side2 => exact (Kd.R_reads' HO1040.out).2.1); rintro e w15 ⟨v1055, rfl, ho0, hb⟩; refine ⟨_, rfl, ?_⟩; have n0_ := aM (Kd.R_elder' (mR_ HO1040.out) (Kd.R_base ho0) hb); have n1_ := aM (Kd.R_below (mR_ HO1044.out) hb); have n2_ := aM (Kd.R_below (mR_ HO1048.out) hb); have n3_ := aM (Kd.R_elder' (mR_ HO1052.out) (Kd.R_base ho0) hb); have n4_ := aM (Kd.R_lower (Kd.R_new' (Kd.R_new' ho0 (Kd.R_lt (mR_ HO1040.out))) (Kd.R_lt (mR_ HO1052.out))) (below_size zb)); have n5_ := aM (below_step zb hb); clear HO1040 HO1044 HO1048 HO1052 HB; have HO1040 := n0_; have HO1044 := n1_; have HO1048 := n2_; have HO1052 := n3_; have HO1056 := n4_; have HB := n5_; clear n0_ n1_ n2_ n3_ n4_ n5_; (try clear hb); (try clear hb2); (try clear hk); (try clear hi); (try clear ho0)))
 (try simp only [Act.put, xA, xB, xC])
 go_cut [70] (fun v70 wc => ∃ (kq : Nat) (x70_8 : Bool), v70 = .bool x70_8 ∧ Aside0 (laws_FnHexForms.j0 kq t1038 t1041 t1042 x70_8 = some r) ∧ Aside0 (kq ≤ k) ∧ Aside0 (Kd.R k59 59 wc w.heap.size (fun _ => True) (.slice Ao11 t1038.length co11) t1038) ∧ Aside0 (Kd.R (Kd.int .i64) 2 wc w.heap.size (fun _ => True) v1043 t1041) ∧ Aside0 (Below w.heap.size w wc))
 case first =>
  have H := HC9.out
  clear HC9
  by_cases c16 : t1042 = t1046
  rotate_left
  ·rw [if_neg c16] at H
   have c16b0 : (t1042 == t1046) = false := beq_eq_false_iff_ne.mpr c16
   have c16b1 : (t1042 != t1046) = true := bne_iff_ne.mpr c16
   (first | rw [c16b0] | (simp only [i64_w, i32_w]; rw [c16b0]) | skip)
   have H' := aM H
   clear H
   go_wp2
   go_meet
   case rel => exact ⟨_, (true), zr, H', ⟨by first | omega | exact Nat.le_refl _⟩, ⟨zd0 HO1040.out⟩, ⟨zd0 HO1044.out⟩, ⟨zb⟩⟩
  rw [if_pos c16] at H
  have c16b0 : (t1042 == t1046) = true := beq_iff_eq.mpr c16
  have c16b1 : (t1042 != t1046) = false := bne_eq_false_iff_eq.mpr c16
  clear c16
  (first | rw [c16b0] | (simp only [i64_w, i32_w]; rw [c16b0]) | skip)
  replace H := Option.bind_eq_some_iff.mp H
  obtain ⟨t1057, A170, H⟩ := H
  replace H : (if t1057 = true then (if t1050 = t1054 then ((laws_likeCells.f k t1049 t1053).bind fun t1058 => (if t1058 = true then ((impl_IsHexConnected.f k t1038).bind fun t1059 => ((spec_IsHexConnected.f k t1038).bind fun t1060 => (laws_FnHexForms.j0 k t1038 t1041 t1042 (t1059 != t1060)))) else (laws_FnHexForms.j0 k t1038 t1041 t1042 true))) else (laws_FnHexForms.j0 k t1038 t1041 t1042 true)) else (laws_FnHexForms.j0 k t1038 t1041 t1042 true)) = some r := H
  have A17 := aM A170
  clear A170
  by_cases c18 : t1057 = true
  rotate_left
  ·replace c18 := Bool.eq_false_iff.mpr c18
   subst c18
   have H1 : (laws_FnHexForms.j0 k t1038 t1041 t1042 true) = some r := by rw [if_neg (show ¬ (false = true) by decide)] at H; exact H
   clear H
   have H := H1
   clear H1
   have H' := aM H
   clear H
   obtain ⟨Ao36, co36, eo36⟩ := Kd.R_slice HO1044.out
   subst eo36
   obtain ⟨Ao37, co37, eo37⟩ := Kd.R_slice HO1048.out
   subst eo37
   go_wp2_with (first | (go_at_call 29; (with_reducible refine (laws_likeInts.calls k _ _ t1041 _ _ t1045 false _ ?side1 ?side2 ?side3 ?side4 A17.out).mono ?_); (case side1 => exact zc HO1044.out); (case side2 => exact (Kd.R_reads' HO1044.out).2.1); (case side3 => exact zc HO1048.out); (case side4 => exact (Kd.R_reads' HO1048.out).2.1); rintro e w' ⟨rfl, ⟨nd, rfl⟩⟩))
   go_meet
   case rel => exact ⟨_, (true), zr, H', ⟨by first | omega | exact Nat.le_refl _⟩, ⟨zd0 HO1040.out⟩, ⟨zd0 HO1044.out⟩, ⟨zb⟩⟩
  subst c18
  have H1 : (if t1050 = t1054 then ((laws_likeCells.f k t1049 t1053).bind fun t1058 => (if t1058 = true then ((impl_IsHexConnected.f k t1038).bind fun t1059 => ((spec_IsHexConnected.f k t1038).bind fun t1060 => (laws_FnHexForms.j0 k t1038 t1041 t1042 (t1059 != t1060)))) else (laws_FnHexForms.j0 k t1038 t1041 t1042 true))) else (laws_FnHexForms.j0 k t1038 t1041 t1042 true)) = some r := by rw [if_pos rfl] at H; exact H
  clear H
  have H := H1
  clear H1
  by_cases c19 : t1050 = t1054
  rotate_left
  ·rw [if_neg c19] at H
   have c19b0 : (t1050 == t1054) = false := beq_eq_false_iff_ne.mpr c19
   have c19b1 : (t1050 != t1054) = true := bne_iff_ne.mpr c19
   have H' := aM H
   clear H
   obtain ⟨Ao34, co34, eo34⟩ := Kd.R_slice HO1044.out
   subst eo34
   obtain ⟨Ao35, co35, eo35⟩ := Kd.R_slice HO1048.out
   subst eo35
   go_wp2_with (first | (go_at_call 29; (with_reducible refine (laws_likeInts.calls k _ _ t1041 _ _ t1045 true _ ?side1 ?side2 ?side3 ?side4 A17.out).mono ?_); (case side1 => exact zc HO1044.out); (case side2 => exact (Kd.R_reads' HO1044.out).2.1); (case side3 => exact zc HO1048.out); (case side4 => exact (Kd.R_reads' HO1048.out).2.1); rintro e w' ⟨rfl, ⟨nd, rfl⟩⟩))
   go_meet
   case rel => exact ⟨_, (true), zr, H', ⟨by first | omega | exact Nat.le_refl _⟩, ⟨zd0 HO1040.out⟩, ⟨zd0 HO1044.out⟩, ⟨zb⟩⟩
  rw [if_pos c19] at H
  have c19b0 : (t1050 == t1054) = true := beq_iff_eq.mpr c19
  have c19b1 : (t1050 != t1054) = false := bne_eq_false_iff_eq.mpr c19
  clear c19
  replace H := Option.bind_eq_some_iff.mp H
  obtain ⟨t1058, A200, H⟩ := H
  replace H : (if t1058 = true then ((impl_IsHexConnected.f k t1038).bind fun t1059 => ((spec_IsHexConnected.f k t1038).bind fun t1060 => (laws_FnHexForms.j0 k t1038 t1041 t1042 (t1059 != t1060)))) else (laws_FnHexForms.j0 k t1038 t1041 t1042 true)) = some r := H
  have A20 := aM A200
  clear A200
  by_cases c21 : t1058 = true
  rotate_left
  ·replace c21 := Bool.eq_false_iff.mpr c21
   subst c21
   have H1 : (laws_FnHexForms.j0 k t1038 t1041 t1042 true) = some r := by rw [if_neg (show ¬ (false = true) by decide)] at H; exact H
   clear H
   have H := H1
   clear H1
   have H' := aM H
   clear H
   obtain ⟨Ao30, co30, eo30⟩ := Kd.R_slice HO1044.out
   subst eo30
   obtain ⟨Ao31, co31, eo31⟩ := Kd.R_slice HO1048.out
   subst eo31
   go_wp2_with (first | (go_at_call 29; (with_reducible refine (laws_likeInts.calls k _ _ t1041 _ _ t1045 true _ ?side1 ?side2 ?side3 ?side4 A17.out).mono ?_); (case side1 => exact zc HO1044.out); (case side2 => exact (Kd.R_reads' HO1044.out).2.1); (case side3 => exact zc HO1048.out); (case side4 => exact (Kd.R_reads' HO1048.out).2.1); rintro e w' ⟨rfl, ⟨nd, rfl⟩⟩; obtain ⟨Ao32, co32, eo32⟩ := Kd.R_slice HO1052.out; subst eo32; obtain ⟨Ao33, co33, eo33⟩ := Kd.R_slice HO1056.out; subst eo33) | (go_at_call 15; (with_reducible refine (laws_likeCells.calls k _ _ t1049 _ _ t1053 false _ ?side1 ?side2 ?side3 ?side4 A20.out).mono ?_); (case side1 => exact zc HO1052.out); (case side2 => exact (Kd.R_reads' HO1052.out).2.1); (case side3 => exact zc HO1056.out); (case side4 => exact (Kd.R_reads' HO1056.out).2.1); rintro e w' ⟨rfl, ⟨nd, rfl⟩⟩))
   go_meet
   case rel => exact ⟨_, (true), zr, H', ⟨by first | omega | exact Nat.le_refl _⟩, ⟨zd0 HO1040.out⟩, ⟨zd0 HO1044.out⟩, ⟨zb⟩⟩
  subst c21
  have H1 : ((impl_IsHexConnected.f k t1038).bind fun t1059 => ((spec_IsHexConnected.f k t1038).bind fun t1060 => (laws_FnHexForms.j0 k t1038 t1041 t1042 (t1059 != t1060)))) = some r := by rw [if_pos rfl] at H; exact H
  clear H
  have H := H1
  clear H1
  replace H := Option.bind_eq_some_iff.mp H
  obtain ⟨t1059, A220, H⟩ := H
  replace H : ((spec_IsHexConnected.f k t1038).bind fun t1060 => (laws_FnHexForms.j0 k t1038 t1041 t1042 (t1059 != t1060))) = some r := H
  have A22 := aM A220
  clear A220
  replace H := Option.bind_eq_some_iff.mp H
  obtain ⟨t1060, A230, H⟩ := H
  replace H : (laws_FnHexForms.j0 k t1038 t1041 t1042 (t1059 != t1060)) = some r := H
  have A23 := aM A230
  clear A230
  have H' := aM H
  clear H
  obtain ⟨Ao24, co24, eo24⟩ := Kd.R_slice HO1044.out
  subst eo24
  obtain ⟨Ao25, co25, eo25⟩ := Kd.R_slice HO1048.out
  subst eo25
  go_wp2_with (first | (go_at_call 29; (with_reducible refine (laws_likeInts.calls k _ _ t1041 _ _ t1045 true _ ?side1 ?side2 ?side3 ?side4 A17.out).mono ?_); (case side1 => exact zc HO1044.out); (case side2 => exact (Kd.R_reads' HO1044.out).2.1); (case side3 => exact zc HO1048.out); (case side4 => exact (Kd.R_reads' HO1048.out).2.1); rintro e w' ⟨rfl, ⟨nd, rfl⟩⟩; obtain ⟨Ao26, co26, eo26⟩ := Kd.R_slice HO1052.out; subst eo26; obtain ⟨Ao27, co27, eo27⟩ := Kd.R_slice HO1056.out; subst eo27) | (go_at_call 15; (with_reducible refine (laws_likeCells.calls k _ _ t1049 _ _ t1053 true _ ?side1 ?side2 ?side3 ?side4 A20.out).mono ?_); (case side1 => exact zc HO1052.out); (case side2 => exact (Kd.R_reads' HO1052.out).2.1); (case side3 => exact zc HO1056.out); (case side4 => exact (Kd.R_reads' HO1056.out).2.1); rintro e w' ⟨rfl, ⟨nd, rfl⟩⟩) | (go_at_call 30; (with_reducible refine (impl_IsHexConnected.calls k _ _ t1038 t1059 _ ?side1 ?side2 A22.out).mono ?_); (case side1 => exact zc HO1040.out); (case side2 => exact (Kd.R_reads' HO1040.out).2.1); rintro e w28 ⟨rfl, hb⟩; have n0_ := aM (Kd.R_below (mR_ HO1040.out) hb); have n1_ := aM (Kd.R_below (mR_ HO1044.out) hb); have n2_ := aM (Kd.R_below (mR_ HO1048.out) hb); have n3_ := aM (Kd.R_below (mR_ HO1052.out) hb); have n4_ := aM (Kd.R_below (mR_ HO1056.out) hb); have n5_ := aM (below_step zb hb); clear HO1040 HO1044 HO1048 HO1052 HO1056 HB; have HO1040 := n0_; have HO1044 := n1_; have HO1048 := n2_; have HO1052 := n3_; have HO1056 := n4_; have HB := n5_; clear n0_ n1_ n2_ n3_ n4_ n5_; (try clear hb); (try clear hb2); (try clear hk); (try clear hi)) | (go_at_call 31; (with_reducible refine (spec_IsHexConnected.calls k _ _ t1038 t1060 _ ?side1 ?side2 A23.out).mono ?_); (case side1 => exact zc HO1040.out); (case side2 => exact (Kd.R_reads' HO1040.out).2.1); rintro e w29 ⟨rfl, hb⟩; have n0_ := aM (Kd.R_below (mR_ HO1040.out) hb); have n1_ := aM (Kd.R_below (mR_ HO1044.out) hb); have n2_ := aM (Kd.R_below (mR_ HO1048.out) hb); have n3_ := aM (Kd.R_below (mR_ HO1052.out) hb); have n4_ := aM (Kd.R_below (mR_ HO1056.out) hb); have n5_ := aM (below_step zb hb); clear HO1040 HO1044 HO1048 HO1052 HO1056 HB; have HO1040 := n0_; have HO1044 := n1_; have HO1048 := n2_; have HO1052 := n3_; have HO1056 := n4_; have HB := n5_; clear n0_ n1_ n2_ n3_ n4_ n5_; (try clear hb); (try clear hb2); (try clear hk); (try clear hi)))
  go_meet
  case rel => exact ⟨_, ((t1059 != t1060)), zr, H', ⟨by first | omega | exact Nat.le_refl _⟩, ⟨zd0 HO1040.out⟩, ⟨zd0 HO1044.out⟩, ⟨zb⟩⟩
 case rest =>
  clear HC9
  try clear c1
  try clear c2
  try clear p2
  try clear c3
  try clear c6
  try clear c7
  try clear c16
  try clear c16b0
  try clear c16b1
  try clear c18
  try clear c19
  try clear c19b0
  try clear c19b1
  try clear c21
  try clear c24
  try clear c25
  try clear c26
  try clear c27
  try clear c28
  obtain ⟨kq, x70_8, rfl, HA, HJ8, HO_3, HO_4, HB⟩ := hcut
  cases kq with
  | zero => exact absurd HA.out (by simp [laws_FnHexForms.j0])
  | succ kj8 =>
   have H := HA.out
   clear HA
   simp only [laws_FnHexForms.j0] at H
   by_cases c38 : x70_8 = true
   ·subst c38
    have H1 : (some false) = some r := by rw [if_pos rfl] at H; exact H
    clear H
    have H := H1
    clear H1
    obtain rfl := Option.some.inj H
    go_wp2
    go_ret
    exact ⟨zw, zb⟩
   replace c38 := Bool.eq_false_iff.mpr c38
   subst c38
   have H1 : (if t1042 = 0 then (laws_FnHexForms.l0 kj8 t1038 t1041 (([] : List (List (S59)))) 0) else (some true)) = some r := by rw [if_neg (show ¬ (false = true) by decide)] at H; exact H
   clear H
   have H := H1
   clear H1
   by_cases c39 : t1042 = 0
   rotate_left
   ·rw [if_neg c39] at H
    have c39b0 : (t1042 == 0) = false := beq_eq_false_iff_ne.mpr c39
    have c39b1 : (t1042 != 0) = true := bne_iff_ne.mpr c39
    obtain rfl := Option.some.inj H
    go_wp2
    go_ret
    exact ⟨zw, zb⟩
   rw [if_pos c39] at H
   have c39b0 : (t1042 == 0) = true := beq_iff_eq.mpr c39
   have c39b1 : (t1042 != 0) = false := bne_eq_false_iff_eq.mpr c39
   clear c39
   obtain ⟨y1061, hy1061⟩ : ∃ y_ : List (List (S59)), y_ = (([] : List (List (S59)))) := ⟨_, rfl⟩
   replace H : (laws_FnHexForms.l0 kj8 t1038 t1041 y1061 0) = some r := zy H hy1061
   have Ny1061 := aM hy1061
   clear hy1061
   have H' := aM H
   clear H
   go_wp2_with (first | ((with_reducible refine gate_dst (N := 73) rfl ?_); refine Kd.S_lit (Kd.slice 59 k59) _ 24 ?hg (N := 73) ?hd (xs := ([] : List (List (S59)))) (inner := []) (ok := fun _ => True) (okp := fun _ => True) ?hr ?hp (fun _ hk => hk) trivial (Below.refl _ _) (Nat.le_refl _) (by simp) ?_; (case hd => rfl); (case hg => rfl); (case hr => first | (go_simp; done) | (go_simp; rfl)); (case hp => exact (Reps.none _ _)); intro v1062 w40 ho41 hb hg_ hnew_; clear hg_ hnew_; (first | rw [← Ny1061.out] at ho41 | (simp only [Int.reduceToNat] at ho41; rw [← Ny1061.out] at ho41)); have n0_ := aM (Kd.R_below (mR_ HO_3.out) hb); have n1_ := aM (Kd.R_below (mR_ HO_4.out) hb); have n2_ := aM (Kd.S_lower (Kd.S_new' ho41 (Kd.R_lt (mR_ HO_3.out))) (below_size zb)); have n3_ := aM (below_step zb hb); clear HO_3 HO_4 HB; have HO_3 := n0_; have HO_4 := n1_; have HO1063 := n2_; have HB := n3_; clear n0_ n1_ n2_ n3_; clear hb ho41))
   go_loopg [12, 13] kj8 (fun kq v12 v13 w' => ∃ (x12_2 : List (List (S59))) (x13_2 : Int), v13 = .int .i64 x13_2 ∧ Aside0 (laws_FnHexForms.l0 kq t1038 t1041 x12_2 x13_2 = some r) ∧ Aside0 (kq ≤ kj8) ∧ Aside0 (Kd.R k59 59 w' w.heap.size (fun _ => True) (.slice Ao11 t1038.length co11) t1038) ∧ Aside0 (Kd.R (Kd.int .i64) 2 w' w.heap.size (fun _ => True) v1043 t1041) ∧ Aside0 (Kd.S (Kd.slice 59 k59) 24 w' w.heap.size (fun k_ => some k_ ≠ ((.slice Ao11 t1038.length co11) : Value).ownBlock) v12 x12_2) ∧ Aside0 (Below w.heap.size w w'))
   case atStart => exact ⟨(y1061), (0), zr, H', ⟨Nat.le_refl _⟩, ⟨mR_ HO_3.out⟩, ⟨mR_ HO_4.out⟩, ⟨zd8 HO1063.out⟩, ⟨zb⟩⟩
   case round =>
    clear H'
    try clear c1
    try clear c2
    try clear p2
    try clear c3
    try clear c6
    try clear c7
    try clear c16
    try clear c16b0
    try clear c16b1
    try clear c18
    try clear c19
    try clear c19b0
    try clear c19b1
    try clear c21
    try clear c24
    try clear c25
    try clear c26
    try clear c27
    try clear c28
    try clear c38
    try clear c39
    try clear c39b0
    try clear c39b1
    try clear p2
    obtain ⟨x12_2, x13_2, rfl, HA, HK2, HO_3, HO_4, HO_12, HB⟩ := hrel
    cases gk with
    | zero => exact absurd HA.out (by simp [laws_FnHexForms.l0])
    | succ k2 =>
     have H := HA.out
     clear HA
     simp only [laws_FnHexForms.l0] at H
     by_cases c42 : x13_2 < 12
     rotate_left
     ·rw [if_neg c42] at H
      have c42b0 : decide (x13_2 < 12) = false := decide_eq_false c42
      clear c42
      obtain rfl := Option.some.inj H
      obtain ⟨Ao73, co73, eo73⟩ := Kd.S_slice HO_12.out
      subst eo73
      obtain ⟨Ao74, co74, eo74⟩ := Kd.R_slice HO_4.out
      subst eo74
      go_wp2
      go_ret
      exact ⟨zw, zb⟩
     rw [if_pos c42] at H
     have c42b0 : decide (x13_2 < 12) = true := decide_eq_true c42
     clear c42
     replace H := Option.bind_eq_some_iff.mp H
     obtain ⟨⟨t1064, t1065⟩, A430, H⟩ := H
     replace H : ((spec_HexForm.f k2 t1038 x13_2).bind fun bt1068 => (if t1065 = bt1068.2 then ((laws_likeCells.f k2 t1064 bt1068.1).bind fun t1072 => (if t1072 = true then ((impl_IsHexConnected.f k2 t1064).bind fun t1073 => ((impl_IsHexConnected.f k2 t1038).bind fun t1074 => (laws_FnHexForms.j2 k2 t1038 t1041 x12_2 x13_2 t1064 (t1073 != t1074)))) else (laws_FnHexForms.j2 k2 t1038 t1041 x12_2 x13_2 t1064 true))) else (laws_FnHexForms.j2 k2 t1038 t1041 x12_2 x13_2 t1064 true))) = some r := H
     have A43 := aM A430
     clear A430
     replace H := Option.bind_eq_some_iff.mp H
     obtain ⟨⟨t1068, t1069⟩, A440, H⟩ := H
     replace H : (if t1065 = t1069 then ((laws_likeCells.f k2 t1064 t1068).bind fun t1072 => (if t1072 = true then ((impl_IsHexConnected.f k2 t1064).bind fun t1073 => ((impl_IsHexConnected.f k2 t1038).bind fun t1074 => (laws_FnHexForms.j2 k2 t1038 t1041 x12_2 x13_2 t1064 (t1073 != t1074)))) else (laws_FnHexForms.j2 k2 t1038 t1041 x12_2 x13_2 t1064 true))) else (laws_FnHexForms.j2 k2 t1038 t1041 x12_2 x13_2 t1064 true)) = some r := H
     have A44 := aM A440
     clear A440
     have HC45 := aM H
     clear H
     go_upto_region 18 with (first | ((with_reducible refine gate_callee (f := 32) rfl ?_); refine goesL_ (some 81) rfl rfl Try.func32 (by kernel_rfl) rfl #[.slice Ao11 t1038.length co11, .int .i64 x13_2] rfl zm ?_; (with_reducible refine (impl_HexForm.calls k2 _ _ t1038 x13_2 t1064 t1065 _ ?side1 ?side2 A43.out).mono ?_); (case side1 => exact zc HO_3.out); (case side2 => exact (Kd.R_reads' HO_3.out).2.1); rintro e w46 ⟨v1066, rfl, ho0, hb⟩; refine ⟨_, rfl, ?_⟩; have n0_ := aM (Kd.R_elder' (mR_ HO_3.out) (Kd.R_base ho0) hb); have n1_ := aM (Kd.R_below (mR_ HO_4.out) hb); have n2_ := aM (Kd.S_elder' (mS_ HO_12.out) (Kd.R_base ho0) hb); have n3_ := aM (Kd.R_lower (Kd.R_new' ho0 (Kd.R_lt (mR_ HO_3.out))) (below_size zb)); have n4_ := aM (below_step zb hb); clear HO_3 HO_4 HO_12 HB; have HO_3 := n0_; have HO_4 := n1_; have HO_12 := n2_; have HO1067 := n3_; have HB := n4_; clear n0_ n1_ n2_ n3_ n4_; (try clear hb); (try clear hb2); (try clear hk); (try clear hi); (try clear ho0)) | ((with_reducible refine gate_callee (f := 33) rfl ?_); refine goesL_ (some 87) rfl rfl Try.func33 (by kernel_rfl) rfl #[.slice Ao11 t1038.length co11, .int .i64 x13_2] rfl zm ?_; (with_reducible refine (spec_HexForm.calls k2 _ _ t1038 x13_2 t1068 t1069 _ ?side1 ?side2 A44.out).mono ?_); (case side1 => exact zc HO_3.out); (case side2 => exact (Kd.R_reads' HO_3.out).2.1); rintro e w47 ⟨v1070, rfl, ho0, hb⟩; refine ⟨_, rfl, ?_⟩; have n0_ := aM (Kd.R_elder' (mR_ HO_3.out) (Kd.R_base ho0) hb); have n1_ := aM (Kd.R_below (mR_ HO_4.out) hb); have n2_ := aM (Kd.S_elder' (mS_ HO_12.out) (Kd.R_base ho0) hb); have n3_ := aM (Kd.R_elder' (mR_ HO1067.out) (Kd.R_base ho0) hb); have n4_ := aM (Kd.R_lower (Kd.R_new' (Kd.R_new' ho0 (Kd.R_lt (mR_ HO_3.out))) (Kd.R_lt (mR_ HO1067.out))) (below_size zb)); have n5_ := aM (below_step zb hb); clear HO_3 HO_4 HO_12 HO1067 HB; have HO_3 := n0_; have HO_4 := n1_; have HO_12 := n2_; have HO1067 := n3_; have HO1071 := n4_; have HB := n5_; clear n0_ n1_ n2_ n3_ n4_ n5_; (try clear hb); (try clear hb2); (try clear hk); (try clear hi); (try clear ho0)))
     (try simp only [Act.put, xA, xB, xC])
     go_cut [105] (fun v105 wc => ∃ (kq : Nat) (x105_44 : Bool), v105 = .bool x105_44 ∧ Aside0 (laws_FnHexForms.j2 kq t1038 t1041 x12_2 x13_2 t1064 x105_44 = some r) ∧ Aside0 (kq ≤ k2) ∧ Aside0 (Kd.R k59 59 wc w.heap.size (fun k_ => some k_ ≠ (v1066 : Value).ownBlock) (.slice Ao11 t1038.length co11) t1038) ∧ Aside0 (Kd.R (Kd.int .i64) 2 wc w.heap.size (fun _ => True) v1043 t1041) ∧ Aside0 (Kd.S (Kd.slice 59 k59) 24 wc w.heap.size (fun k_ => some k_ ≠ ((.slice Ao11 t1038.length co11) : Value).ownBlock ∧ some k_ ≠ (v1066 : Value).ownBlock) u12 x12_2) ∧ Aside0 (Kd.R k59 59 wc w.heap.size (fun k_ => some k_ ≠ ((.slice Ao11 t1038.length co11) : Value).ownBlock) v1066 t1064) ∧ Aside0 (Below w.heap.size w wc))
     case first =>
      have H := HC45.out
      clear HC45
      by_cases c48 : t1065 = t1069
      rotate_left
      ·rw [if_neg c48] at H
       have c48b0 : (t1065 == t1069) = false := beq_eq_false_iff_ne.mpr c48
       have c48b1 : (t1065 != t1069) = true := bne_iff_ne.mpr c48
       (first | rw [c48b0] | (simp only [i64_w, i32_w]; rw [c48b0]) | skip)
       have H' := aM H
       clear H
       go_wp2
       go_meet
       case rel => exact ⟨_, (true), zr, H', ⟨by have := HJ8.out; have := HK2.out; first | omega | exact Nat.le_refl _⟩, ⟨zd7 HO_3.out⟩, ⟨mR_ HO_4.out⟩, ⟨zd9 HO_12.out⟩, ⟨zd7 HO1067.out⟩, ⟨zb⟩⟩
      rw [if_pos c48] at H
      have c48b0 : (t1065 == t1069) = true := beq_iff_eq.mpr c48
      have c48b1 : (t1065 != t1069) = false := bne_eq_false_iff_eq.mpr c48
      clear c48
      (first | rw [c48b0] | (simp only [i64_w, i32_w]; rw [c48b0]) | skip)
      replace H := Option.bind_eq_some_iff.mp H
      obtain ⟨t1072, A490, H⟩ := H
      replace H : (if t1072 = true then ((impl_IsHexConnected.f k2 t1064).bind fun t1073 => ((impl_IsHexConnected.f k2 t1038).bind fun t1074 => (laws_FnHexForms.j2 k2 t1038 t1041 x12_2 x13_2 t1064 (t1073 != t1074)))) else (laws_FnHexForms.j2 k2 t1038 t1041 x12_2 x13_2 t1064 true)) = some r := H
      have A49 := aM A490
      clear A490
      by_cases c50 : t1072 = true
      rotate_left
      ·replace c50 := Bool.eq_false_iff.mpr c50
       subst c50
       have H1 : (laws_FnHexForms.j2 k2 t1038 t1041 x12_2 x13_2 t1064 true) = some r := by rw [if_neg (show ¬ (false = true) by decide)] at H; exact H
       clear H
       have H := H1
       clear H1
       have H' := aM H
       clear H
       obtain ⟨Ao57, co57, eo57⟩ := Kd.R_slice HO1067.out
       subst eo57
       obtain ⟨Ao58, co58, eo58⟩ := Kd.R_slice HO1071.out
       subst eo58
       go_wp2_with (first | (go_at_call 15; (with_reducible refine (laws_likeCells.calls k2 _ _ t1064 _ _ t1068 false _ ?side1 ?side2 ?side3 ?side4 A49.out).mono ?_); (case side1 => exact zc HO1067.out); (case side2 => exact (Kd.R_reads' HO1067.out).2.1); (case side3 => exact zc HO1071.out); (case side4 => exact (Kd.R_reads' HO1071.out).2.1); rintro e w' ⟨rfl, ⟨nd, rfl⟩⟩))
       go_meet
       case rel => exact ⟨_, (true), zr, H', ⟨by have := HJ8.out; have := HK2.out; first | omega | exact Nat.le_refl _⟩, ⟨zd7 HO_3.out⟩, ⟨mR_ HO_4.out⟩, ⟨zd9 HO_12.out⟩, ⟨zd7 HO1067.out⟩, ⟨zb⟩⟩
      subst c50
      have H1 : ((impl_IsHexConnected.f k2 t1064).bind fun t1073 => ((impl_IsHexConnected.f k2 t1038).bind fun t1074 => (laws_FnHexForms.j2 k2 t1038 t1041 x12_2 x13_2 t1064 (t1073 != t1074)))) = some r := by rw [if_pos rfl] at H; exact H
      clear H
      have H := H1
      clear H1
      replace H := Option.bind_eq_some_iff.mp H
      obtain ⟨t1073, A510, H⟩ := H
      replace H : ((impl_IsHexConnected.f k2 t1038).bind fun t1074 => (laws_FnHexForms.j2 k2 t1038 t1041 x12_2 x13_2 t1064 (t1073 != t1074))) = some r := H
      have A51 := aM A510
      clear A510
      replace H := Option.bind_eq_some_iff.mp H
      obtain ⟨t1074, A520, H⟩ := H
      replace H : (laws_FnHexForms.j2 k2 t1038 t1041 x12_2 x13_2 t1064 (t1073 != t1074)) = some r := H
      have A52 := aM A520
      clear A520
      have H' := aM H
      clear H
      obtain ⟨Ao53, co53, eo53⟩ := Kd.R_slice HO1067.out
      subst eo53
      obtain ⟨Ao54, co54, eo54⟩ := Kd.R_slice HO1071.out
      subst eo54
      go_wp2_with (first | (go_at_call 15; (with_reducible refine (laws_likeCells.calls k2 _ _ t1064 _ _ t1068 true _ ?side1 ?side2 ?side3 ?side4 A49.out).mono ?_); (case side1 => exact zc HO1067.out); (case side2 => exact (Kd.R_reads' HO1067.out).2.1); (case side3 => exact zc HO1071.out); (case side4 => exact (Kd.R_reads' HO1071.out).2.1); rintro e w' ⟨rfl, ⟨nd, rfl⟩⟩) | (go_at_call 30; (with_reducible refine (impl_IsHexConnected.calls k2 _ _ t1064 t1073 _ ?side1 ?side2 A51.out).mono ?_); (case side1 => exact zc HO1067.out); (case side2 => exact (Kd.R_reads' HO1067.out).2.1); rintro e w55 ⟨rfl, hb⟩; have n0_ := aM (Kd.R_below (mR_ HO_3.out) hb); have n1_ := aM (Kd.R_below (mR_ HO_4.out) hb); have n2_ := aM (Kd.S_below (mS_ HO_12.out) hb); have n3_ := aM (Kd.R_below (mR_ HO1067.out) hb); have n4_ := aM (Kd.R_below (mR_ HO1071.out) hb); have n5_ := aM (below_step zb hb); clear HO_3 HO_4 HO_12 HO1067 HO1071 HB; have HO_3 := n0_; have HO_4 := n1_; have HO_12 := n2_; have HO1067 := n3_; have HO1071 := n4_; have HB := n5_; clear n0_ n1_ n2_ n3_ n4_ n5_; (try clear hb); (try clear hb2); (try clear hk); (try clear hi)) | (go_at_call 30; (with_reducible refine (impl_IsHexConnected.calls k2 _ _ t1038 t1074 _ ?side1 ?side2 A52.out).mono ?_); (case side1 => exact zc HO_3.out); (case side2 => exact (Kd.R_reads' HO_3.out).2.1); rintro e w56 ⟨rfl, hb⟩; have n0_ := aM (Kd.R_below (mR_ HO_3.out) hb); have n1_ := aM (Kd.R_below (mR_ HO_4.out) hb); have n2_ := aM (Kd.S_below (mS_ HO_12.out) hb); have n3_ := aM (Kd.R_below (mR_ HO1067.out) hb); have n4_ := aM (Kd.R_below (mR_ HO1071.out) hb); have n5_ := aM (below_step zb hb); clear HO_3 HO_4 HO_12 HO1067 HO1071 HB; have HO_3 := n0_; have HO_4 := n1_; have HO_12 := n2_; have HO1067 := n3_; have HO1071 := n4_; have HB := n5_; clear n0_ n1_ n2_ n3_ n4_ n5_; (try clear hb); (try clear hb2); (try clear hk); (try clear hi)))
      go_meet
      case rel => exact ⟨_, ((t1073 != t1074)), zr, H', ⟨by have := HJ8.out; have := HK2.out; first | omega | exact Nat.le_refl _⟩, ⟨zd7 HO_3.out⟩, ⟨mR_ HO_4.out⟩, ⟨zd9 HO_12.out⟩, ⟨zd7 HO1067.out⟩, ⟨zb⟩⟩
     case rest =>
      clear HC45
      try clear c1
      try clear c2
      try clear p2
      try clear c3
      try clear c4
      try clear c5
      try clear c6
      try clear c7
      try clear c16
      try clear c16b0
      try clear c16b1
      try clear c18
      try clear c19
      try clear c19b0
      try clear c19b1
      try clear c21
      try clear c24
      try clear c25
      try clear c26
      try clear c27
      try clear c28
      try clear c32
      try clear c33
      try clear c38
      try clear c39
      try clear c39b0
      try clear c39b1
      try clear c42
      try clear c42b0
      try clear c48
      try clear c48b0
      try clear c48b1
      try clear c50
      try clear p2
      obtain ⟨kq, x105_44, rfl, HA, HJ44, HO_3, HO_4, HO_12, HO_14, HB⟩ := hcut
      cases kq with
      | zero => exact absurd HA.out (by simp [laws_FnHexForms.j2])
      | succ kj44 =>
       have H := HA.out
       clear HA
       simp only [laws_FnHexForms.j2] at H
       by_cases c59 : x105_44 = true
       ·subst c59
        have H1 : (some false) = some r := by rw [if_pos rfl] at H; exact H
        clear H
        have H := H1
        clear H1
        obtain rfl := Option.some.inj H
        go_wp2
        go_ret
        exact ⟨zw, zb⟩
       replace c59 := Bool.eq_false_iff.mpr c59
       subst c59
       have H1 : (laws_FnHexForms.l1 kj44 t1038 t1041 x12_2 x13_2 t1064 false 0) = some r := by rw [if_neg (show ¬ (false = true) by decide)] at H; exact H
       clear H
       have H := H1
       clear H1
       have H' := aM H
       clear H
       go_wp2
       go_loopg [18, 19] kj44 (fun kq v18 v19 w' => ∃ (x18_4 : Bool) (x19_4 : Int), v18 = .bool x18_4 ∧ v19 = .int .i64 x19_4 ∧ Aside0 (laws_FnHexForms.l1 kq t1038 t1041 x12_2 x13_2 t1064 x18_4 x19_4 = some r) ∧ Aside0 (kq ≤ kj44) ∧ Aside0 (Kd.R k59 59 w' w.heap.size (fun k_ => some k_ ≠ (v1066 : Value).ownBlock) (.slice Ao11 t1038.length co11) t1038) ∧ Aside0 (Kd.R (Kd.int .i64) 2 w' w.heap.size (fun _ => True) v1043 t1041) ∧ Aside0 (Kd.S (Kd.slice 59 k59) 24 w' w.heap.size (fun k_ => some k_ ≠ ((.slice Ao11 t1038.length co11) : Value).ownBlock ∧ some k_ ≠ (v1066 : Value).ownBlock) u12 x12_2) ∧ Aside0 (Kd.R k59 59 w' w.heap.size (fun k_ => some k_ ≠ ((.slice Ao11 t1038.length co11) : Value).ownBlock) v1066 t1064) ∧ Aside0 (Below w.heap.size w w'))
       case atStart => exact ⟨(false), (0), zr, zr, H', ⟨Nat.le_refl _⟩, ⟨mR_ HO_3.out⟩, ⟨mR_ HO_4.out⟩, ⟨mS_ HO_12.out⟩, ⟨mR_ HO_14.out⟩, ⟨zb⟩⟩
       case round =>
        clear H'
        try clear c1
        try clear c2
        try clear p2
        try clear c3
        try clear c4
        try clear c5
        try clear c6
        try clear c7
        try clear c16
        try clear c16b0
        try clear c16b1
        try clear c18
        try clear c19
        try clear c19b0
        try clear c19b1
        try clear c21
        try clear c24
        try clear c25
        try clear c26
        try clear c27
        try clear c28
        try clear c32
        try clear c33
        try clear c38
        try clear c39
        try clear c39b0
        try clear c39b1
        try clear c42
        try clear c42b0
        try clear c48
        try clear c48b0
        try clear c48b1
        try clear c50
        try clear c59
        try clear p2
        obtain ⟨x18_4, x19_4, rfl, rfl, HA, HK4, HO_3, HO_4, HO_12, HO_14, HB⟩ := hrel
        cases gk with
        | zero => exact absurd HA.out (by simp [laws_FnHexForms.l1])
        | succ k4 =>
         have H := HA.out
         clear HA
         simp only [laws_FnHexForms.l1] at H
         by_cases c60 : x19_4 < (x12_2.length : Int)
         rotate_left
         ·rw [if_neg c60] at H
          have c60b0 : decide (x19_4 < (x12_2.length : Int)) = false := decide_eq_false c60
          clear c60
          by_cases c67 : x18_4 = true
          ·subst c67
           have H1 : (laws_FnHexForms.l0 k4 t1038 t1041 x12_2 (wrap64 (x13_2 + 1))) = some r := by rw [if_pos rfl] at H; exact H
           clear H
           have H := H1
           clear H1
           have H' := aM H
           clear H
           obtain ⟨Ao68, co68, eo68⟩ := Kd.S_slice HO_12.out
           subst eo68
           go_wp2
           go_roundg k4
           case measure => have := HJ8.out; have := HK2.out; have := HJ44.out; have := HK4.out; omega
           case rel => exact ⟨(x12_2), (wrap64 (x13_2 + 1)), zr, H', ⟨by have := HJ8.out; have := HK2.out; have := HJ44.out; have := HK4.out; omega⟩, ⟨zd0 HO_3.out⟩, ⟨mR_ HO_4.out⟩, ⟨zd2 HO_12.out⟩, ⟨zb⟩⟩
          replace c67 := Bool.eq_false_iff.mpr c67
          subst c67
          have H1 : (if x12_2.length < 5864062014805 then (laws_FnHexForms.l0 k4 t1038 t1041 (x12_2 ++ [t1064]) (wrap64 (x13_2 + 1))) else (none)) = some r := by rw [if_neg (show ¬ (false = true) by decide)] at H; exact H
          clear H
          have H := H1
          clear H1
          by_cases c69 : x12_2.length < 5864062014805
          rotate_left
          ·rw [if_neg c69] at H
           exact absurd H (by simp)
          rw [if_pos c69] at H
          have LMc69 := aM c69
          clear c69
          obtain ⟨y1077, hy1077⟩ : ∃ y_ : List (List (S59)), y_ = (x12_2 ++ [t1064]) := ⟨_, rfl⟩
          replace H : (laws_FnHexForms.l0 k4 t1038 t1041 y1077 (wrap64 (x13_2 + 1))) = some r := zy H hy1077
          have Ny1077 := aM hy1077
          clear hy1077
          have H' := aM H
          clear H
          obtain ⟨Ao70, co70, eo70⟩ := Kd.S_slice HO_12.out
          subst eo70
          obtain ⟨Ao72, co72, eo72⟩ := Kd.R_slice HO_14.out
          subst eo72
          go_wp2_with (first | ((with_reducible refine gate_builtin (b := .append) (xs := #[.tmp 123, .tmp 125]) rfl ?_); at_builtin; refine Kd.S_append (Kd.slice 59 k59) (w0 := w) w.heap.size rfl (.tmp 123) (.tmp 125) 33 24 (.slice none 0 0) 24 rfl Try.underlying33 info24 rfl (by decide) (by omega) (.slice Ao70 x12_2.length co70) x12_2 t1064 [.slice Ao72 t1064.length co72] (fun k_ => some k_ ≠ (.slice Ao11 t1038.length co11 : Value).ownBlock) (fun k_ => some k_ = (.slice Ao72 t1064.length co72 : Value).ownBlock) rfl rfl ?aP (fun k_ hk_ => ((Kd.R_mono (ok' := fun k_ => ((fun k_ => some k_ ≠ (.slice Ao11 t1038.length co11 : Value).ownBlock)) k_ ∧ some k_ ≠ (.slice Ao70 x12_2.length co70 : Value).ownBlock) (Kd.R_apart' (HO_14.out) (Kd.S_typed HO_12.out) (by decide)) (fun k_ hk => ⟨hk.1, hk.2⟩))).1 k_ hk_.symm) ?aF ?aO ?aB ?aS ?aL ?_; (case aP => exact Kd.M_row (Kd.R_mono (Kd.R_tight rfl (Kd.R_mono (ok' := fun k_ => ((fun k_ => some k_ ≠ (.slice Ao11 t1038.length co11 : Value).ownBlock)) k_ ∧ some k_ ≠ (.slice Ao70 x12_2.length co70 : Value).ownBlock) (Kd.R_apart' (HO_14.out) (Kd.S_typed HO_12.out) (by decide)) (fun k_ hk => ⟨hk.1, hk.2⟩))) (fun _ h_ => h_))); (case aB => exact zb); (case aF => exact (fun k_ hk => Kd.fresh' (Kd.R_lt (mR_ HO_3.out)) k_ hk)); (case aO => exact (by (with_reducible repeat (first | apply Kd.S_alloc | apply Kd.S_drewN | apply Kd.S_drew)); exact Kd.S_mono HO_12.out (fun k_ hk => ⟨hk.1, fun e_ => hk.2 e_⟩))); (case aS => exact (below_size zb)); (case aL => have := LMc69.out; omega); intro v1078 w71 ho hb hg hat; rw [← Ny1077.out] at ho; have n0_ := aM (Kd.R_over' (mR_ HO_3.out) (Kd.S_typed (mS_ HO_12.out)) (by decide) hg); have n1_ := aM (Kd.R_over' (mR_ HO_4.out) (Kd.S_typed (mS_ HO_12.out)) (by decide) hg); have n2_ := aM (hb); have n3_ := aM (ho); clear HO_3 HO_4 HB HO_12 HO_14; have HO_3 := n0_; have HO_4 := n1_; have HB := n2_; have HO1079 := n3_; clear n0_ n1_ n2_ n3_; clear ho hb hg hat))
          go_roundg k4
          case measure => have := HJ8.out; have := HK2.out; have := HJ44.out; have := HK4.out; omega
          case rel => exact ⟨(y1077), (wrap64 (x13_2 + 1)), zr, H', ⟨by have := HJ8.out; have := HK2.out; have := HJ44.out; have := HK4.out; omega⟩, ⟨zd0 HO_3.out⟩, ⟨mR_ HO_4.out⟩, ⟨mS_ HO1079.out⟩, ⟨zb⟩⟩
         rw [if_pos c60] at H
         have c60b0 : decide (x19_4 < (x12_2.length : Int)) = true := decide_eq_true c60
         clear c60
         by_cases c61 : x18_4 = true
         ·subst c61
          have H1 : (laws_FnHexForms.l1 k4 t1038 t1041 x12_2 x13_2 t1064 true (wrap64 (x19_4 + 1))) = some r := by rw [if_pos rfl] at H; exact H
          clear H
          have H := H1
          clear H1
          have H' := aM H
          clear H
          obtain ⟨Ao62, co62, eo62⟩ := Kd.S_slice HO_12.out
          subst eo62
          go_wp2
          go_roundg k4
          case measure => have := HJ8.out; have := HK2.out; have := HJ44.out; have := HK4.out; omega
          case rel => exact ⟨(true), (wrap64 (x19_4 + 1)), zr, zr, H', ⟨by have := HJ8.out; have := HK2.out; have := HJ44.out; have := HK4.out; omega⟩, ⟨mR_ HO_3.out⟩, ⟨mR_ HO_4.out⟩, ⟨mS_ HO_12.out⟩, ⟨mR_ HO_14.out⟩, ⟨zb⟩⟩
         replace c61 := Bool.eq_false_iff.mpr c61
         subst c61
         have H1 : (if 0 ≤ x19_4 then ((laws_likeCells.f k4 (rd_L2 x12_2 x19_4) t1064).bind fun t1076 => (laws_FnHexForms.l1 k4 t1038 t1041 x12_2 x13_2 t1064 t1076 (wrap64 (x19_4 + 1)))) else (none)) = some r := by rw [if_neg (show ¬ (false = true) by decide)] at H; exact H
         clear H
         have H := H1
         clear H1
         by_cases c63 : 0 ≤ x19_4
         rotate_left
         ·rw [if_neg c63] at H
          exact absurd H (by simp)
         rw [if_pos c63] at H
         have c63b0 : decide (0 ≤ x19_4) = true := decide_eq_true c63
         clear c63
         replace H := Option.bind_eq_some_iff.mp H
         obtain ⟨t1076, A640, H⟩ := H
         replace H : (laws_FnHexForms.l1 k4 t1038 t1041 x12_2 x13_2 t1064 t1076 (wrap64 (x19_4 + 1))) = some r := H
         have A64 := aM A640
         clear A640
         have H' := aM H
         clear H
         obtain ⟨Ao65, co65, eo65⟩ := Kd.S_slice HO_12.out
         subst eo65
         have p1075 : 0 ≤ (x19_4 : Int) := of_decide_eq_true za
         have q1075 : x19_4 < (x12_2.length : Int) := of_decide_eq_true za
         obtain ⟨ad1075, A1075_0, c1075_0, e1075, hx1075_0, hl1075_0, hi1075_0⟩ := at_L2 (Kd.S_reads' HO_12.out).2.2 x19_4 p1075 q1075
         cases e1075
         obtain ⟨ce1075, hce1075, hMe1075, hcc1075⟩ := Kd.S_get HO_12.out [] x19_4 p1075 (by first | exact q1075 | exact of_decide_eq_true za | (have e_ := (Kd.S_reads' HO_12.out).1; omega))
         obtain ⟨ve1075_0, rfl, ge1075_0⟩ := hMe1075
         have hv1075_0 := hcc1075 0 _ rfl
         rw [Nat.add_zero, show ((Kd.slice 59 k59)).sz = 1 from rfl, Nat.mul_one] at hv1075_0
         replace hv1075_0 := Option.some.inj (hv1075_0.symm.trans hx1075_0)
         rw [hv1075_0] at ge1075_0
         have HL1075_0 := aM (show Kd.R k59 59 _ _ _ _ (rd_L2 x12_2 x19_4) from ge1075_0)
         clear hv1075_0 ge1075_0
         clear hcc1075 hce1075
         have HR1075_0 := aM hi1075_0
         have HC1075_0 := aM hl1075_0
         clear hi1075_0 hl1075_0
         replace p1075 := eq_true p1075
         replace q1075 := eq_true q1075
         obtain ⟨Ao66, co66, eo66⟩ := Kd.R_slice HO_14.out
         subst eo66
         go_wp2_with (first | (go_at_call 15; (with_reducible refine (laws_likeCells.calls k4 _ _ (rd_L2 x12_2 x19_4) _ _ t1064 t1076 _ ?side1 ?side2 ?side3 ?side4 A64.out).mono ?_); (case side1 => repeat (first | exact (mQ_ HR1075_0.out) | (with_reducible refine Kd.C_alloc ?_ _) | (with_reducible refine Kd.C_drewN ?_ _) | (with_reducible refine Kd.C_drew ?_))); (case side2 => exact HC1075_0.out); (case side3 => exact zc HO_14.out); (case side4 => exact (Kd.R_reads' HO_14.out).2.1); rintro e w' ⟨rfl, ⟨nd, rfl⟩⟩))
         go_roundg k4
         case measure => have := HJ8.out; have := HK2.out; have := HJ44.out; have := HK4.out; omega
         case rel => exact ⟨(t1076), (wrap64 (x19_4 + 1)), zr, zr, H', ⟨by have := HJ8.out; have := HK2.out; have := HJ44.out; have := HK4.out; omega⟩, ⟨mR_ HO_3.out⟩, ⟨mR_ HO_4.out⟩, ⟨mS_ HO_12.out⟩, ⟨mR_ HO_14.out⟩, ⟨zb⟩⟩
end Go.Proofs.Ytlnliahadgmbcaa.F
end
section
namespace Go.Proofs.Ytlnliahadgmbcaa.Open
open Go.ChangeShapes Go.WideShapes Go.Deep Go.RowKit Go.Proofs.YtlnliahadgmbcaaW.PrintWords
def Opens {α : Type} (P : Program) (d : Kd α) (t : TypeId) (V : α → Prop) : Prop :=
  ∀ (H : Type) (enc : TypeId × Value → H) (w : World) (base : Nat) (spare : Nat → Bool) (held : Bool) (fuel : Nat) (cs : List Value) (x : DataW H × List MemPlace),
    DataW.trod enc P w base spare held fuel t cs = some x → ∃ a : α, d.K w a cs ∧ V a
theorem Opens.int {P : Program} {t : TypeId} {k : IntKind} (ht : P.underlying t = some (.int k)) : Opens P (Kd.int k) t (fun a => (Lit.int k a).wf = true) := by
  intro H enc w base spare held fuel cs x h
  obtain ⟨n, hcs, _, hw⟩ := DataW.trod_int ht h
  exact ⟨n, hcs, hw⟩
theorem Opens.bool {P : Program} {t : TypeId} (ht : P.underlying t = some .bool) : Opens P Kd.bool t (fun _ => True) := by
  intro H enc w base spare held fuel cs x h
  obtain ⟨b, hcs, _⟩ := DataW.trod_bool ht h
  exact ⟨b, hcs, trivial⟩
theorem Opens.slice {α : Type} [Inhabited α] {P : Program} {t e : TypeId} {d : Kd α} {V : α → Prop} (ht : P.underlying t = some (.slice e)) (hsz : P.cellsOf e = d.sz) (ho : Opens P d e V) :
    Opens P (Kd.slice e d) t (fun l => l.length ≤ 9223372036854775807 ∧ ∀ a ∈ l, V a) := by
  intro H enc w base spare held fuel cs x h
  rcases open_slice ht h with ⟨rfl, _⟩ | ⟨a, len, cap, m, n, D, Pl, rfl, hb, hl, hm, hmm, _, hi⟩
  · exact ⟨[], ⟨none, 0, rfl, Nat.le_refl _, rfl, by simp, fun hp => absurd hp (by simp)⟩, by simp, by simp⟩
  · have hlm : len ≤ m := by rw [hmm]; split <;> omega
    have hx : ∀ i, i < len → ∃ y : α, V y ∧ ∃ c : List Value, c.length = d.sz ∧ d.K w y c ∧ ∀ j u, c[j]? = some u → w.cell? (a.add (i * d.sz + j)) = some u := by
      intro i hil
      obtain ⟨cs', hc, ht'⟩ := hi i (by omega)
      obtain ⟨y, hk, hv⟩ := ho H enc w base spare held n cs' _ ht'
      obtain ⟨_, hcl, hat⟩ := World.cells?_some hc
      refine ⟨y, hv, cs', d.K_len hk, hk, fun j u hj => ?_⟩
      have hjl : j < cs'.length := (List.getElem?_eq_some_iff.1 hj).1
      have := hat j (by rw [hsz, ← d.K_len hk]; exact hjl)
      rw [Go.Deep.add_add, hsz] at this
      rw [this, hj]
    obtain ⟨f, hf⟩ := choose_lt hx
    have hlen : ((List.range len).map f).length = len := by simp
    refine ⟨(List.range len).map f, ⟨some a, cap, by rw [hlen], by rw [hlen]; exact hl, rfl, ?_, fun _ => ⟨a, rfl, fun j p hj => ?_⟩⟩, ?_⟩
    · rw [hlen]; unfold maxLen at hm; omega
    · have hjl : j < len := by
        have := (List.getElem?_eq_some_iff.1 hj).1
        rwa [hlen] at this
      have hp : f j = p := by
        rw [List.getElem?_map, List.getElem?_range hjl] at hj
        simpa using hj
      obtain ⟨_, c, h1, h2, h3⟩ := hf j hjl
      rw [hp] at h2
      exact ⟨c, h1, h2, h3⟩
    · refine ⟨by rw [hlen]; unfold maxLen at hm; omega, fun y hy => ?_⟩
      obtain ⟨i, hi', rfl⟩ := List.mem_map.1 hy
      exact (hf i (List.mem_range.1 hi')).1
theorem arg_open {α : Type} {P : Program} {t : TypeId} {d : Kd α} {V : α → Prop} (ho : Opens P d t V) {H : Type} {enc : TypeId × Value → H} {w : World} {base : Nat} {spare : Nat → Bool} {held : Bool} {v : Value} {x : DataW H} {p : List MemPlace}
    (h : DataW.Trod enc P w base spare held t v x p) : ∃ a : α, d.K w a v.cells.toList ∧ V a := by
  obtain ⟨fuel, hf⟩ := h
  exact ho _ _ _ _ _ _ _ _ _ hf
theorem slice_arg {α : Type} {d : Kd α} {e : Nat} {w : World} {l : List α} {a : Option Addr} {len cap : Nat} (h : (Kd.slice e d).K w l (Value.slice a len cap).cells.toList) : l.length = len ∧ l.length ≤ cap ∧ d.C w a l.length l := by
  obtain ⟨A, c, hcs, hl, hr⟩ := h
  simp [Value.cells] at hcs
  obtain ⟨rfl, rfl, rfl⟩ := hcs
  exact ⟨rfl, hl, hr⟩
end Go.Proofs.Ytlnliahadgmbcaa.Open
end
section
namespace Go.Proofs.Ytlnliahadgmbcaa.L
open Go.RowKit Go.Proofs.YtlnliahadgmbcaaW.PrintWords
theorem Ev.pos {α : Type} {c : Prop} [Decidable c] {f g : Nat → Option α} {r : α} (h : c) (e : Ev f r) : Ev (fun k => if c then f k else g k) r := by
  obtain ⟨K, e⟩ := e
  exact ⟨K, fun k hk => (if_pos h).trans (e k hk)⟩
theorem Ev.neg {α : Type} {c : Prop} [Decidable c] {f g : Nat → Option α} {r : α} (h : ¬ c) (e : Ev g r) : Ev (fun k => if c then f k else g k) r := by
  obtain ⟨K, e⟩ := e
  exact ⟨K, fun k hk => (if_neg h).trans (e k hk)⟩
theorem Ev.if_ {α : Type} {c : Prop} [Decidable c] {f g : Nat → Option α} {r s : α} (h : c → Ev f r) (h' : ¬ c → Ev g s) : Ev (fun k => if c then f k else g k) (if c then r else s) := by
  by_cases hc : c
  · rw [if_pos hc]; exact Ev.pos hc (h hc)
  · rw [if_neg hc]; exact Ev.neg hc (h' hc)
theorem Ev.of_eq {α : Type} {g : Nat → Option α} {r s : α} (h : Ev g r) (e : r = s) : Ev g s := e ▸ h
theorem Ev.bind0 {α β : Type} {o : Option α} {f : Nat → α → Option β} {a : α} {r : β} (h : o = some a) (k : Ev (fun n => f n a) r) : Ev (fun n => o.bind (f n)) r := by
  subst h
  exact k
theorem Ev.succ {α : Type} {g : Nat → Option α} {r : α} (h : Ev (fun k => g (k + 1)) r) : Ev g r := by
  obtain ⟨K, h⟩ := h
  refine ⟨K + 1, fun n hn => ?_⟩
  obtain ⟨m, rfl⟩ : ∃ m, n = m + 1 := ⟨n - 1, by omega⟩
  exact h m (by omega)
theorem w64 {n : Int} (h : -9223372036854775808 ≤ n) (h' : n ≤ 9223372036854775807) : wrap64 n = n := by
  unfold wrap64
  omega
theorem tmod_bd (a : Int) {m : Int} (hm : 0 < m) : -m < Int.tmod a m ∧ Int.tmod a m < m :=
  ⟨Int.neg_lt_of_neg_lt (by have := Int.tmod_lt_of_pos (-a) hm; rwa [Int.neg_tmod] at this), Int.tmod_lt_of_pos a hm⟩
theorem tmod_emod (a : Int) (m : Int) : Int.tmod a m % m = a % m := by
  have := Int.mul_tdiv_add_tmod a m
  rw [← this, Int.mul_add_emod_self_left] 
  rw [this]
theorem mod_eq (a m : Int) (h0 : 0 < m) (h1 : m ≤ 4611686018427387904) : Int.tmod (wrap64 (Int.tmod a m + m)) m = a % m := by
  have hb := tmod_bd a h0
  rw [w64 (by omega) (by omega), Int.tmod_eq_emod_of_nonneg (by omega), Int.add_emod_right, tmod_emod]
theorem getD_at {α : Type} (pre suf : List α) (c d : α) : (pre ++ c :: suf).getD (pre.length : Int).toNat d = c := by
  simp [List.getD]
end Go.Proofs.Ytlnliahadgmbcaa.L
namespace Go.Proofs.Ytlnliahadgmbcaa.L
open Go.RowKit Go.Proofs.YtlnliahadgmbcaaW.PrintWords
theorem loop_list {α σ ρ : Type} (xs : List α) (l : Nat → Int → σ → Option ρ) (g : List α → List α → σ → ρ) (Inv : List α → σ → Prop)
    (hn : ∀ s, Inv xs s → Ev (fun k => l (k + 1) (xs.length : Int) s) (g xs [] s))
    (hs : ∀ (pre : List α) (c : α) (suf : List α) (s : σ), xs = pre ++ c :: suf → Inv pre s → (∀ s', Inv (pre ++ [c]) s' → Ev (fun k => l k ((pre.length : Int) + 1) s') (g (pre ++ [c]) suf s')) → Ev (fun k => l (k + 1) (pre.length : Int) s) (g pre (c :: suf) s)) :
    ∀ s, Inv [] s → Ev (fun k => l k 0 s) (g [] xs s) := by
  have key : ∀ (suf pre : List α), xs = pre ++ suf → ∀ s, Inv pre s → Ev (fun k => l k (pre.length : Int) s) (g pre suf s) := by
    intro suf
    induction suf with
    | nil =>
      intro pre hx s hi
      rw [List.append_nil] at hx
      subst hx
      exact Ev.succ (hn s hi)
    | cons c suf ih =>
      intro pre hx s hi
      refine Ev.succ (hs pre c suf s hx hi fun s' hi' => ?_)
      have := ih (pre ++ [c]) (by rw [hx]; simp) s' hi'
      rw [List.length_append] at this
      exact this
  intro s hi
  exact key xs [] rfl s hi
end Go.Proofs.Ytlnliahadgmbcaa.L
end
section
namespace Go.Proofs.Ytlnliahadgmbcaa.L
set_option linter.unusedVariables false
abbrev V2 := Int × Int
abbrev M2 := V2 × V2
def add2 (p q : V2) : V2 := (p.1 + q.1, p.2 + q.2)
def sub2 (p q : V2) : V2 := (p.1 - q.1, p.2 - q.2)
def app2 (A : M2) (p : V2) : V2 := (A.1.1 * p.1 + A.2.1 * p.2, A.1.2 * p.1 + A.2.2 * p.2)
def mul2 (A B : M2) : M2 := (app2 A B.1, app2 A B.2)
def one2 : M2 := ((1, 0), (0, 1))
theorem app_mul2 (A B : M2) (p : V2) : app2 (mul2 A B) p = app2 A (app2 B p) := by
  obtain ⟨⟨a, b⟩, ⟨d, e⟩⟩ := A
  obtain ⟨⟨a', b'⟩, ⟨d', e'⟩⟩ := B
  obtain ⟨x, y⟩ := p
  simp only [app2, mul2, Prod.mk.injEq, Int.add_mul, Int.mul_add, Int.mul_assoc]
  omega
theorem mul_assoc2 (A B C : M2) : mul2 (mul2 A B) C = mul2 A (mul2 B C) := by
  show (app2 (mul2 A B) C.1, app2 (mul2 A B) C.2) = _
  rw [app_mul2, app_mul2]; rfl
theorem app_one2 (p : V2) : app2 one2 p = p := by
  obtain ⟨x, y⟩ := p
  simp only [app2, one2, Prod.mk.injEq]
  omega
theorem mul_one2 (A : M2) : mul2 A one2 = A := by
  obtain ⟨⟨a, b⟩, ⟨d, e⟩⟩ := A
  simp only [app2, mul2, one2, Prod.mk.injEq]
  omega
theorem app_add2 (A : M2) (p q : V2) : app2 A (add2 p q) = add2 (app2 A p) (app2 A q) := by
  simp only [app2, add2, Prod.mk.injEq, Int.mul_add]
  omega
theorem app_sub2 (A : M2) (p q : V2) : app2 A (sub2 p q) = sub2 (app2 A p) (app2 A q) := by
  simp only [app2, sub2, Prod.mk.injEq, Int.mul_sub]
  omega
def mR : M2 := ((0, 1), (-1, 1))
def mS : M2 := ((0, 1), (1, 0))
def pow2 (A : M2) : Nat → M2
  | 0 => one2
  | n + 1 => mul2 (pow2 A n) A
def mat2 (t : Nat) : M2 := mul2 (pow2 mR (t % 6)) (if t ≥ 6 then mS else one2)
def unitsH : List V2 := [(0, -1), (1, -1), (-1, 0), (1, 0), (-1, 1), (0, 1)]
def mats2 : List M2 := (List.range 12).map mat2
theorem mat2_mem {t : Nat} (h : t < 12) : mat2 t ∈ mats2 := List.mem_map.2 ⟨t, List.mem_range.2 h, rfl⟩
theorem mats2_fine : ∀ A ∈ mats2, ∀ v ∈ unitsH, app2 A v ∈ unitsH := by decide +kernel
theorem mats2_inv : ∀ A ∈ mats2, ∃ B ∈ mats2, mul2 B A = one2 := by decide +kernel
theorem mats2_inj {A : M2} (h : A ∈ mats2) {p q : V2} (e : app2 A p = app2 A q) : p = q := by
  obtain ⟨B, _, eb⟩ := mats2_inv A h
  have := congrArg (app2 B) e
  rw [← app_mul2, ← app_mul2, eb, app_one2, app_one2] at this
  exact this
def adjH (p q : V2) : Prop := sub2 q p ∈ unitsH
theorem mats2_adjH {A : M2} (h : A ∈ mats2) {p q : V2} : adjH p q ↔ adjH (app2 A p) (app2 A q) := by
  unfold adjH
  rw [← app_sub2]
  constructor
  · exact mats2_fine A h _
  · intro h2
    obtain ⟨B, hb, eb⟩ := mats2_inv A h
    have := mats2_fine B hb _ h2
    rw [← app_mul2, eb, app_one2] at this
    exact this
theorem adjH_sym {p q : V2} (h : adjH p q) : adjH q p := by
  unfold adjH unitsH sub2 at *
  simp only [List.mem_cons, List.not_mem_nil, or_false, Prod.mk.injEq] at *
  rcases h with h | h | h | h | h | h
  · exact .inr (.inr (.inr (.inr (.inr (by omega)))))
  · exact .inr (.inr (.inr (.inr (.inl (by omega)))))
  · exact .inr (.inr (.inr (.inl (by omega))))
  · exact .inr (.inr (.inl (by omega)))
  · exact .inr (.inl (by omega))
  · exact .inl (by omega)
theorem app_mR (p : V2) : app2 mR p = (-p.2, p.1 + p.2) := by
  simp only [app2, mR, Prod.mk.injEq]
  omega
theorem app_mS (p : V2) : app2 mS p = (p.2, p.1) := by
  simp only [app2, mS, Prod.mk.injEq]
  omega
end Go.Proofs.Ytlnliahadgmbcaa.L
end
section
namespace Go.Proofs.Ytlnliahadgmbcaa.L
set_option linter.unusedVariables false
section
variable {α β : Type} {nb : α → List α} {l : List α} {a b c d : α}
def Rch (nb : α → List α) (l : List α) (a b : α) : Prop := ∀ S : α → Prop, S a → (∀ c d, S c → d ∈ nb c → d ∈ l → S d) → S b
theorem Rch.refl : Rch nb l a a := fun S h _ => h
theorem Rch.step (h : Rch nb l a b) (hd : d ∈ nb b) (hl : d ∈ l) : Rch nb l a d := fun S h0 h1 => h1 b d (h S h0 h1) hd hl
theorem Rch.trans (h : Rch nb l a b) (h' : Rch nb l b c) : Rch nb l a c := fun S h0 h1 => h' S (h S h0 h1) h1
theorem Rch.back (hs : ∀ c ∈ l, ∀ d ∈ l, d ∈ nb c → c ∈ nb d) (ha : a ∈ l) (h : Rch nb l a b) : b ∈ l ∧ Rch nb l b a :=
  h (fun b => b ∈ l ∧ Rch nb l b a) ⟨ha, Rch.refl⟩ fun c d ⟨hc, hca⟩ hd hl => ⟨hl, (Rch.step Rch.refl (hs c hc d hl hd) hc).trans hca⟩
def Conn (nb : α → List α) (l : List α) : Prop := ∀ a ∈ l, ∀ b ∈ l, Rch nb l a b
theorem conn_from (hs : ∀ c ∈ l, ∀ d ∈ l, d ∈ nb c → c ∈ nb d) (ha : a ∈ l) : Conn nb l ↔ ∀ b ∈ l, Rch nb l a b :=
  ⟨fun h b hb => h a ha b hb, fun h b hb c hc => (Rch.back hs ha (h b hb)).2.trans (h c hc)⟩
theorem rch_map {nb' : β → List β} {l' : List β} {φ : α → β} (hadj : ∀ c ∈ l, ∀ d ∈ l, d ∈ nb c → φ d ∈ nb' (φ c)) (hx : ∀ c ∈ l, φ c ∈ l') (ha : a ∈ l) (h : Rch nb l a b) : b ∈ l ∧ Rch nb' l' (φ a) (φ b) :=
  h (fun b => b ∈ l ∧ Rch nb' l' (φ a) (φ b)) ⟨ha, Rch.refl⟩ fun c d ⟨hc, hca⟩ hd hl => ⟨hl, hca.step (hadj c hc d hl hd) (hx d hl)⟩
theorem conn_map {nb' : β → List β} {l' : List β} {φ : α → β} (hi : ∀ c ∈ l, ∀ d ∈ l, φ c = φ d → c = d) (hadj : ∀ c ∈ l, ∀ d ∈ l, (d ∈ nb c ↔ φ d ∈ nb' (φ c))) (hx : ∀ y, y ∈ l' ↔ ∃ c ∈ l, φ c = y) : Conn nb l ↔ Conn nb' l' := by
  constructor
  · intro h a ha b hb
    obtain ⟨c, hc, rfl⟩ := (hx a).1 ha
    obtain ⟨d, hd, rfl⟩ := (hx b).1 hb
    exact (rch_map (fun c hc d hd h => (hadj c hc d hd).1 h) (fun c hc => (hx _).2 ⟨c, hc, rfl⟩) hc (h c hc d hd)).2
  · intro h a ha b hb
    have := h (φ a) ((hx _).2 ⟨a, ha, rfl⟩) (φ b) ((hx _).2 ⟨b, hb, rfl⟩)
    obtain ⟨c, hc, e, hr⟩ := this (fun y => ∃ c ∈ l, φ c = y ∧ Rch nb l a c) ⟨a, ha, rfl, Rch.refl⟩ (by
      rintro y z ⟨c, hc, rfl, hr⟩ hz hzl
      obtain ⟨d, hd, rfl⟩ := (hx z).1 hzl
      exact ⟨d, hd, rfl, hr.step ((hadj c hc d hd).2 hz) hd⟩)
    exact hi c hc b hb e ▸ hr
theorem nodup_subG : ∀ (o l : List α), o.Nodup → (∀ d ∈ o, d ∈ l) → o.length ≤ l.length
  | [], l, _, _ => Nat.zero_le _
  | a :: o, l, hn, hs => by
    obtain ⟨h1, h2⟩ := List.nodup_cons.1 hn
    obtain ⟨s, t, rfl⟩ := List.append_of_mem (hs a List.mem_cons_self)
    have := nodup_subG o (s ++ t) h2 fun c hc => by
      have h3 := hs c (List.mem_cons_of_mem _ hc)
      have h4 : c ≠ a := fun e => h1 (e ▸ hc)
      simp only [List.mem_append, List.mem_cons] at h3 ⊢
      rcases h3 with h3 | h3 | h3
      · exact .inl h3
      · exact absurd h3 h4
      · exact .inr h3
    simp only [List.length_append, List.length_cons] at this ⊢
    omega
theorem nodup_mapG {φ : α → β} : ∀ (l : List α), l.Nodup → (∀ c ∈ l, ∀ d ∈ l, φ c = φ d → c = d) → (l.map φ).Nodup
  | [], _, _ => List.nodup_nil
  | a :: r, hn, hi => by
    obtain ⟨h1, h2⟩ := List.nodup_cons.1 hn
    rw [List.map_cons, List.nodup_cons]
    refine ⟨fun h => ?_, nodup_mapG r h2 fun c hc d hd => hi c (List.mem_cons_of_mem _ hc) d (List.mem_cons_of_mem _ hd)⟩
    obtain ⟨c, hc, e⟩ := List.mem_map.1 h
    exact h1 (hi c (List.mem_cons_of_mem _ hc) a List.mem_cons_self e ▸ hc)
theorem len_mapG {φ : α → β} {A : List α} {B : List β} (ha : A.Nodup) (hb : B.Nodup) (hi : ∀ c ∈ A, ∀ d ∈ A, φ c = φ d → c = d) (h1 : ∀ c ∈ A, φ c ∈ B) (h2 : ∀ y ∈ B, ∃ c ∈ A, φ c = y) : A.length = B.length := by
  refine Nat.le_antisymm ?_ ?_
  · have := nodup_subG (A.map φ) B (nodup_mapG A ha hi) fun y hy => by
      obtain ⟨c, hc, rfl⟩ := List.mem_map.1 hy
      exact h1 c hc
    simpa using this
  · have := nodup_subG B (A.map φ) hb fun y hy => by
      obtain ⟨c, hc, rfl⟩ := h2 y hy
      exact List.mem_map.2 ⟨c, hc, rfl⟩
    simpa using this
def sumI (f : α → Int) : List α → Int
  | [] => 0
  | a :: r => f a + sumI f r
end
end Go.Proofs.Ytlnliahadgmbcaa.L
end
section
namespace Go.Proofs.Ytlnliahadgmbcaa.L
open Go.RowKit Go.Proofs.YtlnliahadgmbcaaW.PrintWords Go.Proofs.YtlnliahadgmbcaaW.PrintLast Go.Proofs.YtlnliahadgmbcaaW.PrintMore Go.Proofs.Ytlnliahadgmbcaa.F
set_option linter.unusedVariables false
set_option linter.unusedSimpArgs false
abbrev Cell := S59
theorem in_eq (a b c : Int) : spec_l01In.f a b c = some (decide (b ≤ a ∧ a ≤ c)) := by
  unfold spec_l01In.f
  by_cases h : a ≥ b
  · rw [if_pos h]; simp [show b ≤ a from h]
  · rw [if_neg h]; simp [show ¬ b ≤ a from h]
theorem within_eq (a b c : Int) : impl_within.f a b c = some (decide (b ≤ a ∧ a ≤ c)) := by
  unfold impl_within.f
  by_cases h : a ≥ b
  · rw [if_pos h]; simp [show b ≤ a from h]
  · rw [if_neg h]; simp [show ¬ b ≤ a from h]
def ok1 (n : Int) : Prop := -100 ≤ n ∧ n ≤ 100
instance (n : Int) : Decidable (ok1 n) := by unfold ok1; infer_instance
def okC (c : Cell) : Prop := ok1 c.f0 ∧ ok1 c.f1
instance (c : Cell) : Decidable (okC c) := by unfold okC; infer_instance
def ltC (a b : Cell) : Prop := a.f1 < b.f1 ∨ a.f1 = b.f1 ∧ a.f0 < b.f0
instance (a b : Cell) : Decidable (ltC a b) := by unfold ltC; infer_instance
theorem isCoordinate_eq (n : Int) : impl_isCoordinate.f n = some (decide (ok1 n)) := by
  unfold impl_isCoordinate.f
  rw [within_eq]
  rfl
theorem l02Cell_eq (x y : Int) : spec_l02Cell.f x y = some (decide (ok1 x ∧ ok1 y)) := by
  unfold spec_l02Cell.f
  rw [in_eq, in_eq]
  simp only [Option.bind_some]
  by_cases h : -100 ≤ x ∧ x ≤ 100
  · have h' : ok1 x := h
    simp only [h, and_self, decide_true, if_true, true_and, h', ok1]
  · have h' : ¬ ok1 x := h
    simp [h, h']
def small {α : Type} (l : List α) : Prop := l.length ≤ 4611686018427387904
theorem pre_lt {α : Type} {xs pre suf : List α} {c : α} (h : xs = pre ++ c :: suf) : ((pre.length : Int) < (xs.length : Int)) = True := by
  subst h; simp; omega
theorem pre_w {α : Type} {xs pre suf : List α} {c : α} (h : xs = pre ++ c :: suf) (hs : small xs) : wrap64 ((pre.length : Int) + 1) = (pre.length : Int) + 1 := by
  subst h
  unfold small at hs
  rw [List.length_append, List.length_cons] at hs
  exact w64 (by omega) (by omega)
theorem pre_0 {α : Type} (pre : List α) : (0 ≤ (pre.length : Int)) = True := by simp
theorem len_lt {α : Type} (xs : List α) : ((xs.length : Int) < (xs.length : Int)) = False := by simp
theorem at_pre {xs pre suf : List Cell} {c : Cell} (h : xs = pre ++ c :: suf) : rd_T59 xs (pre.length : Int) = c := by
  subst h; exact getD_at pre suf c _
theorem pre_len {α : Type} {xs pre suf : List α} {c : α} (h : xs = pre ++ c :: suf) : pre.length < xs.length := by
  subst h; simp
theorem at_preI {xs pre suf : List Int} {c : Int} (h : xs = pre ++ c :: suf) : rd xs (pre.length : Int) = c := by
  subst h; exact getD_at pre suf c _
def cmpI (a b : Int) : Int := if a < b then -1 else if a > b then 1 else 0
theorem compare_eq (a b : Int) : cmp_Compare_int64.f a b = some (cmpI a b) := by
  unfold cmp_Compare_int64.f cmp_isNaN_int64.f cmpI
  simp only [bne_self_eq_false, Option.bind_some, Bool.false_eq_true, if_false]
  split
  · rfl
  · split <;> rfl
theorem l02Less_eq (a b c d : Int) : spec_l02Less.f a b c d = some (decide (b < d ∨ b = d ∧ a < c)) := by
  unfold spec_l02Less.f
  by_cases h : b < d
  · simp [h]
  · by_cases h' : b = d <;> simp [h, h']
    
def cmpC (a b : Cell) : Int := if cmpI a.f1 b.f1 = 0 then cmpI a.f0 b.f0 else cmpI a.f1 b.f1
theorem compareCells_eq (a b : Cell) : impl_compareCells.f a.f0 a.f1 b.f0 b.f1 = some (cmpC a b) := by
  unfold impl_compareCells.f cmpC
  simp only [compare_eq, Option.bind_some]
  split <;> rfl
theorem cmpC_lt {a b : Cell} : cmpC a b < 0 ↔ ltC a b := by
  unfold cmpC cmpI ltC
  repeat' split
  all_goals constructor <;> intro h <;> omega
theorem cmpC_ge {a b : Cell} : cmpC a b ≥ 0 ↔ ¬ ltC a b := by
  rw [← cmpC_lt]; omega
def goodFrom : Option Cell → List Cell → Bool
  | _, [] => true
  | p, c :: r => decide (okC c) && (match p with | none => true | some q => decide (ltC q c)) && goodFrom (some c) r
def shapeB (l : List Cell) : Bool := goodFrom none l && decide (1 ≤ (l.length : Int) ∧ (l.length : Int) ≤ 40)
theorem specIsShape_ev (l : List Cell) (hs : small l) : Ev (fun k => spec_IsShape.f k l) (shapeB l) := by
  unfold spec_IsShape.f
  refine loop_list l (fun k i (_ : Unit) => spec_IsShape.l0 k l i) (fun pre suf _ => goodFrom pre.getLast? suf && decide (1 ≤ (l.length : Int) ∧ (l.length : Int) ≤ 40)) (fun _ _ => True) ?_ ?_ () trivial
  · intro _ _
    simp only [spec_IsShape.l0, len_lt, if_false, in_eq, Option.bind_some]
    refine Ev.of_eq (Ev.now _) ?_
    simp [goodFrom]
  · intro pre c suf _ hx _ ih
    simp only [spec_IsShape.l0, pre_lt hx, pre_0, if_true, at_pre hx, l02Cell_eq, Option.bind_some, pre_w hx hs]
    by_cases hc : okC c
    · have hc' : ok1 c.f0 ∧ ok1 c.f1 := hc
      simp only [hc', and_self, decide_true, if_true]
      rcases List.eq_nil_or_concat pre with rfl | ⟨L, b, rfl⟩
      · refine Ev.neg (by simp) (Ev.of_eq (ih () trivial) ?_)
        simp [goodFrom, hc]
      · rw [List.concat_eq_append] at hx ih ⊢
        have hx2 : l = L ++ b :: (c :: suf) := by rw [hx]; simp
        have e1 : wrap64 (((L ++ [b]).length : Int) - 1) = (L.length : Int) := by
          unfold small at hs
          rw [hx2] at hs
          simp only [List.length_append, List.length_cons, List.length_nil] at hs ⊢
          rw [w64 (by omega) (by omega)]; omega
        refine Ev.pos (by simp <;> omega) ?_
        simp only [e1, pre_0, if_true, pre_lt hx2, at_pre hx2, l02Less_eq, Option.bind_some]
        by_cases hl : ltC b c
        · have hl' : b.f1 < c.f1 ∨ b.f1 = c.f1 ∧ b.f0 < c.f0 := hl
          refine Ev.pos (by simpa using hl') (Ev.of_eq (ih () trivial) ?_)
          simp [goodFrom, hc, hl]
        · have hl' : ¬ (b.f1 < c.f1 ∨ b.f1 = c.f1 ∧ b.f0 < c.f0) := hl
          refine Ev.neg (by simpa using hl') (Ev.of_eq (Ev.now _) ?_)
          simp [goodFrom, hc, hl]
    · have hc' : ¬ (ok1 c.f0 ∧ ok1 c.f1) := hc
      simp only [hc', decide_false, Bool.false_eq_true, if_false]
      refine Ev.of_eq (Ev.now _) ?_
      simp [goodFrom, hc]
theorem implIsShape_ev (l : List Cell) (hs : small l) : Ev (fun k => impl_IsShape.f k l) (shapeB l) := by
  unfold impl_IsShape.f
  refine loop_list l (fun k i (_ : Unit) => impl_IsShape.l0 k l l (l.length : Int) i) (fun pre suf _ => goodFrom pre.getLast? suf && decide (1 ≤ (l.length : Int) ∧ (l.length : Int) ≤ 40)) (fun _ _ => True) ?_ ?_ () trivial
  · intro _ _
    simp only [impl_IsShape.l0, len_lt, if_false]
    refine Ev.of_eq (Ev.if_ (fun _ => Ev.now _) (fun _ => Ev.now _)) ?_
    by_cases h : (l.length : Int) ≥ 1
    · rw [if_pos h]; simp [goodFrom, show 1 ≤ (l.length : Int) from h]
    · rw [if_neg h]; simp [goodFrom, show ¬ 1 ≤ (l.length : Int) from h]
  · intro pre c suf _ hx _ ih
    simp only [impl_IsShape.l0, pre_lt hx, pre_0, if_true, at_pre hx, isCoordinate_eq, Option.bind_some, pre_w hx hs]
    by_cases hc : okC c
    · have hc' : ok1 c.f0 ∧ ok1 c.f1 := hc
      simp only [hc'.1, hc'.2, decide_true, if_true]
      rcases List.eq_nil_or_concat pre with rfl | ⟨L, b, rfl⟩
      · refine Ev.neg (by simp) (Ev.of_eq (ih () trivial) ?_)
        simp [goodFrom, hc]
      · rw [List.concat_eq_append] at hx ih ⊢
        have hx2 : l = L ++ b :: (c :: suf) := by rw [hx]; simp
        have e1 : wrap64 (((L ++ [b]).length : Int) - 1) = (L.length : Int) := by
          unfold small at hs
          rw [hx2] at hs
          simp only [List.length_append, List.length_cons, List.length_nil] at hs ⊢
          rw [w64 (by omega) (by omega)]; omega
        refine Ev.pos (by simp <;> omega) ?_
        simp only [e1, pre_0, if_true, pre_lt hx2, at_pre hx2, compareCells_eq, Option.bind_some]
        by_cases hl : ltC b c
        · refine Ev.neg (fun h => cmpC_ge.1 h hl) (Ev.of_eq (ih () trivial) ?_)
          simp [goodFrom, hc, hl]
        · refine Ev.pos (cmpC_ge.2 hl) (Ev.of_eq (Ev.now _) ?_)
          simp [goodFrom, hc, hl]
    · by_cases h0 : ok1 c.f0
      · have h1 : ¬ ok1 c.f1 := fun h => hc ⟨h0, h⟩
        simp only [h0, h1, decide_true, if_true, decide_false, Bool.false_eq_true, if_false]
        refine Ev.of_eq (Ev.now _) ?_
        simp [goodFrom, hc]
      · simp only [h0, decide_false, Bool.false_eq_true, if_false]
        refine Ev.of_eq (Ev.now _) ?_
        simp [goodFrom, hc]
theorem goodFrom_ok : ∀ (l : List Cell) (p : Option Cell), goodFrom p l = true → ∀ c ∈ l, okC c
  | [], _, _, c, h => by simp at h
  | a :: r, p, hg, c, h => by
    simp only [goodFrom, Bool.and_eq_true, decide_eq_true_eq] at hg
    rcases List.mem_cons.1 h with rfl | h
    · exact hg.1.1
    · exact goodFrom_ok r _ hg.2 c h
theorem ltC_trans {a b c : Cell} (h : ltC a b) (h' : ltC b c) : ltC a c := by unfold ltC at *; omega
theorem goodFrom_lt : ∀ (l : List Cell) (p : Option Cell), goodFrom p l = true → (∀ q, p = some q → ∀ c ∈ l, ltC q c) ∧ l.Pairwise ltC
  | [], _, _ => ⟨fun _ _ c h => by simp at h, List.Pairwise.nil⟩
  | a :: r, p, hg => by
    simp only [goodFrom, Bool.and_eq_true, decide_eq_true_eq] at hg
    obtain ⟨h1, h2⟩ := goodFrom_lt r (some a) hg.2
    have h3 := h1 a rfl
    refine ⟨fun q hq c hc => ?_, List.pairwise_cons.2 ⟨h3, h2⟩⟩
    subst hq
    have h4 : ltC q a := by simpa using hg.1.2
    rcases List.mem_cons.1 hc with rfl | hc
    · exact h4
    · exact ltC_trans h4 (h3 c hc)
theorem goodFrom_of : ∀ (l : List Cell) (p : Option Cell), (∀ c ∈ l, okC c) → (∀ q, p = some q → ∀ c ∈ l, ltC q c) → l.Pairwise ltC → goodFrom p l = true
  | [], _, _, _, _ => rfl
  | a :: r, p, h0, h1, h2 => by
    obtain ⟨h3, h4⟩ := List.pairwise_cons.1 h2
    simp only [goodFrom, Bool.and_eq_true, decide_eq_true_eq]
    refine ⟨⟨h0 a List.mem_cons_self, ?_⟩, goodFrom_of r (some a) (fun c hc => h0 c (List.mem_cons_of_mem _ hc)) (fun q hq c hc => by injection hq with hq; subst hq; exact h3 c hc) h4⟩
    cases p with
    | none => rfl
    | some q => simpa using h1 q rfl a List.mem_cons_self
theorem shapeB_iff {l : List Cell} : shapeB l = true ↔ (∀ c ∈ l, okC c) ∧ l.Pairwise ltC ∧ 1 ≤ l.length ∧ l.length ≤ 40 := by
  unfold shapeB
  rw [Bool.and_eq_true, decide_eq_true_eq]
  constructor
  · rintro ⟨h, h'⟩
    exact ⟨goodFrom_ok l _ h, (goodFrom_lt l _ h).2, by omega, by omega⟩
  · rintro ⟨h1, h2, h3, h4⟩
    exact ⟨goodFrom_of l none h1 (fun _ h => by cases h) h2, by omega, by omega⟩
def minX : Int → List Cell → Int := fun z l => l.foldl (fun m c => mn m c.f0) z
def minY : Int → List Cell → Int := fun z l => l.foldl (fun m c => mn m c.f1) z
def leastOf (l : List Cell) : Int × Int := match l with | [] => (0, 0) | c :: r => (minX c.f0 r, minY c.f1 r)
theorem implCorner_ev (l : List Cell) (hs : small l) (h0 : 0 < l.length) : Ev (fun k => impl_corner.f k l) (leastOf l) := by
  unfold impl_corner.f
  obtain ⟨c, r, rfl⟩ : ∃ c r, l = c :: r := by cases l with | nil => simp at h0 | cons c r => exact ⟨c, r, rfl⟩
  refine Ev.pos (by simp <;> omega) ?_
  have h1 : rd_T59 (c :: r) 0 = c := rfl
  rw [h1]
  have := loop_list (c :: r) (fun k i (s : Int × Int) => impl_corner.l0 k (c :: r) ((c :: r).length : Int) i s.1 s.2) (fun _ suf s => (minX s.1 suf, minY s.2 suf)) (fun _ _ => True) ?_ ?_ (c.f0, c.f1) trivial
  · refine Ev.of_eq this ?_
    simp [leastOf, minX, minY, mn]
  · rintro s _
    simp only [impl_corner.l0, len_lt, if_false]
    exact Ev.now _
  · rintro pre d suf s hx _ ih
    simp only [impl_corner.l0, pre_lt hx, pre_0, if_true, at_pre hx, pre_w hx hs]
    exact ih (mn s.1 d.f0, mn s.2 d.f1) trivial
theorem loop_tail {α σ ρ : Type} (c : α) (r : List α) (l : Nat → Int → σ → Option ρ) (g : List α → List α → σ → ρ) (Inv : List α → σ → Prop)
    (hn : ∀ s, Inv (c :: r) s → Ev (fun k => l (k + 1) ((c :: r).length : Int) s) (g (c :: r) [] s))
    (hs : ∀ (pre : List α) (d : α) (suf : List α) (s : σ), c :: r = pre ++ d :: suf → pre ≠ [] → Inv pre s → (∀ s', Inv (pre ++ [d]) s' → Ev (fun k => l k ((pre.length : Int) + 1) s') (g (pre ++ [d]) suf s')) → Ev (fun k => l (k + 1) (pre.length : Int) s) (g pre (d :: suf) s)) :
    ∀ s, Inv [c] s → Ev (fun k => l k 1 s) (g [c] r s) := by
  have key : ∀ (suf pre : List α), c :: r = pre ++ suf → pre ≠ [] → ∀ s, Inv pre s → Ev (fun k => l k (pre.length : Int) s) (g pre suf s) := by
    intro suf
    induction suf with
    | nil =>
      intro pre hx _ s hi
      rw [List.append_nil] at hx
      subst hx
      exact Ev.succ (hn s hi)
    | cons d suf ih =>
      intro pre hx hp s hi
      refine Ev.succ (hs pre d suf s hx hp hi fun s' hi' => ?_)
      have := ih (pre ++ [d]) (by rw [hx]; simp) (by simp) s' hi'
      rw [List.length_append] at this
      exact this
  intro s hi
  exact key r [c] rfl (by simp) s hi
theorem specLeast_ev (l : List Cell) (hs : small l) (h0 : 0 < l.length) : Ev (fun k => spec_l02Least.f k l) (leastOf l) := by
  unfold spec_l02Least.f
  obtain ⟨c, r, rfl⟩ : ∃ c r, l = c :: r := by cases l with | nil => simp at h0 | cons c r => exact ⟨c, r, rfl⟩
  refine Ev.pos (by simp <;> omega) ?_
  have h1 : rd_T59 (c :: r) 0 = c := rfl
  rw [h1]
  refine loop_tail c r (fun k i (s : Int × Int) => spec_l02Least.l0 k (c :: r) s.1 s.2 i) (fun _ suf s => (minX s.1 suf, minY s.2 suf)) (fun _ _ => True) ?_ ?_ (c.f0, c.f1) trivial
  · rintro s _
    simp only [spec_l02Least.l0, len_lt, if_false]
    exact Ev.now _
  · rintro pre d suf s hx _ _ ih
    simp only [spec_l02Least.l0, pre_lt hx, pre_0, if_true, at_pre hx, pre_w hx hs]
    exact ih (mn s.1 d.f0, mn s.2 d.f1) trivial
theorem minX_le : ∀ (l : List Cell) (z : Int), minX z l ≤ z ∧ (∀ c ∈ l, minX z l ≤ c.f0) ∧ (minX z l = z ∨ ∃ c ∈ l, minX z l = c.f0)
  | [], z => ⟨Int.le_refl _, fun c h => by simp at h, .inl rfl⟩
  | a :: r, z => by
    obtain ⟨h1, h2, h3⟩ := minX_le r (mn z a.f0)
    have h4 : mn z a.f0 ≤ z ∧ mn z a.f0 ≤ a.f0 ∧ (mn z a.f0 = z ∨ mn z a.f0 = a.f0) := by unfold mn; split <;> omega
    have e : minX z (a :: r) = minX (mn z a.f0) r := rfl
    rw [e]
    refine ⟨by omega, fun c hc => ?_, ?_⟩
    · rcases List.mem_cons.1 hc with rfl | hc
      · omega
      · exact h2 c hc
    · rcases h3 with h3 | ⟨c, hc, h3⟩
      · rcases h4.2.2 with h5 | h5
        · exact .inl (h3.trans h5)
        · exact .inr ⟨a, List.mem_cons_self, h3.trans h5⟩
      · exact .inr ⟨c, List.mem_cons_of_mem _ hc, h3⟩
theorem minY_le : ∀ (l : List Cell) (z : Int), minY z l ≤ z ∧ (∀ c ∈ l, minY z l ≤ c.f1) ∧ (minY z l = z ∨ ∃ c ∈ l, minY z l = c.f1)
  | [], z => ⟨Int.le_refl _, fun c h => by simp at h, .inl rfl⟩
  | a :: r, z => by
    obtain ⟨h1, h2, h3⟩ := minY_le r (mn z a.f1)
    have h4 : mn z a.f1 ≤ z ∧ mn z a.f1 ≤ a.f1 ∧ (mn z a.f1 = z ∨ mn z a.f1 = a.f1) := by unfold mn; split <;> omega
    have e : minY z (a :: r) = minY (mn z a.f1) r := rfl
    rw [e]
    refine ⟨by omega, fun c hc => ?_, ?_⟩
    · rcases List.mem_cons.1 hc with rfl | hc
      · omega
      · exact h2 c hc
    · rcases h3 with h3 | ⟨c, hc, h3⟩
      · rcases h4.2.2 with h5 | h5
        · exact .inl (h3.trans h5)
        · exact .inr ⟨a, List.mem_cons_self, h3.trans h5⟩
      · exact .inr ⟨c, List.mem_cons_of_mem _ hc, h3⟩
theorem least_le {l : List Cell} {c : Cell} (h : c ∈ l) : (leastOf l).1 ≤ c.f0 ∧ (leastOf l).2 ≤ c.f1 := by
  cases l with
  | nil => simp at h
  | cons a r =>
    have hx := minX_le r a.f0
    have hy := minY_le r a.f1
    show minX a.f0 r ≤ c.f0 ∧ minY a.f1 r ≤ c.f1
    rcases List.mem_cons.1 h with rfl | h
    · exact ⟨hx.1, hy.1⟩
    · exact ⟨hx.2.1 c h, hy.2.1 c h⟩
theorem least_mem {l : List Cell} (h : l ≠ []) : (∃ c ∈ l, (leastOf l).1 = c.f0) ∧ (∃ c ∈ l, (leastOf l).2 = c.f1) := by
  cases l with
  | nil => exact absurd rfl h
  | cons a r =>
    refine ⟨?_, ?_⟩
    · rcases (minX_le r a.f0).2.2 with e | ⟨c, hc, e⟩
      · exact ⟨a, List.mem_cons_self, e⟩
      · exact ⟨c, List.mem_cons_of_mem _ hc, e⟩
    · rcases (minY_le r a.f1).2.2 with e | ⟨c, hc, e⟩
      · exact ⟨a, List.mem_cons_self, e⟩
      · exact ⟨c, List.mem_cons_of_mem _ hc, e⟩
theorem shape_ne {l : List Cell} (h : shapeB l = true) : l ≠ [] := by
  have := (shapeB_iff.1 h).2.2.1
  intro e
  rw [e] at this
  simp at this
def sameC (a b : Cell) : Bool := decide (a.f0 = b.f0) && decide (a.f1 = b.f1)
theorem sameC_iff {a b : Cell} : sameC a b = true ↔ a = b := by
  obtain ⟨a0, a1⟩ := a
  obtain ⟨b0, b1⟩ := b
  simp [sameC]
def idxF : List Cell → Cell → Int → Int
  | [], _, _ => -1
  | a :: r, c, i => if sameC a c = true then i else idxF r c (i + 1)
def idxC (l : List Cell) (c : Cell) : Int := idxF l c 0
theorem specIndex_ev (l : List Cell) (c : Cell) (hs : small l) : Ev (fun k => spec_l02Index.f k l c.f0 c.f1) (idxC l c) := by
  unfold spec_l02Index.f
  refine loop_list l (fun k i (_ : Unit) => spec_l02Index.l0 k l i c.f0 c.f1) (fun pre suf _ => idxF suf c (pre.length : Int)) (fun _ _ => True) ?_ ?_ () trivial
  · intro _ _
    simp only [spec_l02Index.l0, len_lt, if_false]
    exact Ev.now _
  · intro pre d suf _ hx _ ih
    simp only [spec_l02Index.l0, pre_lt hx, pre_0, if_true, at_pre hx, pre_w hx hs, idxF]
    have e : (d.f0 == c.f0 && d.f1 == c.f1) = sameC d c := by simp [sameC, BEq.beq]
    rw [e]
    refine Ev.if_ (fun _ => Ev.now _) (fun _ => Ev.of_eq (ih () trivial) ?_)
    simp
theorem idxF_spec : ∀ (l : List Cell) (c : Cell) (i : Int), 0 ≤ i → (idxF l c i = -1 ∧ c ∉ l) ∨ (∃ j : Nat, j < l.length ∧ idxF l c i = i + (j : Int) ∧ l[j]? = some c ∧ ∀ q : Nat, q < j → l[q]? ≠ some c)
  | [], c, i, _ => .inl ⟨rfl, by simp⟩
  | a :: r, c, i, hi => by
    unfold idxF
    by_cases h : sameC a c = true
    · rw [if_pos h]
      exact .inr ⟨0, by simp, by simp, by simp [sameC_iff.1 h], fun q hq => by omega⟩
    · rw [if_neg h]
      have hne : a ≠ c := fun e => h (sameC_iff.2 e)
      rcases idxF_spec r c (i + 1) (by omega) with ⟨h1, h2⟩ | ⟨j, h1, h2, h3, h4⟩
      · exact .inl ⟨h1, by simp only [List.mem_cons, not_or]; exact ⟨fun e => hne e.symm, h2⟩⟩
      · refine .inr ⟨j + 1, by simpa using h1, by rw [h2]; simp; omega, by simpa using h3, fun q hq => ?_⟩
        cases q with
        | zero => simpa using hne
        | succ q => simpa using h4 q (by omega)
theorem idxC_spec (l : List Cell) (c : Cell) : (idxC l c = -1 ∧ c ∉ l) ∨ (∃ j : Nat, j < l.length ∧ idxC l c = (j : Int) ∧ l[j]? = some c ∧ ∀ q : Nat, q < j → l[q]? ≠ some c) := by
  rcases idxF_spec l c 0 (Int.le_refl _) with h | ⟨j, h1, h2, h3⟩
  · exact .inl h
  · exact .inr ⟨j, h1, by unfold idxC; rw [h2]; omega, h3⟩
theorem idxC_mem (l : List Cell) (c : Cell) : idxC l c ≥ 0 ↔ c ∈ l := by
  rcases idxC_spec l c with ⟨h1, h2⟩ | ⟨j, h1, h2, h3, _⟩
  · rw [h1]; constructor
    · intro h; omega
    · intro h; exact absurd h h2
  · rw [h2]; constructor
    · intro _; exact List.mem_of_getElem? h3
    · intro _; omega
def visit1 (l : List Cell) (i : Int) (s : List Int × List Int) (d : Cell) : List Int × List Int :=
  if idxC l d ≥ 0 ∧ rd s.1 (idxC l d) < 0 then (s.1.set (idxC l d).toNat i, s.2 ++ [idxC l d]) else s
def visit (l : List Cell) (i : Int) (ds : List Cell) (s : List Int × List Int) : List Int × List Int := ds.foldl (visit1 l i) s
def negs (o : List Int) : Nat := o.countP fun x => decide (x < 0)
structure Fine (l : List Cell) (o q : List Int) : Prop where
  len : o.length = l.length
  rng : ∀ j ∈ q, 0 ≤ j ∧ j < (l.length : Int)
theorem idxC_lt (l : List Cell) (d : Cell) : idxC l d < (l.length : Int) := by
  rcases idxC_spec l d with ⟨h, _⟩ | ⟨j, h1, h2, _⟩
  · omega
  · omega
theorem rd_set (o : List Int) (j : Nat) (i : Int) (q : Int) (hj : j < o.length) : rd (o.set j i) q = if q.toNat = j then i else rd o q := by
  unfold rd
  rw [List.getD_eq_getElem?_getD, List.getD_eq_getElem?_getD]
  by_cases h : q.toNat = j
  · rw [if_pos h, h, List.getElem?_set_self hj]; rfl
  · rw [if_neg h, List.getElem?_set_ne (by omega)]
theorem negs_set (o : List Int) (j : Int) (i : Int) (h0 : 0 ≤ j) (h1 : j < (o.length : Int)) (h : rd o j < 0) (hi : 0 ≤ i) : negs (o.set j.toNat i) + 1 = negs o := by
  have hj : j.toNat < o.length := by omega
  have hr : o[j.toNat] < 0 := by
    unfold rd at h
    rw [List.getD_eq_getElem?_getD, List.getElem?_eq_getElem hj] at h
    exact h
  unfold negs
  have hpos : 0 < o.countP fun x => decide (x < 0) := List.countP_pos_iff.2 ⟨_, List.getElem_mem hj, by simpa using hr⟩
  rw [List.countP_set hj]
  have e1 : decide (i < 0) = false := decide_eq_false (by omega)
  have e2 : decide (o[j.toNat] < 0) = true := decide_eq_true hr
  simp only [e1, e2, if_true]
  simp
  omega
theorem visit1_fine {l : List Cell} {i : Int} (hi : 0 ≤ i) {s : List Int × List Int} (h : Fine l s.1 s.2) (d : Cell) :
    Fine l (visit1 l i s d).1 (visit1 l i s d).2 ∧ negs (visit1 l i s d).1 + (visit1 l i s d).2.length = negs s.1 + s.2.length ∧ s.2.length ≤ (visit1 l i s d).2.length ∧ ∀ j : Int, 0 ≤ rd s.1 j → 0 ≤ rd (visit1 l i s d).1 j := by
  unfold visit1
  by_cases hc : idxC l d ≥ 0 ∧ rd s.1 (idxC l d) < 0
  · rw [if_pos hc]
    have hlt := idxC_lt l d
    have hln := h.len
    refine ⟨⟨by simpa using h.len, fun j hj => ?_⟩, ?_, by simp, fun j hj => ?_⟩
    · rcases List.mem_append.1 hj with hj | hj
      · exact h.rng j hj
      · simp at hj; omega
    · have := negs_set s.1 (idxC l d) i hc.1 (by omega) hc.2 hi
      simp only [List.length_append, List.length_singleton]
      omega
    · simp only
      rw [rd_set _ _ _ _ (by omega)]
      split
      · exact hi
      · exact hj
  · rw [if_neg hc]
    exact ⟨h, rfl, Nat.le_refl _, fun _ h => h⟩
theorem visit_fine {l : List Cell} {i : Int} (hi : 0 ≤ i) : ∀ (ds : List Cell) {s : List Int × List Int}, Fine l s.1 s.2 →
    Fine l (visit l i ds s).1 (visit l i ds s).2 ∧ negs (visit l i ds s).1 + (visit l i ds s).2.length = negs s.1 + s.2.length ∧ s.2.length ≤ (visit l i ds s).2.length ∧ ∀ j : Int, 0 ≤ rd s.1 j → 0 ≤ rd (visit l i ds s).1 j
  | [], s, h => ⟨h, rfl, Nat.le_refl _, fun _ h => h⟩
  | d :: r, s, h => by
    obtain ⟨h1, h2, h3, h4⟩ := visit1_fine hi h d
    obtain ⟨h5, h6, h7, h8⟩ := visit_fine hi r h1
    exact ⟨h5, h6.trans h2, Nat.le_trans h3 h7, fun j hj => h8 j (h4 j hj)⟩
theorem visit_snoc (l : List Cell) (i : Int) (ds : List Cell) (d : Cell) (s : List Int × List Int) : visit l i (ds ++ [d]) s = visit1 l i (visit l i ds s) d := by
  simp [visit]
def bfs (nb : Cell → List Cell) (l : List Cell) (i : Int) : Nat → List Int → List Int → List Int
  | 0, o, _ => o
  | _ + 1, o, [] => o
  | n + 1, o, c :: q => bfs nb l i n (visit l i (nb (rd_T59 l c)) (o, q)).1 (visit l i (nb (rd_T59 l c)) (o, q)).2
theorem bfs_nil (nb : Cell → List Cell) (l : List Cell) (i : Int) (n : Nat) (o : List Int) : bfs nb l i n o [] = o := by cases n <;> rfl
theorem bfs_fine {nb : Cell → List Cell} {l : List Cell} {i : Int} (hi : 0 ≤ i) : ∀ (n : Nat) (o q : List Int), Fine l o q → (bfs nb l i n o q).length = l.length ∧ ∀ j : Int, 0 ≤ rd o j → 0 ≤ rd (bfs nb l i n o q) j
  | 0, o, q, h => ⟨h.len, fun _ h => h⟩
  | n + 1, o, [], h => ⟨h.len, fun _ h => h⟩
  | n + 1, o, c :: q, h => by
    have h' : Fine l o q := ⟨h.len, fun j hj => h.rng j (List.mem_cons_of_mem _ hj)⟩
    obtain ⟨h1, _, _, h4⟩ := visit_fine hi (nb (rd_T59 l c)) (s := (o, q)) h'
    obtain ⟨h5, h6⟩ := bfs_fine hi n _ _ h1
    exact ⟨h5, fun j hj => h6 j (h4 j hj)⟩
def partsF (nb : Cell → List Cell) (l : List Cell) : Int → List Cell → List Int → List Int
  | _, [], o => o
  | i, _ :: r, o => partsF nb l (i + 1) r (if rd o i ≥ 0 then o else bfs nb l i l.length (o.set i.toNat i) [i])
def partsR (nb : Cell → List Cell) (l : List Cell) : List Int := partsF nb l 0 l (List.replicate l.length (-1))
theorem step_fine {l : List Cell} {o : List Int} {i : Nat} (hl : o.length = l.length) (hi : i < l.length) (h : ¬ rd o (i : Int) ≥ 0) : Fine l (o.set i (i : Int)) [(i : Int)] ∧ negs (o.set i (i : Int)) + 1 ≤ l.length := by
  refine ⟨⟨by simpa using hl, fun j hj => by simp at hj; omega⟩, ?_⟩
  have h1 := negs_set o (i : Int) (i : Int) (by omega) (by omega) (by omega) (by omega)
  rw [Int.toNat_natCast] at h1
  have h2 : negs o ≤ o.length := List.countP_le_length
  omega
theorem step_next {nb : Cell → List Cell} {l : List Cell} {o : List Int} {i : Nat} (hl : o.length = l.length) (hi : i < l.length) (hd : ∀ j : Nat, j < i → 0 ≤ rd o (j : Int)) :
    (if rd o (i : Int) ≥ 0 then o else bfs nb l (i : Int) l.length (o.set i (i : Int)) [(i : Int)]).length = l.length ∧ ∀ j : Nat, j < i + 1 → 0 ≤ rd (if rd o (i : Int) ≥ 0 then o else bfs nb l (i : Int) l.length (o.set i (i : Int)) [(i : Int)]) (j : Int) := by
  by_cases h : rd o (i : Int) ≥ 0
  · rw [if_pos h]
    refine ⟨hl, fun j hj => ?_⟩
    by_cases e : j = i
    · exact e ▸ h
    · exact hd j (by omega)
  · rw [if_neg h]
    obtain ⟨h1, h2⟩ := step_fine hl hi h
    obtain ⟨h3, h4⟩ := bfs_fine (nb := nb) (i := (i : Int)) (by omega) l.length _ _ h1
    refine ⟨h3, fun j hj => h4 _ ?_⟩
    rw [rd_set _ _ _ _ (by omega), Int.toNat_natCast]
    split
    · omega
    · exact hd j (by omega)
theorem partsF_fine {nb : Cell → List Cell} {l : List Cell} : ∀ (r pre : List Cell) (o : List Int), l = pre ++ r → o.length = l.length → (∀ j : Nat, j < pre.length → 0 ≤ rd o (j : Int)) → (partsF nb l (pre.length : Int) r o).length = l.length ∧ ∀ j : Nat, j < l.length → 0 ≤ rd (partsF nb l (pre.length : Int) r o) (j : Int)
  | [], pre, o, h, hl, hd => by
    rw [List.append_nil] at h
    subst h
    exact ⟨hl, hd⟩
  | c :: r, pre, o, h, hl, hd => by
    obtain ⟨h1, h2⟩ := step_next (nb := nb) (l := l) (o := o) (i := pre.length) hl (by rw [h]; simp) hd
    have := partsF_fine (nb := nb) r (pre ++ [c]) _ (by rw [h]; simp) h1 (by simpa using h2)
    rw [List.length_append] at this
    exact this
theorem partsR_len (nb : Cell → List Cell) (l : List Cell) : (partsR nb l).length = l.length := (partsF_fine l [] _ rfl (by simp) (fun j hj => by simp at hj)).1
theorem partsR_pos (nb : Cell → List Cell) (l : List Cell) : ∀ x ∈ partsR nb l, 0 ≤ x := by
  intro x hx
  obtain ⟨j, hj, e⟩ := List.getElem_of_mem hx
  have h := (partsF_fine (nb := nb) (l := l) l [] (List.replicate l.length (-1)) rfl (by simp) (fun j hj => by simp at hj)).2 j (by have := partsR_len nb l; omega)
  have h' : 0 ≤ rd (partsR nb l) (j : Int) := h
  unfold rd at h'
  rw [List.getD_eq_getElem?_getD, Int.toNat_natCast, List.getElem?_eq_getElem hj] at h'
  exact e ▸ h'
theorem wf64 {n : Int} (h : -9223372036854775808 ≤ n) (h' : n ≤ 9223372036854775807) : (Lit.int .i64 n).wf = true := by
  simp only [Lit.wf, IntKind.min, IntKind.max, IntKind.signed, IntKind.bits, Bool.and_eq_true, decide_eq_true_eq, if_true]; omega
theorem wf_wrap (n : Int) : (Lit.int .i64 (wrap64 n)).wf = true := wf64 (by unfold wrap64; omega) (by unfold wrap64; omega)
theorem wfC_ok {c : Cell} (h : okC c) : wfC c = true := by
  unfold wfC
  unfold okC ok1 at h
  rw [wf64 (by omega) (by omega), wf64 (by omega) (by omega)]
  rfl
theorem lastIdx_eq (c : Cell) : ∀ (l : List Cell) (i : Nat), l.Nodup → lastIdx l c i = if idxF l c (i : Int) ≥ 0 then some (idxF l c (i : Int)).toNat else none
  | [], i, _ => by simp [lastIdx, idxF]
  | a :: r, i, h => by
    obtain ⟨h1, h2⟩ := List.nodup_cons.1 h
    have ih := lastIdx_eq c r (i + 1) h2
    have e : ((i + 1 : Nat) : Int) = (i : Int) + 1 := by omega
    rw [e] at ih
    unfold lastIdx idxF
    rw [ih]
    by_cases hs : sameC a c = true
    · have hac := sameC_iff.1 hs
      rw [if_pos hs]
      have hn : ¬ idxF r c ((i : Int) + 1) ≥ 0 := by
        rcases idxF_spec r c ((i : Int) + 1) (by omega) with ⟨h3, _⟩ | ⟨j, _, _, h3, _⟩
        · omega
        · exact absurd (List.mem_of_getElem? h3) (hac ▸ h1)
      rw [if_neg hn]
      have : a.f0 = c.f0 ∧ a.f1 = c.f1 := by rw [hac]; exact ⟨rfl, rfl⟩
      simp only [this, and_self, if_true]
      simp
    · rw [if_neg hs]
      have hne : ¬ (a.f0 = c.f0 ∧ a.f1 = c.f1) := by
        intro h3
        apply hs
        simp [sameC, h3.1, h3.2]
      by_cases hg : idxF r c ((i : Int) + 1) ≥ 0
      · rw [if_pos hg]
      · rw [if_neg hg]
        simp only [hne, if_false]
theorem look_eq (l : List Cell) (d : Cell) (hn : l.Nodup) (hw : wfC d = true) : impl_partsLook.f l d.f0 d.f1 = some (if idxC l d ≥ 0 then (idxC l d, true) else (0, false)) := by
  unfold impl_partsLook.f
  have hw' : wfC ⟨d.f0, d.f1⟩ = true := hw
  rw [if_pos hw']
  have := lastIdx_eq d l 0 hn
  have e : lastIdx l ⟨d.f0, d.f1⟩ 0 = if idxC l d ≥ 0 then some (idxC l d).toNat else none := this
  rw [e]
  by_cases h : idxC l d ≥ 0
  · rw [if_pos h, if_pos h]
    simp only [Int.toNat_of_nonneg h]
  · rw [if_neg h, if_neg h]
def oneB (l : List Int) : Bool := l.all fun x => decide (x = 0)
theorem visit1_stable {l : List Cell} {i : Int} {s : List Int × List Int} (h : Fine l s.1 s.2) (d : Cell) (j : Int) (hj : 0 ≤ j) : (0 ≤ rd s.1 j → rd (visit1 l i s d).1 j = rd s.1 j) ∧ (rd (visit1 l i s d).1 j = rd s.1 j ∨ rd (visit1 l i s d).1 j = i) := by
  unfold visit1
  by_cases hc : idxC l d ≥ 0 ∧ rd s.1 (idxC l d) < 0
  · rw [if_pos hc]
    have hlt := idxC_lt l d
    have hln := h.len
    simp only
    rw [rd_set _ _ _ _ (by omega)]
    by_cases e : j.toNat = (idxC l d).toNat
    · rw [if_pos e]
      have : j = idxC l d := by omega
      subst this
      exact ⟨fun h => by omega, .inr rfl⟩
    · rw [if_neg e]
      exact ⟨fun _ => rfl, .inl rfl⟩
  · rw [if_neg hc]
    exact ⟨fun _ => rfl, .inl rfl⟩
theorem visit_stable {l : List Cell} {i : Int} (hi : 0 ≤ i) (j : Int) (hj : 0 ≤ j) : ∀ (ds : List Cell) {s : List Int × List Int}, Fine l s.1 s.2 → (0 ≤ rd s.1 j → rd (visit l i ds s).1 j = rd s.1 j) ∧ (rd (visit l i ds s).1 j = rd s.1 j ∨ rd (visit l i ds s).1 j = i)
  | [], s, h => ⟨fun _ => rfl, .inl rfl⟩
  | d :: r, s, h => by
    obtain ⟨h1, h2⟩ := visit1_stable (i := i) h d j hj
    obtain ⟨h3, h4⟩ := visit_stable hi j hj r (visit1_fine hi h d).1
    refine ⟨fun h5 => (h3 (by rw [h1 h5]; exact h5)).trans (h1 h5), ?_⟩
    show rd (visit l i r (visit1 l i s d)).1 j = _ ∨ _
    rcases h4 with h4 | h4
    · rcases h2 with h2 | h2
      · exact .inl (h4.trans h2)
      · exact .inr (h4.trans h2)
    · exact .inr h4
theorem bfs_stable {nb : Cell → List Cell} {l : List Cell} {i : Int} (hi : 0 ≤ i) (j : Int) (hj : 0 ≤ j) : ∀ (n : Nat) (o q : List Int), Fine l o q → (0 ≤ rd o j → rd (bfs nb l i n o q) j = rd o j) ∧ (rd (bfs nb l i n o q) j = rd o j ∨ rd (bfs nb l i n o q) j = i)
  | 0, o, q, h => ⟨fun _ => rfl, .inl rfl⟩
  | n + 1, o, [], h => ⟨fun _ => rfl, .inl rfl⟩
  | n + 1, o, c :: q, h => by
    have h' : Fine l o q := ⟨h.len, fun j hj => h.rng j (List.mem_cons_of_mem _ hj)⟩
    obtain ⟨h1, h2⟩ := visit_stable hi j hj (nb (rd_T59 l c)) (s := (o, q)) h'
    obtain ⟨h3, h4⟩ := bfs_stable (nb := nb) hi j hj n _ _ (visit_fine hi (nb (rd_T59 l c)) (s := (o, q)) h').1
    refine ⟨fun h5 => (h3 (by rw [h1 h5]; exact h5)).trans (h1 h5), ?_⟩
    unfold bfs
    rcases h4 with h4 | h4
    · rcases h2 with h2 | h2
      · exact .inl (h4.trans h2)
      · exact .inr (h4.trans h2)
    · exact .inr h4
theorem partsF_stable {nb : Cell → List Cell} {l : List Cell} (j : Int) (hj : 0 ≤ j) : ∀ (r pre : List Cell) (o : List Int), l = pre ++ r → o.length = l.length → 0 ≤ rd o j → rd (partsF nb l (pre.length : Int) r o) j = rd o j
  | [], pre, o, h, hl, hd => rfl
  | c :: r, pre, o, h, hl, hd => by
    have hp : pre.length < l.length := by rw [h]; simp
    have e : rd (if rd o (pre.length : Int) ≥ 0 then o else bfs nb l (pre.length : Int) l.length (o.set pre.length (pre.length : Int)) [(pre.length : Int)]) j = rd o j ∧ (if rd o (pre.length : Int) ≥ 0 then o else bfs nb l (pre.length : Int) l.length (o.set pre.length (pre.length : Int)) [(pre.length : Int)]).length = l.length := by
      by_cases hg : rd o (pre.length : Int) ≥ 0
      · rw [if_pos hg]; exact ⟨rfl, hl⟩
      · rw [if_neg hg]
        obtain ⟨h1, _⟩ := step_fine hl hp hg
        have e1 : rd (o.set pre.length (pre.length : Int)) j = rd o j := by
          rw [rd_set _ _ _ _ (by omega), if_neg]
          intro e
          have : j = (pre.length : Int) := by omega
          exact hg (this ▸ hd)
        refine ⟨?_, (bfs_fine (by omega) l.length _ _ h1).1⟩
        rw [(bfs_stable (nb := nb) (i := (pre.length : Int)) (by omega) j hj l.length _ _ h1).1 (by rw [e1]; exact hd), e1]
    have := partsF_stable (nb := nb) j hj r (pre ++ [c]) _ (by rw [h]; simp) e.2 (by rw [e.1]; exact hd)
    rw [List.length_append] at this
    exact this.trans e.1
theorem partsF_bad {nb : Cell → List Cell} {l : List Cell} : ∀ (r pre : List Cell) (o : List Int), l = pre ++ r → o.length = l.length → 0 < pre.length → (∃ j : Nat, pre.length ≤ j ∧ j < l.length ∧ rd o (j : Int) < 0) → ∃ j : Nat, j < l.length ∧ 0 < rd (partsF nb l (pre.length : Int) r o) (j : Int)
  | [], pre, o, h, hl, h0, ⟨j, h1, h2, h3⟩ => by rw [List.append_nil] at h; subst h; omega
  | c :: r, pre, o, h, hl, h0, ⟨j, h1, h2, h3⟩ => by
    have hp : pre.length < l.length := by rw [h]; simp
    have hx : l = (pre ++ [c]) ++ r := by rw [h]; simp
    have hle : ((pre ++ [c]).length : Int) = (pre.length : Int) + 1 := by simp
    by_cases hg : rd o (pre.length : Int) ≥ 0
    · have hj : j ≠ pre.length := fun e => by rw [e] at h3; omega
      have := partsF_bad (nb := nb) r (pre ++ [c]) o hx hl (by simp) ⟨j, by simp; omega, h2, h3⟩
      unfold partsF
      rw [if_pos hg]
      rw [hle] at this
      exact this
    · obtain ⟨h4, _⟩ := step_fine hl hp hg
      have e1 : rd (o.set pre.length (pre.length : Int)) (pre.length : Int) = (pre.length : Int) := by
        rw [rd_set _ _ _ _ (by omega), Int.toNat_natCast, if_pos rfl]
      have e2 := (bfs_stable (nb := nb) (i := (pre.length : Int)) (by omega) (pre.length : Int) (by omega) l.length _ _ h4).1 (by rw [e1]; omega)
      have e3 := partsF_stable (nb := nb) (pre.length : Int) (by omega) r (pre ++ [c]) _ hx (bfs_fine (nb := nb) (i := (pre.length : Int)) (by omega) l.length _ _ h4).1 (by rw [e2, e1]; omega)
      refine ⟨pre.length, hp, ?_⟩
      unfold partsF
      rw [if_neg hg, Int.toNat_natCast]
      rw [hle] at e3
      rw [e3, e2, e1]
      omega
def first (nb : Cell → List Cell) (l : List Cell) : List Int := bfs nb l 0 l.length ((List.replicate l.length (-1 : Int)).set 0 0) [0]
theorem rd_neg {o : List Int} (h : ∀ j : Nat, j < o.length → 0 ≤ rd o (j : Int)) : negs o = 0 := by
  unfold negs
  rw [List.countP_eq_zero]
  intro x hx
  obtain ⟨j, hj, e⟩ := List.getElem_of_mem hx
  have := h j hj
  unfold rd at this
  rw [List.getD_eq_getElem?_getD, Int.toNat_natCast, List.getElem?_eq_getElem hj] at this
  have h' : 0 ≤ x := e ▸ this
  simpa using h'
theorem neg_rd {o : List Int} (h : negs o = 0) (j : Nat) (hj : j < o.length) : 0 ≤ rd o (j : Int) := by
  unfold negs at h
  rw [List.countP_eq_zero] at h
  have := h o[j] (List.getElem_mem hj)
  unfold rd
  rw [List.getD_eq_getElem?_getD, Int.toNat_natCast, List.getElem?_eq_getElem hj]
  simpa using this
theorem oneB_rd {o : List Int} : oneB o = true ↔ ∀ j : Nat, j < o.length → rd o (j : Int) = 0 := by
  unfold oneB
  rw [List.all_eq_true]
  constructor
  · intro h j hj
    unfold rd
    rw [List.getD_eq_getElem?_getD, Int.toNat_natCast, List.getElem?_eq_getElem hj]
    simpa using h _ (List.getElem_mem hj)
  · intro h x hx
    obtain ⟨j, hj, e⟩ := List.getElem_of_mem hx
    have := h j hj
    unfold rd at this
    rw [List.getD_eq_getElem?_getD, Int.toNat_natCast, List.getElem?_eq_getElem hj] at this
    have h' : x = 0 := e ▸ this
    simpa using h'
theorem rd_rep {n j : Nat} (h : j < n) : rd (List.replicate n (-1 : Int)) (j : Int) = -1 := by
  unfold rd
  rw [List.getD_eq_getElem?_getD, Int.toNat_natCast, List.getElem?_eq_getElem (by simpa using h)]
  simp
theorem first_fine (l : List Cell) (h0 : l ≠ []) : Fine l ((List.replicate l.length (-1 : Int)).set 0 0) [0] ∧ negs ((List.replicate l.length (-1 : Int)).set 0 0) + 1 = l.length := by
  have hp := List.length_pos_iff.2 h0
  refine ⟨⟨by simp, fun j hj => by simp at hj; omega⟩, ?_⟩
  have h1 := negs_set (List.replicate l.length (-1 : Int)) 0 0 (by omega) (by simp; omega) (by have := rd_rep (n := l.length) (j := 0) hp; rw [Int.natCast_zero] at this; omega) (by omega)
  have h2 : negs (List.replicate l.length (-1 : Int)) = l.length := by
    unfold negs
    rw [List.countP_replicate]
    simp
  rw [h2] at h1
  exact h1
theorem oneB_first (nb : Cell → List Cell) (l : List Cell) (h0 : l ≠ []) : oneB (partsR nb l) = decide (negs (first nb l) = 0) := by
  have hp := List.length_pos_iff.2 h0
  obtain ⟨hf, _⟩ := first_fine l h0
  obtain ⟨c, r, hcr⟩ : ∃ c r, l = c :: r := by cases l with | nil => exact absurd rfl h0 | cons c r => exact ⟨c, r, rfl⟩
  have hfl : (first nb l).length = l.length := (bfs_fine (nb := nb) (i := 0) (by omega) l.length _ _ hf).1
  have e : partsR nb l = partsF nb l 1 r (first nb l) := by
    unfold partsR
    have : ∀ (o : List Int), rd o 0 < 0 → partsF nb l 0 (c :: r) o = partsF nb l 1 r (bfs nb l 0 l.length (o.set 0 0) [0]) := by
      intro o ho
      rw [partsF, if_neg (by omega)]
      rfl
    rw [show partsF nb l 0 l (List.replicate l.length (-1)) = partsF nb l 0 (c :: r) (List.replicate l.length (-1)) from by rw [← hcr]]
    rw [this _ (by have := rd_rep (n := l.length) (j := 0) hp; rw [Int.natCast_zero] at this; omega)]
    rfl
  have hrng : ∀ j : Nat, j < l.length → rd (first nb l) (j : Int) = -1 ∨ rd (first nb l) (j : Int) = 0 := by
    intro j hj
    rcases (bfs_stable (nb := nb) (i := 0) (by omega) (j : Int) (by omega) l.length _ _ hf).2 with h | h
    · have h' : rd (first nb l) (j : Int) = rd ((List.replicate l.length (-1 : Int)).set 0 0) (j : Int) := h
      rw [rd_set _ _ _ _ (by simpa using hp), Int.toNat_natCast, rd_rep hj] at h'
      by_cases e0 : j = 0
      · rw [if_pos e0] at h'; exact .inr h'
      · rw [if_neg e0] at h'; exact .inl h'
    · exact .inr h
  rw [Bool.eq_iff_iff, decide_eq_true_eq, oneB_rd, partsR_len]
  have hx : l = [c] ++ r := hcr
  constructor
  · intro h
    refine Decidable.byContradiction fun hn => ?_
    have hex : ∃ j : Nat, j < l.length ∧ rd (first nb l) (j : Int) < 0 := by
      refine Decidable.byContradiction fun hc => hn (rd_neg fun j hj => ?_)
      rw [hfl] at hj
      refine Decidable.byContradiction fun h5 => hc ⟨j, hj, by omega⟩
    obtain ⟨j, hj, hneg⟩ := hex
    have hj0 : 1 ≤ j := by
      refine Decidable.byContradiction fun h5 => ?_
      have : j = 0 := by omega
      subst this
      have h6 := (bfs_stable (nb := nb) (i := 0) (by omega) ((0 : Nat) : Int) (by omega) l.length _ _ hf).1 (by
        rw [rd_set _ _ _ _ (by simpa using hp), Int.toNat_natCast, if_pos rfl]; omega)
      rw [rd_set _ _ _ _ (by simpa using hp), Int.toNat_natCast, if_pos rfl] at h6
      have h7 : rd (first nb l) ((0 : Nat) : Int) = 0 := h6
      omega
    obtain ⟨q, hq, hpos⟩ := partsF_bad (nb := nb) r [c] (first nb l) hx hfl (by simp) ⟨j, hj0, hj, hneg⟩
    have := h q hq
    rw [e] at this
    have hpos' : 0 < rd (partsF nb l 1 r (first nb l)) (q : Int) := hpos
    omega
  · intro h j hj
    rw [e]
    have h1 := neg_rd h j (by rw [hfl]; exact hj)
    have h2 := partsF_stable (nb := nb) (j : Int) (by omega) r [c] (first nb l) hx hfl h1
    have h3 : rd (partsF nb l 1 r (first nb l)) (j : Int) = rd (first nb l) (j : Int) := h2
    rw [h3]
    rcases hrng j hj with h4 | h4
    · omega
    · exact h4
theorem idxC_inj {l : List Cell} {c d : Cell} (hc : c ∈ l) (h : idxC l c = idxC l d) : c = d := by
  rcases idxC_spec l c with ⟨h1, h2⟩ | ⟨j, h1, h2, h3, _⟩
  · exact absurd hc h2
  · rcases idxC_spec l d with ⟨g1, g2⟩ | ⟨i, g1, g2, g3, _⟩
    · omega
    · have : j = i := by omega
      subst this
      exact Option.some.inj (h3.symm.trans g3)
theorem idxC_at {l : List Cell} (hn : l.Nodup) {j : Nat} (hj : j < l.length) : idxC l l[j] = (j : Int) := by
  rcases idxC_spec l l[j] with ⟨h1, h2⟩ | ⟨i, h1, h2, h3, h4⟩
  · exact absurd (List.getElem_mem hj) h2
  · rw [h2]
    by_cases e : i < j
    · rw [List.getElem?_eq_getElem h1] at h3
      have h3' := Option.some.inj h3
      have := List.pairwise_iff_getElem.1 hn i j h1 hj e
      exact absurd h3' this
    · by_cases e2 : j < i
      · exact absurd (List.getElem?_eq_getElem hj) (h4 j e2)
      · have : i = j := by omega
        rw [this]
theorem rd_cell {l : List Cell} {j : Int} (h0 : 0 ≤ j) (h1 : j < (l.length : Int)) : rd_T59 l j = l[j.toNat]'(by omega) := by
  unfold rd_T59
  rw [List.getD_eq_getElem?_getD, List.getElem?_eq_getElem (by omega)]
  rfl
def Mk (l : List Cell) (o : List Int) (c : Cell) : Prop := c ∈ l ∧ 0 ≤ rd o (idxC l c)
theorem visit1_mk {l : List Cell} {i : Int} (hi : 0 ≤ i) {s : List Int × List Int} (h : Fine l s.1 s.2) (d c : Cell) :
    (Mk l (visit1 l i s d).1 c ↔ Mk l s.1 c ∨ (c = d ∧ d ∈ l)) ∧ (∀ j ∈ s.2, j ∈ (visit1 l i s d).2) ∧ (∀ c, Mk l (visit1 l i s d).1 c → ¬ Mk l s.1 c → idxC l c ∈ (visit1 l i s d).2) ∧ (∀ j ∈ (visit1 l i s d).2, j ∈ s.2 ∨ ∃ c, j = idxC l c ∧ Mk l (visit1 l i s d).1 c) := by
  unfold visit1
  have hln := h.len
  by_cases hc : idxC l d ≥ 0 ∧ rd s.1 (idxC l d) < 0
  · rw [if_pos hc]
    have hdl := (idxC_mem l d).1 hc.1
    have hlt := idxC_lt l d
    have key (c : Cell) : Mk l (s.1.set (idxC l d).toNat i) c ↔ Mk l s.1 c ∨ (c = d ∧ d ∈ l) := by
      unfold Mk
      rw [rd_set _ _ _ _ (by omega)]
      constructor
      · rintro ⟨h1, h2⟩
        have := (idxC_mem l c).2 h1
        by_cases e : (idxC l c).toNat = (idxC l d).toNat
        · exact .inr ⟨idxC_inj h1 (by omega), hdl⟩
        · rw [if_neg e] at h2
          exact .inl ⟨h1, h2⟩
      · rintro (⟨h1, h2⟩ | ⟨rfl, h2⟩)
        · refine ⟨h1, ?_⟩
          split
          · exact hi
          · exact h2
        · exact ⟨h2, by rw [if_pos rfl]; exact hi⟩
    refine ⟨key c, fun j hj => List.mem_append_left _ hj, fun c h1 h2 => ?_, fun j hj => ?_⟩
    · rcases (key c).1 h1 with h3 | ⟨rfl, _⟩
      · exact absurd h3 h2
      · simp
    · rcases List.mem_append.1 hj with hj | hj
      · exact .inl hj
      · simp at hj
        exact .inr ⟨d, hj, (key d).2 (.inr ⟨rfl, hdl⟩)⟩
  · rw [if_neg hc]
    refine ⟨⟨fun h => .inl h, fun h1 => ?_⟩, fun j hj => hj, fun c h1 h2 => absurd h1 h2, fun j hj => .inl hj⟩
    rcases h1 with h1 | ⟨rfl, h2⟩
    · exact h1
    · have h3 := (idxC_mem l c).2 h2
      exact ⟨h2, by
        refine Decidable.byContradiction fun h4 => hc ⟨h3, by omega⟩⟩
theorem visit_mk {l : List Cell} {i : Int} (hi : 0 ≤ i) : ∀ (ds : List Cell) {s : List Int × List Int}, Fine l s.1 s.2 →
    (∀ c, Mk l (visit l i ds s).1 c ↔ Mk l s.1 c ∨ (c ∈ ds ∧ c ∈ l)) ∧ (∀ j ∈ s.2, j ∈ (visit l i ds s).2) ∧ (∀ c, Mk l (visit l i ds s).1 c → ¬ Mk l s.1 c → idxC l c ∈ (visit l i ds s).2) ∧ (∀ j ∈ (visit l i ds s).2, j ∈ s.2 ∨ ∃ c, j = idxC l c ∧ Mk l (visit l i ds s).1 c)
  | [], s, h => ⟨fun c => by simp [visit], fun j hj => hj, fun c h1 h2 => absurd h1 h2, fun j hj => .inl hj⟩
  | d :: r, s, h => by
    have h1 := (visit1_fine hi h d).1
    obtain ⟨_, a2, a3, a4⟩ := visit1_mk hi h d d
    obtain ⟨b1, b2, b3, b4⟩ := visit_mk hi r h1
    have e : visit l i (d :: r) s = visit l i r (visit1 l i s d) := rfl
    rw [e]
    refine ⟨fun c => ?_, fun j hj => b2 j (a2 j hj), fun c h2 h3 => ?_, fun j hj => ?_⟩
    · rw [b1 c, (visit1_mk hi h d c).1]
      constructor
      · rintro ((h2 | ⟨rfl, h2⟩) | ⟨h2, h3⟩)
        · exact .inl h2
        · exact .inr ⟨List.mem_cons_self, h2⟩
        · exact .inr ⟨List.mem_cons_of_mem _ h2, h3⟩
      · rintro (h2 | ⟨h2, h3⟩)
        · exact .inl (.inl h2)
        · rcases List.mem_cons.1 h2 with rfl | h2
          · exact .inl (.inr ⟨rfl, h3⟩)
          · exact .inr ⟨h2, h3⟩
    · by_cases h4 : Mk l (visit1 l i s d).1 c
      · exact b2 _ (a3 c h4 h3)
      · exact b3 c h2 h4
    · rcases b4 j hj with h2 | h2
      · rcases a4 j h2 with h3 | ⟨c, rfl, h3⟩
        · exact .inl h3
        · exact .inr ⟨c, rfl, (b1 c).2 (.inl h3)⟩
      · exact .inr h2
theorem bfs_closed {nb : Cell → List Cell} {l : List Cell} {i : Int} {h : Cell} (hi : 0 ≤ i) (hn : l.Nodup) : ∀ (n : Nat) (o q : List Int), Fine l o q → negs o + q.length ≤ n →
    (∀ c, Mk l o c → Rch nb l h c) → (∀ c, Mk l o c → idxC l c ∉ q → ∀ d ∈ nb c, d ∈ l → Mk l o d) → (∀ j ∈ q, Mk l o (rd_T59 l j)) →
    (∀ c, Mk l (bfs nb l i n o q) c → Rch nb l h c) ∧ (∀ c, Mk l (bfs nb l i n o q) c → ∀ d ∈ nb c, d ∈ l → Mk l (bfs nb l i n o q) d) ∧ (∀ c, Mk l o c → Mk l (bfs nb l i n o q) c)
  | 0, o, q, hf, hm, h1, h2, h3 => by
    have hq : q = [] := List.length_eq_zero_iff.1 (by omega)
    subst hq
    exact ⟨h1, fun c hc d hd hl => h2 c hc (by simp) d hd hl, fun c hc => hc⟩
  | n + 1, o, [], hf, hm, h1, h2, h3 => ⟨h1, fun c hc d hd hl => h2 c hc (by simp) d hd hl, fun c hc => hc⟩
  | n + 1, o, j :: q, hf, hm, h1, h2, h3 => by
    have hf' : Fine l o q := ⟨hf.len, fun j hj => hf.rng j (List.mem_cons_of_mem _ hj)⟩
    obtain ⟨g1, g2, _, _⟩ := visit_fine hi (nb (rd_T59 l j)) (s := (o, q)) hf'
    obtain ⟨m1, m2, m3, m4⟩ := visit_mk hi (nb (rd_T59 l j)) (s := (o, q)) hf'
    have hj := hf.rng j List.mem_cons_self
    have hx := h3 j List.mem_cons_self
    have hix : idxC l (rd_T59 l j) = j := by
      rw [rd_cell hj.1 hj.2, idxC_at hn]
      omega
    simp only [List.length_cons] at hm
    have ih := bfs_closed (nb := nb) (h := h) hi hn n _ _ g1 (by simp only at g2; omega) (fun c hc => by
      rcases (m1 c).1 hc with hc | ⟨hc, hcl⟩
      · exact h1 c hc
      · exact (h1 _ hx).step hc hcl) (fun c hc hcq d hd hl => by
      by_cases ho : Mk l o c
      · by_cases e : idxC l c = j
        · have : c = rd_T59 l j := idxC_inj ho.1 (e.trans hix.symm)
          subst this
          exact (m1 d).2 (.inr ⟨hd, hl⟩)
        · refine (m1 d).2 (.inl (h2 c ho ?_ d hd hl))
          intro hmem
          rcases List.mem_cons.1 hmem with h4 | h4
          · exact e h4
          · exact hcq (m2 _ h4)
      · exact absurd (m3 c hc ho) hcq) (fun i' hi' => by
      rcases m4 i' hi' with h4 | ⟨c, rfl, h4⟩
      · exact (m1 _).2 (.inl (h3 i' (List.mem_cons_of_mem _ h4)))
      · have hc := (idxC_mem l c).2 h4.1
        have : rd_T59 l (idxC l c) = c := by
          rcases idxC_spec l c with ⟨q1, q2⟩ | ⟨k, q1, q2, q3, _⟩
          · exact absurd h4.1 q2
          · rw [q2, rd_cell (by omega) (by omega)]
            have := List.getElem?_eq_getElem q1
            rw [this] at q3
            simpa using q3
        rw [this]
        exact h4)
    exact ⟨ih.1, ih.2.1, fun c hc => ih.2.2 c ((m1 c).2 (.inl hc))⟩
theorem oneB_conn {nb : Cell → List Cell} {l : List Cell} (h0 : l ≠ []) (hn : l.Nodup) (hs : ∀ c ∈ l, ∀ d ∈ l, d ∈ nb c → c ∈ nb d) : oneB (partsR nb l) = true ↔ Conn nb l := by
  have hp := List.length_pos_iff.2 h0
  obtain ⟨hf, hneg⟩ := first_fine l h0
  rw [oneB_first nb l h0, decide_eq_true_eq]
  have h0l : l[0] ∈ l := List.getElem_mem hp
  have hi0 : idxC l l[0] = 0 := idxC_at hn hp
  have hrd : rd_T59 l 0 = l[0] := rd_cell (by omega) (by omega)
  have hmk (c : Cell) : Mk l ((List.replicate l.length (-1 : Int)).set 0 0) c ↔ c = l[0] := by
    unfold Mk
    rw [rd_set _ _ _ _ (by simpa using hp)]
    constructor
    · rintro ⟨h1, h2⟩
      by_cases e : (idxC l c).toNat = 0
      · have := (idxC_mem l c).2 h1
        exact idxC_inj h1 (by omega)
      · rw [if_neg e] at h2
        have h3 := (idxC_mem l c).2 h1
        have h4 := idxC_lt l c
        have h5 := rd_rep (n := l.length) (j := (idxC l c).toNat) (by omega)
        rw [Int.toNat_of_nonneg h3] at h5
        omega
    · rintro rfl
      exact ⟨h0l, by rw [hi0, if_pos (by simp)]; omega⟩
  obtain ⟨r1, r2, r3⟩ := bfs_closed (nb := nb) (h := l[0]) (i := 0) (by omega) hn l.length _ _ hf (by simp only [List.length_singleton]; omega) (fun c hc => by rw [(hmk c).1 hc]; exact Rch.refl) (fun c hc hcq => by
    rw [(hmk c).1 hc, hi0] at hcq
    exact absurd (by simp) hcq) (fun j hj => by
    simp at hj
    subst hj
    rw [hrd]
    exact (hmk _).2 rfl)
  have hfl : (first nb l).length = l.length := (bfs_fine (nb := nb) (i := 0) (by omega) l.length _ _ hf).1
  rw [conn_from hs h0l]
  constructor
  · intro h b hb
    refine r1 b ⟨hb, ?_⟩
    have h1 := (idxC_mem l b).2 hb
    have h2 := idxC_lt l b
    have := neg_rd h (idxC l b).toNat (by rw [hfl]; omega)
    rw [Int.toNat_of_nonneg h1] at this
    exact this
  · intro h
    refine rd_neg fun j hj => ?_
    rw [hfl] at hj
    have hr := h l[j] (List.getElem_mem hj) (fun c => Mk l (first nb l) c) (r3 _ ((hmk _).2 rfl)) (fun c d hc hd hl => r2 c hc d hd hl)
    have := hr.2
    rw [idxC_at hn hj] at this
    exact this
theorem sorted_le (x y : Cell) : (!Go.Proofs.ltOf cmpV y x) = decide (¬ ltC y x) := by
  rw [ltV]
  by_cases h : ltC y x
  · have h' : y.f1 < x.f1 ∨ y.f1 = x.f1 ∧ y.f0 < x.f0 := h
    simp [h, h']
  · have h' : ¬ (y.f1 < x.f1 ∨ y.f1 = x.f1 ∧ y.f0 < x.f0) := h
    simp only [h, h', decide_false]
    rfl
theorem sortC_perm (l : List Cell) : (sortC l).Perm l := List.mergeSort_perm _ _
theorem sortC_len (l : List Cell) : (sortC l).length = l.length := (sortC_perm l).length_eq
theorem sortC_mem {l : List Cell} {c : Cell} : c ∈ sortC l ↔ c ∈ l := (sortC_perm l).mem_iff
theorem sortC_sorted (l : List Cell) : (sortC l).Pairwise fun a b => ¬ ltC b a := by
  have := List.pairwise_mergeSort (le := fun x y : Cell => !Go.Proofs.ltOf cmpV y x) (fun a b c h1 h2 => by
    rw [sorted_le, decide_eq_true_eq] at *
    unfold ltC at *
    omega) (fun a b => by
    rw [sorted_le, sorted_le, Bool.or_eq_true, decide_eq_true_eq, decide_eq_true_eq]
    unfold ltC
    omega) l
  exact this.imp fun h => by rw [sorted_le, decide_eq_true_eq] at h; exact h
theorem eq_of_sorted : ∀ (l l' : List Cell), l.Perm l' → (l.Pairwise fun a b => ¬ ltC b a) → (l'.Pairwise fun a b => ¬ ltC b a) → l = l'
  | [], l', hp, _, _ => (List.Perm.nil_eq hp)
  | a :: r, [], hp, _, _ => absurd hp.symm (by simp)
  | a :: r, b :: s, hp, h1, h2 => by
    obtain ⟨h3, h4⟩ := List.pairwise_cons.1 h1
    obtain ⟨h5, h6⟩ := List.pairwise_cons.1 h2
    have hab : a = b := by
      have ha : a ∈ b :: s := hp.mem_iff.1 List.mem_cons_self
      have hb : b ∈ a :: r := hp.mem_iff.2 List.mem_cons_self
      have n1 : ¬ ltC b a := by
        rcases List.mem_cons.1 hb with e | e
        · rw [e]; unfold ltC; omega
        · exact h3 b e
      have n2 : ¬ ltC a b := by
        rcases List.mem_cons.1 ha with e | e
        · rw [e]; unfold ltC; omega
        · exact h5 a e
      obtain ⟨a0, a1⟩ := a
      obtain ⟨b0, b1⟩ := b
      unfold ltC at n1 n2
      simp only at n1 n2
      simp only [S59.mk.injEq]
      omega
    subst hab
    rw [eq_of_sorted r s (List.Perm.cons_inv hp) h4 h6]
theorem sortC_eq {l l' : List Cell} (hp : l'.Perm l) (hs : l'.Pairwise fun a b => ¬ ltC b a) : sortC l = l' :=
  eq_of_sorted _ _ ((sortC_perm l).trans hp.symm) (sortC_sorted l) hs
theorem sortC_id {l : List Cell} (hs : l.Pairwise fun a b => ¬ ltC b a) : sortC l = l := sortC_eq (List.Perm.refl _) hs
theorem implSorted_eq (l : List Cell) (h0 : 0 < l.length) (h1 : l.length ≤ 1000000000000) : impl_sorted.f l = some (sortC l) := by
  unfold impl_sorted.f impl_Cell_101.f impl_Cell_102__impl_compareCells.f
  rw [if_pos h1, Option.bind_some, if_pos ⟨h0, by omega⟩]
  rfl
def insC (c : Cell) : List Cell → List Cell
  | [] => [c]
  | a :: r => if ltC c a then c :: a :: r else a :: insC c r
theorem insC_perm (c : Cell) : ∀ l : List Cell, (insC c l).Perm (c :: l)
  | [] => List.Perm.refl _
  | a :: r => by
    unfold insC
    split
    · exact List.Perm.refl _
    · exact ((insC_perm c r).cons a).trans (List.Perm.swap c a r)
theorem insC_sorted (c : Cell) : ∀ l : List Cell, (l.Pairwise fun a b => ¬ ltC b a) → (insC c l).Pairwise fun a b => ¬ ltC b a
  | [], _ => by simp [insC]
  | a :: r, h => by
    obtain ⟨h1, h2⟩ := List.pairwise_cons.1 h
    unfold insC
    split
    · rename_i hc
      refine List.pairwise_cons.2 ⟨fun b hb => ?_, h⟩
      rcases List.mem_cons.1 hb with rfl | hb
      · unfold ltC at *; omega
      · have := h1 b hb
        unfold ltC at *; omega
    · rename_i hc
      refine List.pairwise_cons.2 ⟨fun b hb => ?_, insC_sorted c r h2⟩
      rcases List.mem_cons.1 ((insC_perm c r).mem_iff.1 hb) with rfl | hb
      · exact hc
      · exact h1 b hb
theorem specInsert_ev (l : List Cell) (c : Cell) (hl : l.length ≤ 1048576) : Ev (fun k => spec_l02Insert.f k l c.f0 c.f1) (insC c l) := by
  have hs : small l := by unfold small; omega
  unfold spec_l02Insert.f
  have := loop_list l (fun k i (s : List Cell × Bool) => spec_l02Insert.l0 k l s.1 s.2 i c.f0 c.f1) (fun pre suf s => if s.2 = true then s.1 ++ suf else s.1 ++ insC c suf) (fun pre s => s.1.length ≤ pre.length + 1 ∧ (s.2 = false → s.1.length = pre.length)) ?_ ?_ ([], false) ⟨by simp, fun _ => rfl⟩
  · simpa using this
  · rintro ⟨s, b⟩ ⟨h1, h2⟩
    simp only at h1 h2
    simp only [spec_l02Insert.l0, len_lt, if_false]
    cases b
    · refine Ev.neg (by simp) (Ev.pos (by omega) (Ev.of_eq (Ev.now _) ?_))
      simp [insC]
    · refine Ev.pos rfl (Ev.of_eq (Ev.now _) ?_)
      simp
  · rintro pre d suf ⟨s, b⟩ hx ⟨h1, h2⟩ ih
    have hp := pre_len hx
    simp only at h1 h2
    simp only [spec_l02Insert.l0, pre_lt hx, pre_0, if_true, at_pre hx, pre_w hx hs]
    cases b
    · refine Ev.neg (by simp) ?_
      simp only [l02Less_eq, Option.bind_some]
      have h2' := h2 rfl
      by_cases hd : ltC c d
      · have hd' : c.f1 < d.f1 ∨ c.f1 = d.f1 ∧ c.f0 < d.f0 := hd
        refine Ev.pos (by simpa using hd') (Ev.pos (by omega) ?_)
        refine Ev.pos (by simp; omega) (Ev.of_eq (ih ((s ++ [(⟨c.f0, c.f1⟩ : Cell)]) ++ [(⟨d.f0, d.f1⟩ : Cell)], true) ⟨by simp; omega, fun h => by cases h⟩) ?_)
        simp [insC, hd]
      · have hd' : ¬ (c.f1 < d.f1 ∨ c.f1 = d.f1 ∧ c.f0 < d.f0) := hd
        refine Ev.neg (by simpa using hd') (Ev.pos (by omega) (Ev.of_eq (ih (s ++ [(⟨d.f0, d.f1⟩ : Cell)], false) ⟨by simp; omega, fun _ => by simp; omega⟩) ?_))
        simp [insC, hd]
    · refine Ev.pos rfl (Ev.pos (by omega) (Ev.of_eq (ih (s ++ [(⟨d.f0, d.f1⟩ : Cell)], true) ⟨by simp; omega, fun h => by cases h⟩) ?_))
      simp
def insAll : List Cell → List Cell → List Cell
  | acc, [] => acc
  | acc, c :: r => insAll (insC c acc) r
theorem insAll_spec : ∀ (l acc : List Cell), (acc.Pairwise fun a b => ¬ ltC b a) → (insAll acc l).Perm (acc ++ l) ∧ (insAll acc l).Pairwise fun a b => ¬ ltC b a
  | [], acc, h => ⟨by simp [insAll], h⟩
  | c :: r, acc, h => by
    obtain ⟨h1, h2⟩ := insAll_spec r (insC c acc) (insC_sorted c acc h)
    refine ⟨h1.trans ?_, h2⟩
    refine ((insC_perm c acc).append_right r).trans ?_
    exact List.perm_middle.symm
theorem specSortI_ev (l : List Cell) (hl : l.length ≤ 1048576) : Ev (fun k => spec_l02Sort.f k l) (insAll [] l) := by
  have hs : small l := by unfold small; omega
  unfold spec_l02Sort.f
  refine loop_list l (fun k i (s : List Cell) => spec_l02Sort.l0 k l s i) (fun pre suf s => insAll s suf) (fun pre s => s.length = pre.length) ?_ ?_ [] rfl
  · intro s _
    simp only [spec_l02Sort.l0, len_lt, if_false]
    exact Ev.now _
  · intro pre c suf s hx hi ih
    have hp := pre_len hx
    simp only [spec_l02Sort.l0, pre_lt hx, pre_0, if_true, at_pre hx, pre_w hx hs]
    refine Ev.bind (specInsert_ev s c (by omega)) (ih _ ?_)
    rw [(insC_perm c s).length_eq]
    simp [hi]
theorem insAll_eq (l : List Cell) : insAll [] l = sortC l := by
  obtain ⟨h1, h2⟩ := insAll_spec l [] List.Pairwise.nil
  exact (sortC_eq (by simpa using h1) h2).symm
theorem specSort_ev (l : List Cell) (hl : l.length ≤ 1048576) : Ev (fun k => spec_l02Sort.f k l) (sortC l) := by
  rw [← insAll_eq]
  exact specSortI_ev l hl
def moveL (l : List Cell) (x y : Int) : List Cell := l.map fun c => ⟨wrap64 (c.f0 + x), wrap64 (c.f1 + y)⟩
theorem moveL_len (l : List Cell) (x y : Int) : (moveL l x y).length = l.length := by simp [moveL]
theorem specMove_ev (l : List Cell) (x y : Int) (hl : l.length ≤ 1048576) : Ev (fun k => spec_l02Move.f k l x y) (moveL l x y) := by
  have hs : small l := by unfold small; omega
  unfold spec_l02Move.f
  have := loop_list l (fun k i (s : List Cell) => spec_l02Move.l0 k l x y s i) (fun pre suf s => s ++ moveL suf x y) (fun pre s => s.length = pre.length) ?_ ?_ [] rfl
  · simpa using this
  · intro s _
    simp only [spec_l02Move.l0, len_lt, if_false]
    exact Ev.of_eq (Ev.now _) (by simp [moveL])
  · intro pre c suf s hx hi ih
    have hp := pre_len hx
    simp only [spec_l02Move.l0, pre_lt hx, pre_0, if_true, at_pre hx, pre_w hx hs]
    refine Ev.pos (by omega) (Ev.of_eq (ih _ (by simp [hi])) ?_)
    simp [moveL]
theorem implMoved_ev (l : List Cell) (x y : Int) (hl : l.length ≤ 1048576) : Ev (fun k => impl_moved.f k l x y) (moveL l x y) := by
  have hs : small l := by unfold small; omega
  unfold impl_moved.f
  refine Ev.pos (by omega) (Ev.pos (by omega) ?_)
  have := loop_list l (fun k i (s : List Cell) => impl_moved.l0 k x y s l (l.length : Int) i) (fun pre suf s => s ++ moveL suf x y) (fun pre s => s.length = pre.length) ?_ ?_ [] rfl
  · simpa using this
  · intro s _
    simp only [impl_moved.l0, len_lt, if_false]
    exact Ev.of_eq (Ev.now _) (by simp [moveL])
  · intro pre c suf s hx hi ih
    have hp := pre_len hx
    simp only [impl_moved.l0, pre_lt hx, pre_0, if_true, at_pre hx, pre_w hx hs]
    refine Ev.pos (by omega) (Ev.of_eq (ih _ (by simp [hi])) ?_)
    simp [moveL]
def normalL (l : List Cell) : List Cell := moveL l (wrap64 (-(leastOf l).1)) (wrap64 (-(leastOf l).2))
theorem normalL_len (l : List Cell) : (normalL l).length = l.length := moveL_len _ _ _
theorem implNormal_ev (l : List Cell) (hl : l.length ≤ 1048576) (h0 : 0 < l.length) : Ev (fun k => impl_normal.f k l) (normalL l) := by
  unfold impl_normal.f
  refine Ev.bind (implCorner_ev l (by unfold small; omega) h0) (Ev.bind (implMoved_ev l _ _ hl) (Ev.now _))
def rot6 : Nat → Int × Int → Int × Int
  | 0, p => p
  | n + 1, p => rot6 n (wrap64 (-p.2), wrap64 (p.1 + p.2))
def latC (c : Cell) (t : Int) : Int × Int := rot6 (t % 6).toNat (if t ≥ 6 then (c.f1, c.f0) else (c.f0, c.f1))
def latD (t : Int) (c : Cell) : Cell := ⟨(latC c t).1, (latC c t).2⟩
theorem tmod6 {t : Int} (h : 0 ≤ t) : Int.tmod t 6 = ((t % 6).toNat : Int) := by
  rw [Int.tmod_eq_emod_of_nonneg h]
  omega
theorem specLat_l (n : Nat) (hn : n ≤ 1048576) : ∀ p : Int × Int, Ev (fun k => spec_l07Turn.l0 k (n : Int) p.1 p.2) (rot6 n p) := by
  induction n with
  | zero =>
    intro p
    refine Ev.succ ?_
    simp only [spec_l07Turn.l0]
    exact Ev.neg (by simp) (Ev.now _)
  | succ n ih =>
    intro p
    refine Ev.succ ?_
    simp only [spec_l07Turn.l0]
    have e1 : wrap64 (((n + 1 : Nat) : Int) - 1) = (n : Int) := by rw [w64 (by omega) (by omega)]; omega
    refine Ev.pos (by omega) ?_
    simp only [e1]
    exact ih (by omega) (wrap64 (-p.2), wrap64 (p.1 + p.2))
theorem specLat_ev (c : Cell) (t : Int) (h : 0 ≤ t) : Ev (fun k => spec_l07Turn.f k c.f0 c.f1 t) (latC c t) := by
  unfold spec_l07Turn.f latC
  have := specLat_l (t % 6).toNat (by omega)
  by_cases h4 : t ≥ 6
  · rw [if_pos h4]
    refine Ev.pos h4 (Ev.step (fun k => spec_l07Turn.j0.eq_2 _ _ _ _) ?_)
    simp only [tmod6 h]
    exact this (c.f1, c.f0)
  · rw [if_neg h4]
    refine Ev.neg h4 (Ev.step (fun k => spec_l07Turn.j0.eq_2 _ _ _ _) ?_)
    simp only [tmod6 h]
    exact this (c.f0, c.f1)
def latL (l : List Cell) (t : Int) : List Cell := sortC (l.map (latD t))
theorem latL_len (l : List Cell) (t : Int) : (latL l t).length = l.length := by unfold latL; rw [sortC_len]; simp
theorem implLat_l (m : Nat) (hm : m ≤ 1048576) (t : Int) (l s : List Cell) (len_ i_ : Int) {r : List Cell} (n : Nat) : ∀ (i : Nat) (p : Int × Int), i + n = m → s.length ≤ 1048576 →
    Ev (fun k => impl_latticeCells.l0 k t (s ++ [(⟨(rot6 n p).1, (rot6 n p).2⟩ : Cell)]) l len_ (wrap64 (i_ + 1))) r → Ev (fun k => impl_latticeCells.l1 k t s l len_ i_ (m : Int) (i : Int) p.1 p.2) r := by
  induction n with
  | zero =>
    intro i p hi hs hc
    refine Ev.succ ?_
    simp only [impl_latticeCells.l1]
    exact Ev.neg (by omega) (Ev.pos (by omega) hc)
  | succ n ih =>
    intro i p hi hs hc
    refine Ev.succ ?_
    simp only [impl_latticeCells.l1]
    have e1 : wrap64 ((i : Int) + 1) = ((i + 1 : Nat) : Int) := by rw [w64 (by omega) (by omega)]; omega
    refine Ev.pos (by omega) ?_
    simp only [e1]
    exact ih (i + 1) (wrap64 (-p.2), wrap64 (p.1 + p.2)) (by omega) hs hc
theorem implLattice_ev (l : List Cell) (t : Int) (ht : 0 ≤ t) (hl : l.length ≤ 1048576) (h0 : 0 < l.length) : Ev (fun k => impl_latticeCells.f k l t) (latL l t) := by
  have hs : small l := by unfold small; omega
  unfold impl_latticeCells.f latL
  refine Ev.pos (by omega) (Ev.pos (by omega) ?_)
  have := loop_list l (fun k i (s : List Cell) => impl_latticeCells.l0 k t s l (l.length : Int) i) (fun pre suf s => sortC (s ++ suf.map (latD t))) (fun pre s => s.length = pre.length) ?_ ?_ [] rfl
  · simpa using this
  · intro s hi
    have hi' : s.length = l.length := hi
    simp only [impl_latticeCells.l0, len_lt, if_false, implSorted_eq s (by omega) (by omega), Option.bind_some]
    exact Ev.of_eq (Ev.now _) (by simp)
  · intro pre c suf s hx hi ih
    have hp := pre_len hx
    simp only [impl_latticeCells.l0, pre_lt hx, pre_0, if_true, at_pre hx]
    have hc := implLat_l (t % 6).toNat (by omega) t l s (l.length : Int) (pre.length : Int) (r := sortC (s ++ (c :: suf).map (latD t))) (t % 6).toNat 0
    have hih := ih (s ++ [latD t c]) (by simp [hi])
    have e : s ++ [latD t c] ++ suf.map (latD t) = s ++ (c :: suf).map (latD t) := by simp
    simp only [e] at hih
    by_cases h6 : t ≥ 6
    · refine Ev.pos h6 (Ev.step (fun k => impl_latticeCells.j1.eq_2 _ _ _ _ _ _ _ _) ?_)
      simp only [tmod6 ht]
      refine hc (c.f1, c.f0) (by omega) (by omega) ?_
      rw [pre_w hx hs]
      have e2 : (⟨(rot6 (t % 6).toNat (c.f1, c.f0)).1, (rot6 (t % 6).toNat (c.f1, c.f0)).2⟩ : Cell) = latD t c := by unfold latD latC; rw [if_pos h6]
      rw [e2]
      exact hih
    · refine Ev.neg h6 (Ev.step (fun k => impl_latticeCells.j1.eq_2 _ _ _ _ _ _ _ _) ?_)
      simp only [tmod6 ht]
      refine hc (c.f0, c.f1) (by omega) (by omega) ?_
      rw [pre_w hx hs]
      have e2 : (⟨(rot6 (t % 6).toNat (c.f0, c.f1)).1, (rot6 (t % 6).toNat (c.f0, c.f1)).2⟩ : Cell) = latD t c := by unfold latD latC; rw [if_neg h6]
      rw [e2]
      exact hih
theorem specNormal1_ev (l : List Cell) (hl : l.length ≤ 1048576) (h0 : 0 < l.length) : Ev (fun k => spec_l07Normal.f k 1 l) (normalL l) := by
  unfold spec_l07Normal.f
  refine Ev.bind (specLeast_ev l (by unfold small; omega) h0) (Ev.pos rfl (Ev.bind (specMove_ev l _ _ hl) (Ev.now _)))
theorem specForm1_ev (l : List Cell) (t : Int) (ht : 0 ≤ t) (hl : l.length ≤ 1048576) (h0 : 0 < l.length) : Ev (fun k => spec_l07Form.f k 1 l t) (normalL (latL l t)) := by
  have hs : small l := by unfold small; omega
  unfold spec_l07Form.f latL
  have := loop_list l (fun k i (s : List Cell) => spec_l07Form.l0 k 1 l t s i) (fun pre suf s => normalL (sortC (s ++ suf.map (latD t)))) (fun pre s => s.length = pre.length) ?_ ?_ [] rfl
  · simpa using this
  · intro s hi
    have hi' : s.length = l.length := hi
    simp only [spec_l07Form.l0, len_lt, if_false]
    refine Ev.bind (specSort_ev s (by omega)) (Ev.bind (specNormal1_ev _ (by rw [sortC_len]; omega) (by rw [sortC_len]; omega)) (Ev.of_eq (Ev.now _) (by simp)))
  · intro pre c suf s hx hi ih
    have hp := pre_len hx
    simp only [spec_l07Form.l0, pre_lt hx, pre_0, if_true, at_pre hx, pre_w hx hs]
    refine Ev.bind (specLat_ev c t ht) (Ev.pos (by omega) (Ev.of_eq (ih (s ++ [latD t c]) (by simp [hi])) (by simp)))
theorem implHexForm_ev (l : List Cell) (t : Int) (ht : 0 ≤ t) (hl : l.length ≤ 1048576) (h0 : 0 < l.length) : Ev (fun k => impl_hexForm.f k l t) (normalL (latL l t)) := by
  unfold impl_hexForm.f
  exact Ev.bind (implLattice_ev l t ht hl h0) (Ev.bind (implNormal_ev _ (by rw [latL_len]; omega) (by rw [latL_len]; omega)) (Ev.now _))
theorem shape_pos {l : List Cell} (h : shapeB l = true) : 0 < l.length := List.length_pos_iff.2 (shape_ne h)
theorem l01Mod3 (a : Int) : spec_l01Mod.f a 3 = some (a % 3) := by
  unfold spec_l01Mod.f
  rw [if_neg (by decide), mod_eq a 3 (by decide) (by decide)]
theorem l07Is1 (c : Cell) : spec_l07Is.f 1 c.f0 c.f1 = some true := by
  unfold spec_l07Is.f
  rw [if_pos rfl]
theorem specShape1_ev (l : List Cell) (hs : small l) : Ev (fun k => spec_l07Shape.f k 1 l) (shapeB l) := by
  unfold spec_l07Shape.f
  refine loop_list l (fun k i (_ : Unit) => spec_l07Shape.l0 k 1 l i) (fun pre suf _ => shapeB l) (fun _ _ => True) ?_ ?_ () trivial
  · intro _ _
    simp only [spec_l07Shape.l0, len_lt, if_false]
    exact Ev.bind (specIsShape_ev l hs) (Ev.now _)
  · intro pre c suf _ hx _ ih
    simp only [spec_l07Shape.l0, pre_lt hx, pre_0, if_true, at_pre hx, pre_w hx hs, l07Is1, Option.bind_some]
    exact ih () trivial
theorem ltC_irrefl (a : Cell) : ¬ ltC a a := by unfold ltC; omega
theorem ltC_total {a b : Cell} (h : ¬ ltC a b) (h' : ¬ ltC b a) : a = b := by
  obtain ⟨a0, a1⟩ := a
  obtain ⟨b0, b1⟩ := b
  unfold ltC at *
  simp only [S59.mk.injEq]
  simp only at h h'
  omega
instance (priority := low) : DecidableEq Cell := fun a b => decidable_of_iff (sameC a b = true) sameC_iff
end Go.Proofs.Ytlnliahadgmbcaa.L
end
section
namespace Go.Proofs.Ytlnliahadgmbcaa.L
open Go.RowKit Go.Proofs.YtlnliahadgmbcaaW.PrintWords Go.Proofs.YtlnliahadgmbcaaW.PrintLast Go.Proofs.YtlnliahadgmbcaaW.PrintMore Go.Proofs.Ytlnliahadgmbcaa.F
set_option linter.unusedVariables false
set_option linter.unusedSimpArgs false
def cmpL : List Cell → List Cell → Int
  | [], _ => 0
  | _ :: _, [] => 0
  | a :: r, b :: s => if ltC a b then -1 else if ltC b a then 1 else cmpL r s
def cmpS (a b : List Cell) : Int := if a.length = b.length then cmpL a b else if a.length < b.length then -1 else 1
theorem cmpL_zero : ∀ (a b : List Cell), a.length = b.length → (cmpL a b = 0 ↔ a = b)
  | [], b, h => by
    have : b = [] := List.length_eq_zero_iff.1 h.symm
    simp [cmpL, this]
  | a :: r, [], h => by simp at h
  | a :: r, b :: s, h => by
    unfold cmpL
    by_cases h1 : ltC a b
    · rw [if_pos h1]
      have : a ≠ b := fun e => ltC_irrefl b (e ▸ h1)
      simp [this]
    · rw [if_neg h1]
      by_cases h2 : ltC b a
      · rw [if_pos h2]
        have : a ≠ b := fun e => ltC_irrefl b (e ▸ h2)
        simp [this]
      · rw [if_neg h2, cmpL_zero r s (by simpa using h)]
        simp [ltC_total h1 h2]
theorem cmpS_zero (a b : List Cell) : cmpS a b = 0 ↔ a = b := by
  unfold cmpS
  by_cases h : a.length = b.length
  · rw [if_pos h]; exact cmpL_zero a b h
  · rw [if_neg h]
    have : a ≠ b := fun e => h (by rw [e])
    split <;> simp [this]
end Go.Proofs.Ytlnliahadgmbcaa.L
end
