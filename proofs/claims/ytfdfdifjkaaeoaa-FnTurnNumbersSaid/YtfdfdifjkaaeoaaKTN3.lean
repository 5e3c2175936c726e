/- The row of FnTurnNumbers, with what it needs: text 4 of 11. -/
import Derived.Test.YtfdfdifjkaaeoaaKTN2
set_option maxHeartbeats 8000000
set_option maxRecDepth 100000
section
namespace Go.Proofs.Ytfdfdifjkaaeoaa.F
open Go.RowKit Go.Proofs.YtfdfdifjkaaeoaaW.PrintWords Go.Proofs.YtfdfdifjkaaeoaaW.PrintLast Go.Proofs.YtfdfdifjkaaeoaaW.PrintMore
attribute [local go_sem] max2_int min2_int max_two min_two max_three min_three max_four min_four
set_option linter.unusedVariables false
set_option linter.unusedSimpArgs false
theorem spec_l02Neighbours.calls (k : Nat) (A0 : Option Addr) (c0 : Nat) (l0 : List (S59)) (r : List (S59)) (w : World) (hr0 : Kd.C k59 w A0 l0.length l0) (hc0 : l0.length ≤ c0) (h : spec_l02Neighbours.f k l0 = some r) :
  Calls Try.prog 134 #[.slice A0 l0.length c0] w fun e w' => ∃ v0_ : Value, e = .returned (v0_) ∧ Kd.R k59 59 w' w.heap.size (fun _ => True) v0_ r ∧ Below w.heap.size w w' := by
 have hu59 := Try.underlying59
 have HR0 := aM hr0
 have HC0 := aM hc0
 clear hr0 hc0
 have HB := aM (Below.refl w.heap.size w)
 have H : (spec_l02Neighbours.l0 k l0 (([] : List (S59))) 0) = some r := h
 clear h
 obtain ⟨y377, hy377⟩ : ∃ y_ : List (S59), y_ = (([] : List (S59))) := ⟨_, rfl⟩
 replace H : (spec_l02Neighbours.l0 k l0 y377 0) = some r := zy H hy377
 have Ny377 := aM hy377
 clear hy377
 have H' := aM H
 clear H
 go_enter Try.func134, Try.ntmps134
 go_wp2_with (first | ((with_reducible refine gate_dst (N := 7) rfl ?_); refine Kd.R_lit k59 _ 59 ?hg (N := 7) ?hd (xs := ([] : List (S59))) (inner := []) (ok := fun _ => True) (okp := fun _ => True) ?hr ?hp (fun _ hk => hk) trivial (Below.refl _ _) (Nat.le_refl _) (by simp) ?_; (case hd => rfl); (case hg => rfl); (case hr => first | (go_simp; done) | (go_simp; rfl)); (case hp => exact (Reps.none _ _)); intro v378 w2 ho3 hb hg_ hnew_; clear hg_ hnew_; (first | rw [← Ny377.out] at ho3 | (simp only [Int.reduceToNat] at ho3; rw [← Ny377.out] at ho3)); have n0_ := aM (Kd.R_lower ho3 (below_size zb)); have n1_ := aM (below_step zb hb); clear HB; have HO379 := n0_; have HB := n1_; clear n0_ n1_; clear hb ho3))
 go_loopg [3, 4] k (fun kq v3 v4 w' => ∃ (x3_1 : List (S59)) (x4_1 : Int), v4 = .int .i64 x4_1 ∧ Aside0 (spec_l02Neighbours.l0 kq l0 x3_1 x4_1 = some r) ∧ Aside0 (kq ≤ k) ∧ Aside0 (Kd.R k59 59 w' w.heap.size (fun _ => True) v3 x3_1) ∧ Aside0 (Below w.heap.size w w'))
 case atStart => exact ⟨(y377), (0), zr, H', ⟨Nat.le_refl _⟩, ⟨mR_ HO379.out⟩, ⟨zb⟩⟩
 case round =>
  clear H'
  try clear c1
  try clear p2
  obtain ⟨x3_1, x4_1, rfl, HA, HK1, HO_3, HB⟩ := hrel
  cases gk with
  | zero => exact absurd HA.out (by simp [spec_l02Neighbours.l0])
  | succ k1 =>
   have H := HA.out
   clear HA
   simp only [spec_l02Neighbours.l0] at H
   by_cases c4 : x4_1 < (l0.length : Int)
   rotate_left
   ·rw [if_neg c4] at H
    have c4b0 : decide (x4_1 < (l0.length : Int)) = false := decide_eq_false c4
    clear c4
    obtain rfl := Option.some.inj H
    go_wp2
    go_ret
    exact ⟨_, zw, mR_ HO_3.out, zb⟩
   rw [if_pos c4] at H
   have c4b0 : decide (x4_1 < (l0.length : Int)) = true := decide_eq_true c4
   clear c4
   by_cases c5 : 0 ≤ x4_1
   rotate_left
   ·rw [if_neg c5] at H
    exact absurd H (by simp)
   rw [if_pos c5] at H
   have c5b0 : decide (0 ≤ x4_1) = true := decide_eq_true c5
   clear c5
   replace H := Option.bind_eq_some_iff.mp H
   obtain ⟨t381, A60, H⟩ := H
   replace H : (spec_l02Neighbours.l1 k1 l0 x3_1 x4_1 t381 0) = some r := H
   have A6 := aM A60
   clear A60
   have H' := aM H
   clear H
   have p380 : 0 ≤ (x4_1 : Int) := of_decide_eq_true za
   have q380 : x4_1 < (l0.length : Int) := of_decide_eq_true za
   obtain ⟨ad380, e380, hx380_0, hx380_1⟩ := at_T59 HR0.out x4_1 p380 q380
   cases e380
   replace hx380_0 := zk HB.out hx380_0
   replace hx380_1 := zk HB.out hx380_1
   replace p380 := eq_true p380
   replace q380 := eq_true q380
   go_wp2_with (first | ((with_reducible refine gate_callee (f := 87) rfl ?_); refine goesL_ (some 18) rfl rfl Try.func87 (by kernel_rfl) rfl #[.agg #[.int .i64 ((rd_T59 l0 x4_1).f0), .int .i64 ((rd_T59 l0 x4_1).f1)]] rfl zm ?_; (with_reducible refine (spec_l02Around.calls ((rd_T59 l0 x4_1).f0) ((rd_T59 l0 x4_1).f1) t381 _ A6.out).mono ?_); rintro e w7 ⟨v382, rfl, ho0, hb⟩; refine ⟨_, rfl, ?_⟩; have n0_ := aM (Kd.R_elder' (mR_ HO_3.out) (Kd.R_base ho0) hb); have n1_ := aM (Kd.R_lower (Kd.R_new' ho0 (Kd.R_lt (mR_ HO_3.out))) (below_size zb)); have n2_ := aM (below_step zb hb); clear HO_3 HB; have HO_3 := n0_; have HO383 := n1_; have HB := n2_; clear n0_ n1_ n2_; (try clear hb); (try clear hb2); (try clear hk); (try clear hi); (try clear ho0)))
   go_loopg [3, 6] k1 (fun kq v3 v6 w' => ∃ (x3_2 : List (S59)) (x6_2 : Int), v6 = .int .i64 x6_2 ∧ Aside0 (spec_l02Neighbours.l1 kq l0 x3_2 x4_1 t381 x6_2 = some r) ∧ Aside0 (kq ≤ k1) ∧ Aside0 (Kd.R k59 59 w' w.heap.size (fun k_ => some k_ ≠ (v382 : Value).ownBlock) v3 x3_2) ∧ Aside0 (Kd.R k59 59 w' w.heap.size (fun k_ => some k_ ≠ (v3 : Value).ownBlock) v382 t381) ∧ Aside0 (Below w.heap.size w w'))
   case atStart => exact ⟨(x3_1), (0), zr, H', ⟨Nat.le_refl _⟩, ⟨zd1 HO_3.out⟩, ⟨zd1 HO383.out⟩, ⟨zb⟩⟩
   case round =>
    clear H'
    try clear c1
    try clear p2
    try clear p3
    try clear q3
    try clear hx3
    try clear c4
    try clear c4b0
    try clear c5
    try clear c5b0
    try clear hx380_0
    try clear hx380_1
    try clear p2
    try clear p380
    try clear q380
    obtain ⟨x3_2, x6_2, rfl, HA, HK2, HO_3, HO_5, HB⟩ := hrel
    cases gk with
    | zero => exact absurd HA.out (by simp [spec_l02Neighbours.l1])
    | succ k2 =>
     have H := HA.out
     clear HA
     simp only [spec_l02Neighbours.l1] at H
     by_cases c8 : x6_2 < 4
     rotate_left
     ·rw [if_neg c8] at H
      have c8b0 : decide (x6_2 < 4) = false := decide_eq_false c8
      clear c8
      have H' := aM H
      clear H
      go_wp2
      go_roundg k2
      case measure => have := HK1.out; have := HK2.out; omega
      case rel => exact ⟨(x3_2), (wrap64 (x4_1 + 1)), zr, H', ⟨by have := HK1.out; have := HK2.out; omega⟩, ⟨zd0 HO_3.out⟩, ⟨zb⟩⟩
     rw [if_pos c8] at H
     have c8b0 : decide (x6_2 < 4) = true := decide_eq_true c8
     clear c8
     by_cases c9 : 0 ≤ x6_2
     rotate_left
     ·rw [if_neg c9] at H
      exact absurd H (by simp)
     rw [if_pos c9] at H
     have c9b0 : decide (0 ≤ x6_2) = true := decide_eq_true c9
     clear c9
     by_cases c10 : x6_2 < (t381.length : Int)
     rotate_left
     ·rw [if_neg c10] at H
      exact absurd H (by simp)
     rw [if_pos c10] at H
     have c10b0 : decide (x6_2 < (t381.length : Int)) = true := decide_eq_true c10
     clear c10
     replace H := Option.bind_eq_some_iff.mp H
     obtain ⟨t385, A110, H⟩ := H
     replace H : (if t385 < 0 then ((spec_l02Index.f k2 x3_2 ((rd_T59 t381 x6_2).f0) ((rd_T59 t381 x6_2).f1)).bind fun t387 => (if t387 < 0 then ((spec_l02Insert.f k2 x3_2 ((rd_T59 t381 x6_2).f0) ((rd_T59 t381 x6_2).f1)).bind fun t389 => (spec_l02Neighbours.l1 k2 l0 t389 x4_1 t381 (wrap64 (x6_2 + 1)))) else (spec_l02Neighbours.l1 k2 l0 x3_2 x4_1 t381 (wrap64 (x6_2 + 1))))) else (spec_l02Neighbours.l1 k2 l0 x3_2 x4_1 t381 (wrap64 (x6_2 + 1)))) = some r := H
     have A11 := aM A110
     clear A110
     by_cases c12 : t385 < 0
     rotate_left
     ·rw [if_neg c12] at H
      have c12b0 : decide (t385 < 0) = false := decide_eq_false c12
      clear c12
      have H' := aM H
      clear H
      obtain ⟨Ao25, co25, eo25⟩ := Kd.R_slice HO_5.out
      subst eo25
      have p384 : 0 ≤ (x6_2 : Int) := of_decide_eq_true za
      have q384 : x6_2 < (t381.length : Int) := of_decide_eq_true za
      obtain ⟨ad384, e384, hx384_0, hx384_1⟩ := at_T59 (Kd.R_reads' HO_5.out).2.2 x6_2 p384 q384
      cases e384
      replace p384 := eq_true p384
      replace q384 := eq_true q384
      go_wp2_with (first | ((with_reducible refine gate_callee (f := 67) rfl ?_); refine goesL_ (some 28) rfl rfl Try.func67 (by kernel_rfl) rfl #[.slice (some ad380) l0.length c0, .agg #[.int .i64 ((rd_T59 t381 x6_2).f0), .int .i64 ((rd_T59 t381 x6_2).f1)]] rfl zm ?_; (with_reducible refine (spec_l02Index.calls k2 _ _ l0 ((rd_T59 t381 x6_2).f0) ((rd_T59 t381 x6_2).f1) t385 _ ?side1 ?side2 A11.out).mono ?_); (case side1 => repeat (first | exact (Kd.C_below HR0.out HB.out) | (with_reducible refine Kd.C_alloc ?_ _) | (with_reducible refine Kd.C_drewN ?_ _) | (with_reducible refine Kd.C_drew ?_))); (case side2 => exact HC0.out); rintro e w26 ⟨rfl, hb⟩; refine ⟨_, rfl, ?_⟩; have n0_ := aM (Kd.R_below (mR_ HO_3.out) hb); have n1_ := aM (Kd.R_below (mR_ HO_5.out) hb); have n2_ := aM (below_step zb hb); clear HO_3 HO_5 HB; have HO_3 := n0_; have HO_5 := n1_; have HB := n2_; clear n0_ n1_ n2_; (try clear hb); (try clear hb2); (try clear hk); (try clear hi)))
      go_roundg k2
      case measure => have := HK1.out; have := HK2.out; omega
      case rel => exact ⟨(x3_2), (wrap64 (x6_2 + 1)), zr, H', ⟨by have := HK1.out; have := HK2.out; omega⟩, ⟨mR_ HO_3.out⟩, ⟨mR_ HO_5.out⟩, ⟨zb⟩⟩
     rw [if_pos c12] at H
     have c12b0 : decide (t385 < 0) = true := decide_eq_true c12
     clear c12
     replace H := Option.bind_eq_some_iff.mp H
     obtain ⟨t387, A130, H⟩ := H
     replace H : (if t387 < 0 then ((spec_l02Insert.f k2 x3_2 ((rd_T59 t381 x6_2).f0) ((rd_T59 t381 x6_2).f1)).bind fun t389 => (spec_l02Neighbours.l1 k2 l0 t389 x4_1 t381 (wrap64 (x6_2 + 1)))) else (spec_l02Neighbours.l1 k2 l0 x3_2 x4_1 t381 (wrap64 (x6_2 + 1)))) = some r := H
     have A13 := aM A130
     clear A130
     by_cases c14 : t387 < 0
     rotate_left
     ·rw [if_neg c14] at H
      have c14b0 : decide (t387 < 0) = false := decide_eq_false c14
      clear c14
      have H' := aM H
      clear H
      obtain ⟨Ao21, co21, eo21⟩ := Kd.R_slice HO_5.out
      subst eo21
      have p384 : 0 ≤ (x6_2 : Int) := of_decide_eq_true za
      have q384 : x6_2 < (t381.length : Int) := of_decide_eq_true za
      obtain ⟨ad384, e384, hx384_0, hx384_1⟩ := at_T59 (Kd.R_reads' HO_5.out).2.2 x6_2 p384 q384
      cases e384
      replace p384 := eq_true p384
      replace q384 := eq_true q384
      go_wp2_with (first | ((with_reducible refine gate_callee (f := 67) rfl ?_); refine goesL_ (some 28) rfl rfl Try.func67 (by kernel_rfl) rfl #[.slice (some ad380) l0.length c0, .agg #[.int .i64 ((rd_T59 t381 x6_2).f0), .int .i64 ((rd_T59 t381 x6_2).f1)]] rfl zm ?_; (with_reducible refine (spec_l02Index.calls k2 _ _ l0 ((rd_T59 t381 x6_2).f0) ((rd_T59 t381 x6_2).f1) t385 _ ?side1 ?side2 A11.out).mono ?_); (case side1 => repeat (first | exact (Kd.C_below HR0.out HB.out) | (with_reducible refine Kd.C_alloc ?_ _) | (with_reducible refine Kd.C_drewN ?_ _) | (with_reducible refine Kd.C_drew ?_))); (case side2 => exact HC0.out); rintro e w22 ⟨rfl, hb⟩; refine ⟨_, rfl, ?_⟩; have n0_ := aM (Kd.R_below (mR_ HO_3.out) hb); have n1_ := aM (Kd.R_below (mR_ HO_5.out) hb); have n2_ := aM (below_step zb hb); clear HO_3 HO_5 HB; have HO_3 := n0_; have HO_5 := n1_; have HB := n2_; clear n0_ n1_ n2_; (try clear hb); (try clear hb2); (try clear hk); (try clear hi); have p386 : 0 ≤ (x6_2 : Int) := of_decide_eq_true za; have q386 : x6_2 < (t381.length : Int) := of_decide_eq_true za; obtain ⟨ad386, e386, hx386_0, hx386_1⟩ := at_T59 (Kd.R_reads' HO_5.out).2.2 x6_2 p386 q386; obtain rfl : ad384 = ad386 := (by injection e386); replace p386 := eq_true p386; replace q386 := eq_true q386; obtain ⟨Ao23, co23, eo23⟩ := Kd.R_slice HO_3.out; subst eo23) | (go_at_call 67; (with_reducible refine (spec_l02Index.calls k2 _ _ x3_2 ((rd_T59 t381 x6_2).f0) ((rd_T59 t381 x6_2).f1) t387 _ ?side1 ?side2 A13.out).mono ?_); (case side1 => exact zc HO_3.out); (case side2 => exact (Kd.R_reads' HO_3.out).2.1); rintro e w24 ⟨rfl, hb⟩; have n0_ := aM (Kd.R_below (mR_ HO_3.out) hb); have n1_ := aM (Kd.R_below (mR_ HO_5.out) hb); have n2_ := aM (below_step zb hb); clear HO_3 HO_5 HB; have HO_3 := n0_; have HO_5 := n1_; have HB := n2_; clear n0_ n1_ n2_; (try clear hb); (try clear hb2); (try clear hk); (try clear hi)))
      go_roundg k2
      case measure => have := HK1.out; have := HK2.out; omega
      case rel => exact ⟨(x3_2), (wrap64 (x6_2 + 1)), zr, H', ⟨by have := HK1.out; have := HK2.out; omega⟩, ⟨mR_ HO_3.out⟩, ⟨mR_ HO_5.out⟩, ⟨zb⟩⟩
     rw [if_pos c14] at H
     have c14b0 : decide (t387 < 0) = true := decide_eq_true c14
     clear c14
     replace H := Option.bind_eq_some_iff.mp H
     obtain ⟨t389, A150, H⟩ := H
     replace H : (spec_l02Neighbours.l1 k2 l0 t389 x4_1 t381 (wrap64 (x6_2 + 1))) = some r := H
     have A15 := aM A150
     clear A150
     have H' := aM H
     clear H
     obtain ⟨Ao16, co16, eo16⟩ := Kd.R_slice HO_5.out
     subst eo16
     have p384 : 0 ≤ (x6_2 : Int) := of_decide_eq_true za
     have q384 : x6_2 < (t381.length : Int) := of_decide_eq_true za
     obtain ⟨ad384, e384, hx384_0, hx384_1⟩ := at_T59 (Kd.R_reads' HO_5.out).2.2 x6_2 p384 q384
     cases e384
     replace p384 := eq_true p384
     replace q384 := eq_true q384
     go_wp2_with (first | ((with_reducible refine gate_callee (f := 67) rfl ?_); refine goesL_ (some 28) rfl rfl Try.func67 (by kernel_rfl) rfl #[.slice (some ad380) l0.length c0, .agg #[.int .i64 ((rd_T59 t381 x6_2).f0), .int .i64 ((rd_T59 t381 x6_2).f1)]] rfl zm ?_; (with_reducible refine (spec_l02Index.calls k2 _ _ l0 ((rd_T59 t381 x6_2).f0) ((rd_T59 t381 x6_2).f1) t385 _ ?side1 ?side2 A11.out).mono ?_); (case side1 => repeat (first | exact (Kd.C_below HR0.out HB.out) | (with_reducible refine Kd.C_alloc ?_ _) | (with_reducible refine Kd.C_drewN ?_ _) | (with_reducible refine Kd.C_drew ?_))); (case side2 => exact HC0.out); rintro e w17 ⟨rfl, hb⟩; refine ⟨_, rfl, ?_⟩; have n0_ := aM (Kd.R_below (mR_ HO_3.out) hb); have n1_ := aM (Kd.R_below (mR_ HO_5.out) hb); have n2_ := aM (below_step zb hb); clear HO_3 HO_5 HB; have HO_3 := n0_; have HO_5 := n1_; have HB := n2_; clear n0_ n1_ n2_; (try clear hb); (try clear hb2); (try clear hk); (try clear hi); have p386 : 0 ≤ (x6_2 : Int) := of_decide_eq_true za; have q386 : x6_2 < (t381.length : Int) := of_decide_eq_true za; obtain ⟨ad386, e386, hx386_0, hx386_1⟩ := at_T59 (Kd.R_reads' HO_5.out).2.2 x6_2 p386 q386; obtain rfl : ad384 = ad386 := (by injection e386); replace p386 := eq_true p386; replace q386 := eq_true q386; obtain ⟨Ao18, co18, eo18⟩ := Kd.R_slice HO_3.out; subst eo18) | (go_at_call 67; (with_reducible refine (spec_l02Index.calls k2 _ _ x3_2 ((rd_T59 t381 x6_2).f0) ((rd_T59 t381 x6_2).f1) t387 _ ?side1 ?side2 A13.out).mono ?_); (case side1 => exact zc HO_3.out); (case side2 => exact (Kd.R_reads' HO_3.out).2.1); rintro e w19 ⟨rfl, hb⟩; have n0_ := aM (Kd.R_below (mR_ HO_3.out) hb); have n1_ := aM (Kd.R_below (mR_ HO_5.out) hb); have n2_ := aM (below_step zb hb); clear HO_3 HO_5 HB; have HO_3 := n0_; have HO_5 := n1_; have HB := n2_; clear n0_ n1_ n2_; (try clear hb); (try clear hb2); (try clear hk); (try clear hi); have p388 : 0 ≤ (x6_2 : Int) := of_decide_eq_true za; have q388 : x6_2 < (t381.length : Int) := of_decide_eq_true za; obtain ⟨ad388, e388, hx388_0, hx388_1⟩ := at_T59 (Kd.R_reads' HO_5.out).2.2 x6_2 p388 q388; obtain rfl : ad384 = ad388 := (by injection e388); replace p388 := eq_true p388; replace q388 := eq_true q388) | ((with_reducible refine gate_callee (f := 95) rfl ?_); refine goesL_ (some 44) rfl rfl Try.func95 (by kernel_rfl) rfl #[.slice Ao18 x3_2.length co18, .agg #[.int .i64 ((rd_T59 t381 x6_2).f0), .int .i64 ((rd_T59 t381 x6_2).f1)]] rfl zm ?_; (with_reducible refine (spec_l02Insert.calls k2 _ _ x3_2 ((rd_T59 t381 x6_2).f0) ((rd_T59 t381 x6_2).f1) t389 _ ?side1 ?side2 A15.out).mono ?_); (case side1 => exact zc HO_3.out); (case side2 => exact (Kd.R_reads' HO_3.out).2.1); rintro e w20 ⟨v390, rfl, ho0, hb⟩; refine ⟨_, rfl, ?_⟩; have n0_ := aM (Kd.R_elder' (mR_ HO_3.out) (Kd.R_base ho0) hb); have n1_ := aM (Kd.R_elder' (mR_ HO_5.out) (Kd.R_base ho0) hb); have n2_ := aM (Kd.R_lower (Kd.R_new' (Kd.R_new' ho0 (Kd.R_lt (mR_ HO_3.out))) (Kd.R_lt (mR_ HO_5.out))) (below_size zb)); have n3_ := aM (below_step zb hb); clear HO_3 HO_5 HB; have HO_3 := n0_; have HO_5 := n1_; have HO391 := n2_; have HB := n3_; clear n0_ n1_ n2_ n3_; (try clear hb); (try clear hb2); (try clear hk); (try clear hi); (try clear ho0)))
     go_roundg k2
     case measure => have := HK1.out; have := HK2.out; omega
     case rel => exact ⟨(t389), (wrap64 (x6_2 + 1)), zr, H', ⟨by have := HK1.out; have := HK2.out; omega⟩, ⟨zd1 HO391.out⟩, ⟨zd1 HO_5.out⟩, ⟨zb⟩⟩
def spec_l02DrawPoly.l0 : Nat → List (S59) → Int → List Int → Int → Int → Option ((List (S59)) × Int × Int)
 | 0, _, _, _, _, _ => none
 | k + 1, x5, x6, x1000, x1001, x1002 => if x6 > 0 then ((spec_l02Neighbours.f k x5).bind fun t398 => ((spec_l01Next.f x1000 x1001 x1002 (t398.length : Int)).bind fun bt401 => (if 0 ≤ bt401.1 then (if bt401.1 < (t398.length : Int) then ((spec_l02Insert.f k x5 ((rd_T59 t398 bt401.1).f0) ((rd_T59 t398 bt401.1).f1)).bind fun t405 => (spec_l02DrawPoly.l0 k t405 (wrap64 (x6 - 1)) x1000 bt401.2.1 bt401.2.2)) else (none)) else (none)))) else ((spec_l02Normal.f k x5).bind fun t408 => (some (t408, x1001, x1002)))
def spec_l02DrawPoly.f (k : Nat) (s0_0 : List Int) (s0_1 : Int) (s0_2 : Int) (a1 : Int) : Option ((List (S59)) × Int × Int) := (spec_l01Next.f s0_0 s0_1 s0_2 a1).bind fun bt395 => (spec_l02DrawPoly.l0 k (([(⟨0, 0⟩ : S59)] : List (S59))) bt395.1 s0_0 bt395.2.1 bt395.2.2)
theorem spec_l02DrawPoly.calls (k : Nat) (g : Nat) (s0_0 : List Int) (s0_1 : Int) (s0_2 : Int) (a1 : Int) (r1 : List (S59)) (r2 : Int) (r3 : Int) (w0 w : World) (hI : IsS98 w0 w g s0_0 s0_1 s0_2) (hB : Below w0.heap.size w0 w) (h : spec_l02DrawPoly.f k s0_0 s0_1 s0_2 a1 = some (r1, r2, r3)) :
  Calls Try.prog 118 #[.pointer (some ⟨g, 0, none⟩), .int .i64 a1] w fun e w' => ∃ v0_ : Value, e = .returned (v0_) ∧ Kd.R k59 59 w' w.heap.size (fun _ => True) v0_ r1 ∧ IsS98 w0 w' g s0_0 r2 r3 ∧ Below w0.heap.size w0 w' ∧ KeepBut w w' g none := by
 have hu59 := Try.underlying59
 have HI0 := aM hI
 have HK := aM (KeepBut.refl w g none)
 have HL := aM hB.size
 clear hI
 have HW0 := aM hB.size
 have HB := aM hB
 clear hB
 have H : ((spec_l01Next.f s0_0 s0_1 s0_2 a1).bind fun bt395 => (spec_l02DrawPoly.l0 k (([(⟨0, 0⟩ : S59)] : List (S59))) bt395.1 s0_0 bt395.2.1 bt395.2.2)) = some (r1, r2, r3) := h
 clear h
 obtain ⟨y392, hy392⟩ : ∃ y_ : List (S59), y_ = (([(⟨0, 0⟩ : S59)] : List (S59))) := ⟨_, rfl⟩
 replace H : ((spec_l01Next.f s0_0 s0_1 s0_2 a1).bind fun bt395 => (spec_l02DrawPoly.l0 k y392 bt395.1 s0_0 bt395.2.1 bt395.2.2)) = some (r1, r2, r3) := zy H hy392
 have Ny392 := aM hy392
 clear hy392
 replace H := Option.bind_eq_some_iff.mp H
 obtain ⟨⟨t395, t396, t397⟩, A30, H⟩ := H
 replace H : (spec_l02DrawPoly.l0 k y392 t395 s0_0 t396 t397) = some (r1, r2, r3) := H
 have A3 := aM A30
 clear A30
 have H' := aM H
 clear H
 go_enter Try.func118, Try.ntmps118
 go_wp2_with (first | ((with_reducible refine gate_dst (N := 9) rfl ?_); refine Kd.R_lit k59 _ 59 ?hg (N := 9) ?hd (xs := ([(⟨0, 0⟩ : S59)] : List (S59))) (inner := [.int .i64 0, .int .i64 0]) (ok := fun _ => True) (okp := fun _ => True) ?hr ?hp (fun _ hk => hk) trivial (Below.refl _ _) (Nat.le_refl _) (by simp) ?_; (case hd => rfl); (case hg => rfl); (case hr => first | (go_simp; done) | (go_simp; rfl)); (case hp => exact (Reps.c2 (show Kd.M k59 _ _ _ (⟨0, 0⟩ : S59) [.int .i64 0, .int .i64 0] from (k59_mkM _ _ _ (⟨0, 0⟩ : S59) )) (Reps.none _ _))); intro v393 w4 ho5 hb hg_ hnew_; clear hg_ hnew_; (first | rw [← Ny392.out] at ho5 | (simp only [Int.reduceToNat] at ho5; rw [← Ny392.out] at ho5)); have n0_ := aM (Kd.R_lower ho5 (keep_size (w := w) (g := g) (row := none) (zK HK.out))); have n1_ := aM (IsS98.below (zI98 HI0.out) hb); have n2_ := aM (KeepBut.trans (zK HK.out) (KeepBut.of_below hb g none) (.inl rfl)); have n3_ := aM (below_step (zs (IsS98.ge HI0.out)) hb); clear HI0 HK HB; have HO394 := n0_; have HI0 := n1_; have HK := n2_; have HB := n3_; clear n0_ n1_ n2_ n3_; clear hb ho5) | ((with_reducible refine gate_callee (f := 71) rfl ?_); refine goesL_ (some 12) rfl rfl Try.func71 (by kernel_rfl) rfl #[.pointer (some ⟨g, 0, none⟩), .int .i64 a1] rfl zm ?_; (with_reducible refine (spec_l01Next.calls g s0_0 s0_1 s0_2 a1 t395 t396 t397 w0 _ ?side1 ?side2 A3.out).mono ?_); (case side1 => exact zI98 HI0.out); (case side2 => exact zs (IsS98.ge HI0.out)); rintro e w6 ⟨rfl, hi, hb, hk⟩; refine ⟨_, rfl, ?_⟩; have n0_ := aM (Kd.R_mono (Kd.R_keep (IsS98.apart (show IsS98 w0 _ g s0_0 s0_1 s0_2 from zI98 HI0.out) (mR_ HO394.out) (by decide)) hk (fun _ h => h.2)) (fun _ h => h.1)); have n1_ := aM (KeepBut.trans (zK HK.out) hk (.inl rfl)); have n2_ := aM (hb); have n3_ := aM (hi); clear HO394 HK HB HI0; have HO394 := n0_; have HK := n1_; have HB := n2_; have HI0 := n3_; clear n0_ n1_ n2_ n3_; (try clear hb); (try clear hb2); (try clear hk); (try clear hi)))
 go_loopg [5, 6] k (fun kq v5 v6 w' => ∃ (x5_1 : List (S59)) (x6_1 : Int) (x1001_1 : Int) (x1002_1 : Int), v6 = .int .i64 x6_1 ∧ Aside0 (spec_l02DrawPoly.l0 kq x5_1 x6_1 s0_0 x1001_1 x1002_1 = some (r1, r2, r3)) ∧ Aside0 (kq ≤ k) ∧ Aside0 (Kd.R k59 59 w' w.heap.size (fun _ => True) v5 x5_1) ∧ Aside0 (IsS98 w0 w' g s0_0 x1001_1 x1002_1) ∧ Aside0 (KeepBut w w' g none) ∧ Aside0 (Below w0.heap.size w0 w'))
 case atStart => exact ⟨(y392), (t395), (t396), (t397), zr, H', ⟨Nat.le_refl _⟩, ⟨mR_ HO394.out⟩, ⟨zI98 HI0.out⟩, ⟨zK HK.out⟩, ⟨zs (IsS98.ge HI0.out)⟩⟩
 case round =>
  clear H'
  try clear c1
  try clear c2
  try clear p2
  obtain ⟨x5_1, x6_1, x1001_1, x1002_1, rfl, HA, HK1, HO_5, HI0, HK, HB⟩ := hrel
  cases gk with
  | zero => exact absurd HA.out (by simp [spec_l02DrawPoly.l0])
  | succ k1 =>
   have H := HA.out
   clear HA
   simp only [spec_l02DrawPoly.l0] at H
   by_cases c7 : x6_1 > 0
   rotate_left
   ·rw [if_neg c7] at H
    have c7b0 : decide (0 < x6_1) = false := decide_eq_false c7
    clear c7
    replace H := Option.bind_eq_some_iff.mp H
    obtain ⟨t408, A180, H⟩ := H
    replace H : (some (t408, x1001_1, x1002_1)) = some (r1, r2, r3) := H
    have A18 := aM A180
    clear A180
    simp only [Option.some.injEq, Prod.mk.injEq] at H
    obtain ⟨rfl, rfl, rfl⟩ := H
    obtain ⟨Ao19, co19, eo19⟩ := Kd.R_slice HO_5.out
    subst eo19
    go_wp2_with (first | ((with_reducible refine gate_callee (f := 126) rfl ?_); refine goesL_ (some 29) rfl rfl Try.func126 (by kernel_rfl) rfl #[.slice Ao19 x5_1.length co19] rfl zm ?_; (with_reducible refine (spec_l02Normal.calls k1 _ _ x5_1 t408 _ ?side1 ?side2 A18.out).mono ?_); (case side1 => exact zc HO_5.out); (case side2 => exact (Kd.R_reads' HO_5.out).2.1); rintro e w20 ⟨v409, rfl, ho0, hb⟩; refine ⟨_, rfl, ?_⟩; have n0_ := aM (Kd.R_elder' (mR_ HO_5.out) (Kd.R_base ho0) hb); have n1_ := aM (Kd.R_lower (Kd.R_new' ho0 (Kd.R_lt (mR_ HO_5.out))) (keep_size (w := w) (g := g) (row := none) (zK HK.out))); have n2_ := aM (IsS98.below (zI98 HI0.out) hb); have n3_ := aM (KeepBut.trans (zK HK.out) (KeepBut.of_below hb g none) (.inl rfl)); have n4_ := aM (below_step (zs (IsS98.ge HI0.out)) hb); clear HO_5 HI0 HK HB; have HO_5 := n0_; have HO410 := n1_; have HI0 := n2_; have HK := n3_; have HB := n4_; clear n0_ n1_ n2_ n3_ n4_; (try clear hb); (try clear hb2); (try clear hk); (try clear hi); (try clear ho0)))
    go_ret
    exact ⟨_, zw, zd0 HO410.out, zI98 HI0.out, zs (IsS98.ge HI0.out), zK HK.out⟩
   rw [if_pos c7] at H
   have c7b0 : decide (0 < x6_1) = true := decide_eq_true c7
   clear c7
   replace H := Option.bind_eq_some_iff.mp H
   obtain ⟨t398, A80, H⟩ := H
   replace H : ((spec_l01Next.f s0_0 x1001_1 x1002_1 (t398.length : Int)).bind fun bt401 => (if 0 ≤ bt401.1 then (if bt401.1 < (t398.length : Int) then ((spec_l02Insert.f k1 x5_1 ((rd_T59 t398 bt401.1).f0) ((rd_T59 t398 bt401.1).f1)).bind fun t405 => (spec_l02DrawPoly.l0 k1 t405 (wrap64 (x6_1 - 1)) s0_0 bt401.2.1 bt401.2.2)) else (none)) else (none))) = some (r1, r2, r3) := H
   have A8 := aM A80
   clear A80
   replace H := Option.bind_eq_some_iff.mp H
   obtain ⟨⟨t401, t402, t403⟩, A90, H⟩ := H
   replace H : (if 0 ≤ t401 then (if t401 < (t398.length : Int) then ((spec_l02Insert.f k1 x5_1 ((rd_T59 t398 t401).f0) ((rd_T59 t398 t401).f1)).bind fun t405 => (spec_l02DrawPoly.l0 k1 t405 (wrap64 (x6_1 - 1)) s0_0 t402 t403)) else (none)) else (none)) = some (r1, r2, r3) := H
   have A9 := aM A90
   clear A90
   by_cases c10 : 0 ≤ t401
   rotate_left
   ·rw [if_neg c10] at H
    exact absurd H (by simp)
   rw [if_pos c10] at H
   have c10b0 : decide (0 ≤ t401) = true := decide_eq_true c10
   clear c10
   by_cases c11 : t401 < (t398.length : Int)
   rotate_left
   ·rw [if_neg c11] at H
    exact absurd H (by simp)
   rw [if_pos c11] at H
   have c11b0 : decide (t401 < (t398.length : Int)) = true := decide_eq_true c11
   clear c11
   replace H := Option.bind_eq_some_iff.mp H
   obtain ⟨t405, A120, H⟩ := H
   replace H : (spec_l02DrawPoly.l0 k1 t405 (wrap64 (x6_1 - 1)) s0_0 t402 t403) = some (r1, r2, r3) := H
   have A12 := aM A120
   clear A120
   have H' := aM H
   clear H
   obtain ⟨Ao13, co13, eo13⟩ := Kd.R_slice HO_5.out
   subst eo13
   go_wp2_with (first | ((with_reducible refine gate_callee (f := 134) rfl ?_); refine goesL_ (some 18) rfl rfl Try.func134 (by kernel_rfl) rfl #[.slice Ao13 x5_1.length co13] rfl zm ?_; (with_reducible refine (spec_l02Neighbours.calls k1 _ _ x5_1 t398 _ ?side1 ?side2 A8.out).mono ?_); (case side1 => exact zc HO_5.out); (case side2 => exact (Kd.R_reads' HO_5.out).2.1); rintro e w14 ⟨v399, rfl, ho0, hb⟩; refine ⟨_, rfl, ?_⟩; have n0_ := aM (Kd.R_elder' (mR_ HO_5.out) (Kd.R_base ho0) hb); have n1_ := aM (Kd.R_lower (Kd.R_new' ho0 (Kd.R_lt (mR_ HO_5.out))) (keep_size (w := w) (g := g) (row := none) (zK HK.out))); have n2_ := aM (IsS98.below (zI98 HI0.out) hb); have n3_ := aM (KeepBut.trans (zK HK.out) (KeepBut.of_below hb g none) (.inl rfl)); have n4_ := aM (below_step (zs (IsS98.ge HI0.out)) hb); clear HO_5 HI0 HK HB; have HO_5 := n0_; have HO400 := n1_; have HI0 := n2_; have HK := n3_; have HB := n4_; clear n0_ n1_ n2_ n3_ n4_; (try clear hb); (try clear hb2); (try clear hk); (try clear hi); (try clear ho0); obtain ⟨Ao15, co15, eo15⟩ := Kd.R_slice HO400.out; subst eo15) | ((with_reducible refine gate_callee (f := 71) rfl ?_); refine goesL_ (some 24) rfl rfl Try.func71 (by kernel_rfl) rfl #[.pointer (some ⟨g, 0, none⟩), .int .i64 (t398.length : Int)] rfl zm ?_; (with_reducible refine (spec_l01Next.calls g s0_0 x1001_1 x1002_1 (t398.length : Int) t401 t402 t403 w0 _ ?side1 ?side2 A9.out).mono ?_); (case side1 => exact zI98 HI0.out); (case side2 => exact zs (IsS98.ge HI0.out)); rintro e w16 ⟨rfl, hi, hb, hk⟩; refine ⟨_, rfl, ?_⟩; have n0_ := aM (Kd.R_mono (Kd.R_keep (IsS98.apart (show IsS98 w0 _ g s0_0 x1001_1 x1002_1 from zI98 HI0.out) (mR_ HO_5.out) (by decide)) hk (fun _ h => h.2)) (fun _ h => h.1)); have n1_ := aM (Kd.R_mono (Kd.R_keep (IsS98.apart (show IsS98 w0 _ g s0_0 x1001_1 x1002_1 from zI98 HI0.out) (mR_ HO400.out) (by decide)) hk (fun _ h => h.2)) (fun _ h => h.1)); have n2_ := aM (KeepBut.trans (zK HK.out) hk (.inl rfl)); have n3_ := aM (hb); have n4_ := aM (hi); clear HO_5 HO400 HK HB HI0; have HO_5 := n0_; have HO400 := n1_; have HK := n2_; have HB := n3_; have HI0 := n4_; clear n0_ n1_ n2_ n3_ n4_; (try clear hb); (try clear hb2); (try clear hk); (try clear hi); have p404 : 0 ≤ (t401 : Int) := of_decide_eq_true za; have q404 : t401 < (t398.length : Int) := of_decide_eq_true za; obtain ⟨ad404, e404, hx404_0, hx404_1⟩ := at_T59 (Kd.R_reads' HO400.out).2.2 t401 p404 q404; cases e404; replace p404 := eq_true p404; replace q404 := eq_true q404) | ((with_reducible refine gate_callee (f := 95) rfl ?_); refine goesL_ (some 27) rfl rfl Try.func95 (by kernel_rfl) rfl #[.slice Ao13 x5_1.length co13, .agg #[.int .i64 ((rd_T59 t398 t401).f0), .int .i64 ((rd_T59 t398 t401).f1)]] rfl zm ?_; (with_reducible refine (spec_l02Insert.calls k1 _ _ x5_1 ((rd_T59 t398 t401).f0) ((rd_T59 t398 t401).f1) t405 _ ?side1 ?side2 A12.out).mono ?_); (case side1 => exact zc HO_5.out); (case side2 => exact (Kd.R_reads' HO_5.out).2.1); rintro e w17 ⟨v406, rfl, ho0, hb⟩; refine ⟨_, rfl, ?_⟩; have n0_ := aM (Kd.R_elder' (mR_ HO_5.out) (Kd.R_base ho0) hb); have n1_ := aM (Kd.R_elder' (mR_ HO400.out) (Kd.R_base ho0) hb); have n2_ := aM (Kd.R_lower (Kd.R_new' (Kd.R_new' ho0 (Kd.R_lt (mR_ HO_5.out))) (Kd.R_lt (mR_ HO400.out))) (keep_size (w := w) (g := g) (row := none) (zK HK.out))); have n3_ := aM (IsS98.below (zI98 HI0.out) hb); have n4_ := aM (KeepBut.trans (zK HK.out) (KeepBut.of_below hb g none) (.inl rfl)); have n5_ := aM (below_step (zs (IsS98.ge HI0.out)) hb); clear HO_5 HO400 HI0 HK HB; have HO_5 := n0_; have HO400 := n1_; have HO407 := n2_; have HI0 := n3_; have HK := n4_; have HB := n5_; clear n0_ n1_ n2_ n3_ n4_ n5_; (try clear hb); (try clear hb2); (try clear hk); (try clear hi); (try clear ho0)))
   go_roundg k1
   case measure => have := HK1.out; omega
   case rel => exact ⟨(t405), (wrap64 (x6_1 - 1)), (t402), (t403), zr, H', ⟨by have := HK1.out; omega⟩, ⟨zd0 HO407.out⟩, ⟨zI98 HI0.out⟩, ⟨zK HK.out⟩, ⟨zs (IsS98.ge HI0.out)⟩⟩
def laws_likeInts.l0 : Nat → List Int → List Int → Int → Option (Bool)
 | 0, _, _, _ => none
 | k + 1, x0, x1, x5 => if x5 < (x0.length : Int) then (if 0 ≤ x5 then (if x5 < (x1.length : Int) then (if (rd x0 x5) = (rd x1 x5) then (laws_likeInts.l0 k x0 x1 (wrap64 (x5 + 1))) else (some false)) else (none)) else (none)) else (some true)
def laws_likeInts.f (k : Nat) (l0 : List Int) (l1 : List Int) : Option (Bool) := if (l0.length : Int) = (l1.length : Int) then (laws_likeInts.l0 k l0 l1 0) else (some false)
theorem laws_likeInts.calls (k : Nat) (A0 : Option Addr) (c0 : Nat) (l0 : List Int) (A1 : Option Addr) (c1 : Nat) (l1 : List Int) (r : Bool) (w : World) (hr0 : Kd.C (Kd.int .i64) w A0 l0.length l0) (hc0 : l0.length ≤ c0) (hr1 : Kd.C (Kd.int .i64) w A1 l1.length l1) (hc1 : l1.length ≤ c1) (h : laws_likeInts.f k l0 l1 = some r) :
  Calls Try.prog 30 #[.slice A0 l0.length c0, .slice A1 l1.length c1] w fun e w' => e = .returned (.bool r) ∧ Drawn0 w w' := by
 have HR0 := aM hr0
 have HC0 := aM hc0
 clear hr0 hc0
 have HR1 := aM hr1
 have HC1 := aM hc1
 clear hr1 hc1
 have H : (if (l0.length : Int) = (l1.length : Int) then (laws_likeInts.l0 k l0 l1 0) else (some false)) = some r := h
 clear h
 by_cases c3 : (l0.length : Int) = (l1.length : Int)
 rotate_left
 ·rw [if_neg c3] at H
  have c3b0 : ((l0.length : Int) == (l1.length : Int)) = false := beq_eq_false_iff_ne.mpr c3
  have c3b1 : ((l0.length : Int) != (l1.length : Int)) = true := bne_iff_ne.mpr c3
  have c3b2 : (l0.length == l1.length) = false := by first | simpa using c3 | (simp at c3 ⊢; omega)
  obtain rfl := Option.some.inj H
  go_enter Try.func30, Try.ntmps30
  go_wp2
  repeat (go_quiet (fail); try go_wp2)
  go_ret
  exact ⟨by first | rfl | (simp; done) | (simp [*]; done), by repeat (first | exact Drawn0.refl _ | apply Drawn0.step)⟩
 rw [if_pos c3] at H
 have c3b0 : ((l0.length : Int) == (l1.length : Int)) = true := beq_iff_eq.mpr c3
 have c3b1 : ((l0.length : Int) != (l1.length : Int)) = false := bne_eq_false_iff_eq.mpr c3
 have c3b2 : (l0.length == l1.length) = true := by first | simpa using c3 | (simp at c3 ⊢; omega)
 clear c3
 have H' := aM H
 clear H
 go_enter Try.func30, Try.ntmps30
 go_wp2
 repeat (go_quiet (fail); try go_wp2)
 go_loopg [5] k (fun kq v5 w' => ∃ (x5_1 : Int), v5 = .int .i64 x5_1 ∧ Aside0 (laws_likeInts.l0 kq l0 l1 x5_1 = some r) ∧ Aside0 (kq ≤ k) ∧ Drawn0 w w')
 case atStart => exact ⟨(0), zr, H', ⟨Nat.le_refl _⟩, by repeat (first | exact Drawn0.refl _ | apply Drawn0.step)⟩
 case round =>
  clear H'
  try clear c1
  try clear p2
  try clear c3
  try clear c3b0
  try clear c3b1
  try clear c3b2
  obtain ⟨x5_1, rfl, HA, HK1, ⟨m1, rfl⟩⟩ := hrel
  cases gk with
  | zero => exact absurd HA.out (by simp [laws_likeInts.l0])
  | succ k1 =>
   have H := HA.out
   clear HA
   simp only [laws_likeInts.l0] at H
   by_cases c4 : x5_1 < (l0.length : Int)
   rotate_left
   ·rw [if_neg c4] at H
    have c4b0 : decide (x5_1 < (l0.length : Int)) = false := decide_eq_false c4
    clear c4
    obtain rfl := Option.some.inj H
    go_wp2
    repeat (go_quiet (fail); try go_wp2)
    go_ret
    exact ⟨by first | rfl | (simp; done) | (simp [*]; done), by repeat (first | exact Drawn0.refl _ | apply Drawn0.step)⟩
   rw [if_pos c4] at H
   have c4b0 : decide (x5_1 < (l0.length : Int)) = true := decide_eq_true c4
   clear c4
   by_cases c5 : 0 ≤ x5_1
   rotate_left
   ·rw [if_neg c5] at H
    exact absurd H (by simp)
   rw [if_pos c5] at H
   have c5b0 : decide (0 ≤ x5_1) = true := decide_eq_true c5
   clear c5
   by_cases c6 : x5_1 < (l1.length : Int)
   rotate_left
   ·rw [if_neg c6] at H
    exact absurd H (by simp)
   rw [if_pos c6] at H
   have c6b0 : decide (x5_1 < (l1.length : Int)) = true := decide_eq_true c6
   clear c6
   by_cases c7 : (rd l0 x5_1) = (rd l1 x5_1)
   rotate_left
   ·rw [if_neg c7] at H
    have c7b0 : ((rd l0 x5_1) == (rd l1 x5_1)) = false := beq_eq_false_iff_ne.mpr c7
    have c7b1 : ((rd l0 x5_1) != (rd l1 x5_1)) = true := bne_iff_ne.mpr c7
    obtain rfl := Option.some.inj H
    have p695 : 0 ≤ (x5_1 : Int) := of_decide_eq_true za
    have q695 : x5_1 < (l0.length : Int) := of_decide_eq_true za
    obtain ⟨ad695, e695, hx695_0⟩ := Kd.at_int HR0.out x5_1 p695 q695
    cases e695
    replace p695 := eq_true p695
    replace q695 := eq_true q695
    have p696 : 0 ≤ (x5_1 : Int) := of_decide_eq_true za
    have q696 : x5_1 < (l1.length : Int) := of_decide_eq_true za
    obtain ⟨ad696, e696, hx696_0⟩ := Kd.at_int HR1.out x5_1 p696 q696
    cases e696
    replace p696 := eq_true p696
    replace q696 := eq_true q696
    go_wp2
    repeat (go_quiet (fail); try go_wp2)
    go_ret
    exact ⟨by first | rfl | (simp; done) | (simp [*]; done), by repeat (first | exact Drawn0.refl _ | apply Drawn0.step)⟩
   rw [if_pos c7] at H
   have c7b0 : ((rd l0 x5_1) == (rd l1 x5_1)) = true := beq_iff_eq.mpr c7
   have c7b1 : ((rd l0 x5_1) != (rd l1 x5_1)) = false := bne_eq_false_iff_eq.mpr c7
   clear c7
   have H' := aM H
   clear H
   have p695 : 0 ≤ (x5_1 : Int) := of_decide_eq_true za
   have q695 : x5_1 < (l0.length : Int) := of_decide_eq_true za
   obtain ⟨ad695, e695, hx695_0⟩ := Kd.at_int HR0.out x5_1 p695 q695
   cases e695
   replace p695 := eq_true p695
   replace q695 := eq_true q695
   have p696 : 0 ≤ (x5_1 : Int) := of_decide_eq_true za
   have q696 : x5_1 < (l1.length : Int) := of_decide_eq_true za
   obtain ⟨ad696, e696, hx696_0⟩ := Kd.at_int HR1.out x5_1 p696 q696
   cases e696
   replace p696 := eq_true p696
   replace q696 := eq_true q696
   go_wp2
   repeat (go_quiet (fail); try go_wp2)
   go_roundg k1
   case measure => have := HK1.out; omega
   case rel => exact ⟨(wrap64 (x5_1 + 1)), zr, H', ⟨by have := HK1.out; omega⟩, by repeat (first | exact Drawn0.refl _ | apply Drawn0.step)⟩
def spec_l02Draw.l0 : Nat → List (S59) → Int → List Int → Int → Int → Option ((List (S59)) × Int × Int)
 | 0, _, _, _, _, _ => none
 | k + 1, x5, x6, x1000, x1001, x1002 => (spec_l01Next.f x1000 x1001 x1002 2).bind fun bt449 => (if x6 < (wrap64 (40 + bt449.1)) then (if x5.length < 8796093022208 then (spec_l02Draw.l0 k (x5 ++ [(⟨x6, 0⟩ : S59)]) (wrap64 (x6 + 1)) x1000 bt449.2.1 bt449.2.2) else (none)) else (some (x5, bt449.2.1, bt449.2.2)))
def spec_l02Draw.f (k : Nat) (s0_0 : List Int) (s0_1 : Int) (s0_2 : Int) : Option ((List (S59)) × Int × Int) := (spec_l02DrawPoly.f k s0_0 s0_1 s0_2 8).bind fun bt411 => ((spec_l01Next.f s0_0 bt411.2.1 bt411.2.2 9).bind fun bt416 => ((spec_l01Next.f s0_0 bt416.2.1 bt416.2.2 9).bind fun bt419 => ((spec_l02Move.f k bt411.1 (wrap64 (bt416.1 - 4)) (wrap64 (bt419.1 - 4))).bind fun t422 => ((spec_l01Next.f s0_0 bt419.2.1 bt419.2.2 (t422.length : Int)).bind fun bt425 => ((spec_l01Next.f s0_0 bt425.2.1 bt425.2.2 24).bind fun bt428 => (if bt428.1 = 0 then ((some (([(-100), 100, 101] : List Int) : List Int)).bind fun y431 => ((spec_l01Next.f s0_0 bt428.2.1 bt428.2.2 3).bind fun bt434 => (if 0 ≤ bt434.1 then (if bt434.1 < (y431.length : Int) then (if 0 ≤ bt425.1 then (if bt425.1 < (t422.length : Int) then ((spec_l02Sort.f k (t422.set (bt425.1 : Int).toNat (⟨rd y431 bt434.1, (rd_T59 t422 bt425.1).f1⟩ : S59))).bind fun t439 => (some (t439, bt434.2.1, bt434.2.2))) else (none)) else (none)) else (none)) else (none)))) else (if bt428.1 = 1 then (if 0 ≤ bt425.1 then (if bt425.1 < (t422.length : Int) then (if t422.length < 8796093022208 then (some ((t422 ++ [(⟨(rd_T59 t422 bt425.1).f0, (rd_T59 t422 bt425.1).f1⟩ : S59)]), bt428.2.1, bt428.2.2)) else (none)) else (none)) else (none)) else (if bt428.1 = 2 then (some (([] : List (S59)), bt428.2.1, bt428.2.2)) else (if bt428.1 = 3 then (spec_l02Draw.l0 k (([] : List (S59))) 0 s0_0 bt428.2.1 bt428.2.2) else (if bt428.1 = 4 then (if 0 < (t422.length : Int) then (if 0 ≤ (wrap64 ((t422.length : Int) - 1)) then (if (wrap64 ((t422.length : Int) - 1)) < (t422.length : Int) then (if t422.length < 8796093022208 then (some ((t422 ++ [(⟨wrap64 (((rd_T59 t422 0).f0) + 3), wrap64 (((rd_T59 t422 (wrap64 ((t422.length : Int) - 1))).f1) + 2)⟩ : S59)]), bt428.2.1, bt428.2.2)) else (none)) else (none)) else (none)) else (none)) else (if bt428.1 = 5 then (if 0 < (t422.length : Int) then (if 0 ≤ (wrap64 ((t422.length : Int) - 1)) then (if (wrap64 ((t422.length : Int) - 1)) < (t422.length : Int) then (if t422.length < 8796093022208 then (some ((t422 ++ [(⟨wrap64 (((rd_T59 t422 0).f0) + 3), wrap64 (((rd_T59 t422 (wrap64 ((t422.length : Int) - 1))).f1) + 2)⟩ : S59)]), bt428.2.1, bt428.2.2)) else (none)) else (none)) else (none)) else (none)) else (some (t422, bt428.2.1, bt428.2.2)))))))))))))
def spec_l02Draw.T20 : Bool × List (List Nat × List Nat) := (true, [([], []), ([], []), ([1], [1]), ([2], [2]), ([3], [3]), ([4], [4]), ([], []), ([], []), ([7], [7]), ([8], [8]), ([6, 9], [6, 9]), ([10], [10]), ([11], [11]), ([12], [12]), ([5, 13], [5, 13]), ([14], [14]), ([0, 15], [0, 15]), ([16, 16, 0, 1, 2, 3, 4, 5, 6, 7, 8, 9, 10, 11, 12, 13, 14, 15, 16], [16])])
def spec_l02Draw.B20 : List Nat := [0, 0, 2, 6, 14, 30, 0, 0, 128, 384, 960, 1984, 4032, 8128, 16382, 32766, 65535, 131071]
theorem spec_l02Draw.tab20 : rtab .any (opsOf Try.f103 20) = spec_l02Draw.T20 := by kernel_rfl
theorem spec_l02Draw.bits20 : waitsOk spec_l02Draw.T20.2 spec_l02Draw.B20 = true := by kernel_rfl
theorem spec_l02Draw.calls (k : Nat) (g : Nat) (s0_0 : List Int) (s0_1 : Int) (s0_2 : Int) (r1 : List (S59)) (r2 : Int) (r3 : Int) (w0 w : World) (hI : IsS98 w0 w g s0_0 s0_1 s0_2) (hB : Below w0.heap.size w0 w) (h : spec_l02Draw.f k s0_0 s0_1 s0_2 = some (r1, r2, r3)) :
  Calls Try.prog 103 #[.pointer (some ⟨g, 0, none⟩)] w fun e w' => ∃ v0_ : Value, e = .returned (v0_) ∧ Kd.R k59 59 w' w.heap.size (fun _ => True) v0_ r1 ∧ IsS98 w0 w' g s0_0 r2 r3 ∧ Below w0.heap.size w0 w' ∧ KeepBut w w' g none := by
 have hu59 := Try.underlying59
 have HI0 := aM hI
 have HK := aM (KeepBut.refl w g none)
 have HL := aM hB.size
 clear hI
 have HW0 := aM hB.size
 have HB := aM hB
 clear hB
 have H : ((spec_l02DrawPoly.f k s0_0 s0_1 s0_2 8).bind fun bt411 => ((spec_l01Next.f s0_0 bt411.2.1 bt411.2.2 9).bind fun bt416 => ((spec_l01Next.f s0_0 bt416.2.1 bt416.2.2 9).bind fun bt419 => ((spec_l02Move.f k bt411.1 (wrap64 (bt416.1 - 4)) (wrap64 (bt419.1 - 4))).bind fun t422 => ((spec_l01Next.f s0_0 bt419.2.1 bt419.2.2 (t422.length : Int)).bind fun bt425 => ((spec_l01Next.f s0_0 bt425.2.1 bt425.2.2 24).bind fun bt428 => (if bt428.1 = 0 then ((some (([(-100), 100, 101] : List Int) : List Int)).bind fun y431 => ((spec_l01Next.f s0_0 bt428.2.1 bt428.2.2 3).bind fun bt434 => (if 0 ≤ bt434.1 then (if bt434.1 < (y431.length : Int) then (if 0 ≤ bt425.1 then (if bt425.1 < (t422.length : Int) then ((spec_l02Sort.f k (t422.set (bt425.1 : Int).toNat (⟨rd y431 bt434.1, (rd_T59 t422 bt425.1).f1⟩ : S59))).bind fun t439 => (some (t439, bt434.2.1, bt434.2.2))) else (none)) else (none)) else (none)) else (none)))) else (if bt428.1 = 1 then (if 0 ≤ bt425.1 then (if bt425.1 < (t422.length : Int) then (if t422.length < 8796093022208 then (some ((t422 ++ [(⟨(rd_T59 t422 bt425.1).f0, (rd_T59 t422 bt425.1).f1⟩ : S59)]), bt428.2.1, bt428.2.2)) else (none)) else (none)) else (none)) else (if bt428.1 = 2 then (some (([] : List (S59)), bt428.2.1, bt428.2.2)) else (if bt428.1 = 3 then (spec_l02Draw.l0 k (([] : List (S59))) 0 s0_0 bt428.2.1 bt428.2.2) else (if bt428.1 = 4 then (if 0 < (t422.length : Int) then (if 0 ≤ (wrap64 ((t422.length : Int) - 1)) then (if (wrap64 ((t422.length : Int) - 1)) < (t422.length : Int) then (if t422.length < 8796093022208 then (some ((t422 ++ [(⟨wrap64 (((rd_T59 t422 0).f0) + 3), wrap64 (((rd_T59 t422 (wrap64 ((t422.length : Int) - 1))).f1) + 2)⟩ : S59)]), bt428.2.1, bt428.2.2)) else (none)) else (none)) else (none)) else (none)) else (if bt428.1 = 5 then (if 0 < (t422.length : Int) then (if 0 ≤ (wrap64 ((t422.length : Int) - 1)) then (if (wrap64 ((t422.length : Int) - 1)) < (t422.length : Int) then (if t422.length < 8796093022208 then (some ((t422 ++ [(⟨wrap64 (((rd_T59 t422 0).f0) + 3), wrap64 (((rd_T59 t422 (wrap64 ((t422.length : Int) - 1))).f1) + 2)⟩ : S59)]), bt428.2.1, bt428.2.2)) else (none)) else (none)) else (none)) else (none)) else (some (t422, bt428.2.1, bt428.2.2)))))))))))))) = some (r1, r2, r3) := h
 clear h
 replace H := Option.bind_eq_some_iff.mp H
 obtain ⟨⟨t411, t414, t415⟩, A20, H⟩ := H
 replace H : ((spec_l01Next.f s0_0 t414 t415 9).bind fun bt416 => ((spec_l01Next.f s0_0 bt416.2.1 bt416.2.2 9).bind fun bt419 => ((spec_l02Move.f k t411 (wrap64 (bt416.1 - 4)) (wrap64 (bt419.1 - 4))).bind fun t422 => ((spec_l01Next.f s0_0 bt419.2.1 bt419.2.2 (t422.length : Int)).bind fun bt425 => ((spec_l01Next.f s0_0 bt425.2.1 bt425.2.2 24).bind fun bt428 => (if bt428.1 = 0 then ((some (([(-100), 100, 101] : List Int) : List Int)).bind fun y431 => ((spec_l01Next.f s0_0 bt428.2.1 bt428.2.2 3).bind fun bt434 => (if 0 ≤ bt434.1 then (if bt434.1 < (y431.length : Int) then (if 0 ≤ bt425.1 then (if bt425.1 < (t422.length : Int) then ((spec_l02Sort.f k (t422.set (bt425.1 : Int).toNat (⟨rd y431 bt434.1, (rd_T59 t422 bt425.1).f1⟩ : S59))).bind fun t439 => (some (t439, bt434.2.1, bt434.2.2))) else (none)) else (none)) else (none)) else (none)))) else (if bt428.1 = 1 then (if 0 ≤ bt425.1 then (if bt425.1 < (t422.length : Int) then (if t422.length < 8796093022208 then (some ((t422 ++ [(⟨(rd_T59 t422 bt425.1).f0, (rd_T59 t422 bt425.1).f1⟩ : S59)]), bt428.2.1, bt428.2.2)) else (none)) else (none)) else (none)) else (if bt428.1 = 2 then (some (([] : List (S59)), bt428.2.1, bt428.2.2)) else (if bt428.1 = 3 then (spec_l02Draw.l0 k (([] : List (S59))) 0 s0_0 bt428.2.1 bt428.2.2) else (if bt428.1 = 4 then (if 0 < (t422.length : Int) then (if 0 ≤ (wrap64 ((t422.length : Int) - 1)) then (if (wrap64 ((t422.length : Int) - 1)) < (t422.length : Int) then (if t422.length < 8796093022208 then (some ((t422 ++ [(⟨wrap64 (((rd_T59 t422 0).f0) + 3), wrap64 (((rd_T59 t422 (wrap64 ((t422.length : Int) - 1))).f1) + 2)⟩ : S59)]), bt428.2.1, bt428.2.2)) else (none)) else (none)) else (none)) else (none)) else (if bt428.1 = 5 then (if 0 < (t422.length : Int) then (if 0 ≤ (wrap64 ((t422.length : Int) - 1)) then (if (wrap64 ((t422.length : Int) - 1)) < (t422.length : Int) then (if t422.length < 8796093022208 then (some ((t422 ++ [(⟨wrap64 (((rd_T59 t422 0).f0) + 3), wrap64 (((rd_T59 t422 (wrap64 ((t422.length : Int) - 1))).f1) + 2)⟩ : S59)]), bt428.2.1, bt428.2.2)) else (none)) else (none)) else (none)) else (none)) else (some (t422, bt428.2.1, bt428.2.2))))))))))))) = some (r1, r2, r3) := H
 have A2 := aM A20
 clear A20
 replace H := Option.bind_eq_some_iff.mp H
 obtain ⟨⟨t416, t417, t418⟩, A30, H⟩ := H
 replace H : ((spec_l01Next.f s0_0 t417 t418 9).bind fun bt419 => ((spec_l02Move.f k t411 (wrap64 (t416 - 4)) (wrap64 (bt419.1 - 4))).bind fun t422 => ((spec_l01Next.f s0_0 bt419.2.1 bt419.2.2 (t422.length : Int)).bind fun bt425 => ((spec_l01Next.f s0_0 bt425.2.1 bt425.2.2 24).bind fun bt428 => (if bt428.1 = 0 then ((some (([(-100), 100, 101] : List Int) : List Int)).bind fun y431 => ((spec_l01Next.f s0_0 bt428.2.1 bt428.2.2 3).bind fun bt434 => (if 0 ≤ bt434.1 then (if bt434.1 < (y431.length : Int) then (if 0 ≤ bt425.1 then (if bt425.1 < (t422.length : Int) then ((spec_l02Sort.f k (t422.set (bt425.1 : Int).toNat (⟨rd y431 bt434.1, (rd_T59 t422 bt425.1).f1⟩ : S59))).bind fun t439 => (some (t439, bt434.2.1, bt434.2.2))) else (none)) else (none)) else (none)) else (none)))) else (if bt428.1 = 1 then (if 0 ≤ bt425.1 then (if bt425.1 < (t422.length : Int) then (if t422.length < 8796093022208 then (some ((t422 ++ [(⟨(rd_T59 t422 bt425.1).f0, (rd_T59 t422 bt425.1).f1⟩ : S59)]), bt428.2.1, bt428.2.2)) else (none)) else (none)) else (none)) else (if bt428.1 = 2 then (some (([] : List (S59)), bt428.2.1, bt428.2.2)) else (if bt428.1 = 3 then (spec_l02Draw.l0 k (([] : List (S59))) 0 s0_0 bt428.2.1 bt428.2.2) else (if bt428.1 = 4 then (if 0 < (t422.length : Int) then (if 0 ≤ (wrap64 ((t422.length : Int) - 1)) then (if (wrap64 ((t422.length : Int) - 1)) < (t422.length : Int) then (if t422.length < 8796093022208 then (some ((t422 ++ [(⟨wrap64 (((rd_T59 t422 0).f0) + 3), wrap64 (((rd_T59 t422 (wrap64 ((t422.length : Int) - 1))).f1) + 2)⟩ : S59)]), bt428.2.1, bt428.2.2)) else (none)) else (none)) else (none)) else (none)) else (if bt428.1 = 5 then (if 0 < (t422.length : Int) then (if 0 ≤ (wrap64 ((t422.length : Int) - 1)) then (if (wrap64 ((t422.length : Int) - 1)) < (t422.length : Int) then (if t422.length < 8796093022208 then (some ((t422 ++ [(⟨wrap64 (((rd_T59 t422 0).f0) + 3), wrap64 (((rd_T59 t422 (wrap64 ((t422.length : Int) - 1))).f1) + 2)⟩ : S59)]), bt428.2.1, bt428.2.2)) else (none)) else (none)) else (none)) else (none)) else (some (t422, bt428.2.1, bt428.2.2)))))))))))) = some (r1, r2, r3) := H
 have A3 := aM A30
 clear A30
 replace H := Option.bind_eq_some_iff.mp H
 obtain ⟨⟨t419, t420, t421⟩, A40, H⟩ := H
 replace H : ((spec_l02Move.f k t411 (wrap64 (t416 - 4)) (wrap64 (t419 - 4))).bind fun t422 => ((spec_l01Next.f s0_0 t420 t421 (t422.length : Int)).bind fun bt425 => ((spec_l01Next.f s0_0 bt425.2.1 bt425.2.2 24).bind fun bt428 => (if bt428.1 = 0 then ((some (([(-100), 100, 101] : List Int) : List Int)).bind fun y431 => ((spec_l01Next.f s0_0 bt428.2.1 bt428.2.2 3).bind fun bt434 => (if 0 ≤ bt434.1 then (if bt434.1 < (y431.length : Int) then (if 0 ≤ bt425.1 then (if bt425.1 < (t422.length : Int) then ((spec_l02Sort.f k (t422.set (bt425.1 : Int).toNat (⟨rd y431 bt434.1, (rd_T59 t422 bt425.1).f1⟩ : S59))).bind fun t439 => (some (t439, bt434.2.1, bt434.2.2))) else (none)) else (none)) else (none)) else (none)))) else (if bt428.1 = 1 then (if 0 ≤ bt425.1 then (if bt425.1 < (t422.length : Int) then (if t422.length < 8796093022208 then (some ((t422 ++ [(⟨(rd_T59 t422 bt425.1).f0, (rd_T59 t422 bt425.1).f1⟩ : S59)]), bt428.2.1, bt428.2.2)) else (none)) else (none)) else (none)) else (if bt428.1 = 2 then (some (([] : List (S59)), bt428.2.1, bt428.2.2)) else (if bt428.1 = 3 then (spec_l02Draw.l0 k (([] : List (S59))) 0 s0_0 bt428.2.1 bt428.2.2) else (if bt428.1 = 4 then (if 0 < (t422.length : Int) then (if 0 ≤ (wrap64 ((t422.length : Int) - 1)) then (if (wrap64 ((t422.length : Int) - 1)) < (t422.length : Int) then (if t422.length < 8796093022208 then (some ((t422 ++ [(⟨wrap64 (((rd_T59 t422 0).f0) + 3), wrap64 (((rd_T59 t422 (wrap64 ((t422.length : Int) - 1))).f1) + 2)⟩ : S59)]), bt428.2.1, bt428.2.2)) else (none)) else (none)) else (none)) else (none)) else (if bt428.1 = 5 then (if 0 < (t422.length : Int) then (if 0 ≤ (wrap64 ((t422.length : Int) - 1)) then (if (wrap64 ((t422.length : Int) - 1)) < (t422.length : Int) then (if t422.length < 8796093022208 then (some ((t422 ++ [(⟨wrap64 (((rd_T59 t422 0).f0) + 3), wrap64 (((rd_T59 t422 (wrap64 ((t422.length : Int) - 1))).f1) + 2)⟩ : S59)]), bt428.2.1, bt428.2.2)) else (none)) else (none)) else (none)) else (none)) else (some (t422, bt428.2.1, bt428.2.2))))))))))) = some (r1, r2, r3) := H
 have A4 := aM A40
 clear A40
 replace H := Option.bind_eq_some_iff.mp H
 obtain ⟨t422, A50, H⟩ := H
 replace H : ((spec_l01Next.f s0_0 t420 t421 (t422.length : Int)).bind fun bt425 => ((spec_l01Next.f s0_0 bt425.2.1 bt425.2.2 24).bind fun bt428 => (if bt428.1 = 0 then ((some (([(-100), 100, 101] : List Int) : List Int)).bind fun y431 => ((spec_l01Next.f s0_0 bt428.2.1 bt428.2.2 3).bind fun bt434 => (if 0 ≤ bt434.1 then (if bt434.1 < (y431.length : Int) then (if 0 ≤ bt425.1 then (if bt425.1 < (t422.length : Int) then ((spec_l02Sort.f k (t422.set (bt425.1 : Int).toNat (⟨rd y431 bt434.1, (rd_T59 t422 bt425.1).f1⟩ : S59))).bind fun t439 => (some (t439, bt434.2.1, bt434.2.2))) else (none)) else (none)) else (none)) else (none)))) else (if bt428.1 = 1 then (if 0 ≤ bt425.1 then (if bt425.1 < (t422.length : Int) then (if t422.length < 8796093022208 then (some ((t422 ++ [(⟨(rd_T59 t422 bt425.1).f0, (rd_T59 t422 bt425.1).f1⟩ : S59)]), bt428.2.1, bt428.2.2)) else (none)) else (none)) else (none)) else (if bt428.1 = 2 then (some (([] : List (S59)), bt428.2.1, bt428.2.2)) else (if bt428.1 = 3 then (spec_l02Draw.l0 k (([] : List (S59))) 0 s0_0 bt428.2.1 bt428.2.2) else (if bt428.1 = 4 then (if 0 < (t422.length : Int) then (if 0 ≤ (wrap64 ((t422.length : Int) - 1)) then (if (wrap64 ((t422.length : Int) - 1)) < (t422.length : Int) then (if t422.length < 8796093022208 then (some ((t422 ++ [(⟨wrap64 (((rd_T59 t422 0).f0) + 3), wrap64 (((rd_T59 t422 (wrap64 ((t422.length : Int) - 1))).f1) + 2)⟩ : S59)]), bt428.2.1, bt428.2.2)) else (none)) else (none)) else (none)) else (none)) else (if bt428.1 = 5 then (if 0 < (t422.length : Int) then (if 0 ≤ (wrap64 ((t422.length : Int) - 1)) then (if (wrap64 ((t422.length : Int) - 1)) < (t422.length : Int) then (if t422.length < 8796093022208 then (some ((t422 ++ [(⟨wrap64 (((rd_T59 t422 0).f0) + 3), wrap64 (((rd_T59 t422 (wrap64 ((t422.length : Int) - 1))).f1) + 2)⟩ : S59)]), bt428.2.1, bt428.2.2)) else (none)) else (none)) else (none)) else (none)) else (some (t422, bt428.2.1, bt428.2.2)))))))))) = some (r1, r2, r3) := H
 have A5 := aM A50
 clear A50
 replace H := Option.bind_eq_some_iff.mp H
 obtain ⟨⟨t425, t426, t427⟩, A60, H⟩ := H
 replace H : ((spec_l01Next.f s0_0 t426 t427 24).bind fun bt428 => (if bt428.1 = 0 then ((some (([(-100), 100, 101] : List Int) : List Int)).bind fun y431 => ((spec_l01Next.f s0_0 bt428.2.1 bt428.2.2 3).bind fun bt434 => (if 0 ≤ bt434.1 then (if bt434.1 < (y431.length : Int) then (if 0 ≤ t425 then (if t425 < (t422.length : Int) then ((spec_l02Sort.f k (t422.set (t425 : Int).toNat (⟨rd y431 bt434.1, (rd_T59 t422 t425).f1⟩ : S59))).bind fun t439 => (some (t439, bt434.2.1, bt434.2.2))) else (none)) else (none)) else (none)) else (none)))) else (if bt428.1 = 1 then (if 0 ≤ t425 then (if t425 < (t422.length : Int) then (if t422.length < 8796093022208 then (some ((t422 ++ [(⟨(rd_T59 t422 t425).f0, (rd_T59 t422 t425).f1⟩ : S59)]), bt428.2.1, bt428.2.2)) else (none)) else (none)) else (none)) else (if bt428.1 = 2 then (some (([] : List (S59)), bt428.2.1, bt428.2.2)) else (if bt428.1 = 3 then (spec_l02Draw.l0 k (([] : List (S59))) 0 s0_0 bt428.2.1 bt428.2.2) else (if bt428.1 = 4 then (if 0 < (t422.length : Int) then (if 0 ≤ (wrap64 ((t422.length : Int) - 1)) then (if (wrap64 ((t422.length : Int) - 1)) < (t422.length : Int) then (if t422.length < 8796093022208 then (some ((t422 ++ [(⟨wrap64 (((rd_T59 t422 0).f0) + 3), wrap64 (((rd_T59 t422 (wrap64 ((t422.length : Int) - 1))).f1) + 2)⟩ : S59)]), bt428.2.1, bt428.2.2)) else (none)) else (none)) else (none)) else (none)) else (if bt428.1 = 5 then (if 0 < (t422.length : Int) then (if 0 ≤ (wrap64 ((t422.length : Int) - 1)) then (if (wrap64 ((t422.length : Int) - 1)) < (t422.length : Int) then (if t422.length < 8796093022208 then (some ((t422 ++ [(⟨wrap64 (((rd_T59 t422 0).f0) + 3), wrap64 (((rd_T59 t422 (wrap64 ((t422.length : Int) - 1))).f1) + 2)⟩ : S59)]), bt428.2.1, bt428.2.2)) else (none)) else (none)) else (none)) else (none)) else (some (t422, bt428.2.1, bt428.2.2))))))))) = some (r1, r2, r3) := H
 have A6 := aM A60
 clear A60
 replace H := Option.bind_eq_some_iff.mp H
 obtain ⟨⟨t428, t429, t430⟩, A70, H⟩ := H
 replace H : (if t428 = 0 then ((some (([(-100), 100, 101] : List Int) : List Int)).bind fun y431 => ((spec_l01Next.f s0_0 t429 t430 3).bind fun bt434 => (if 0 ≤ bt434.1 then (if bt434.1 < (y431.length : Int) then (if 0 ≤ t425 then (if t425 < (t422.length : Int) then ((spec_l02Sort.f k (t422.set (t425 : Int).toNat (⟨rd y431 bt434.1, (rd_T59 t422 t425).f1⟩ : S59))).bind fun t439 => (some (t439, bt434.2.1, bt434.2.2))) else (none)) else (none)) else (none)) else (none)))) else (if t428 = 1 then (if 0 ≤ t425 then (if t425 < (t422.length : Int) then (if t422.length < 8796093022208 then (some ((t422 ++ [(⟨(rd_T59 t422 t425).f0, (rd_T59 t422 t425).f1⟩ : S59)]), t429, t430)) else (none)) else (none)) else (none)) else (if t428 = 2 then (some (([] : List (S59)), t429, t430)) else (if t428 = 3 then (spec_l02Draw.l0 k (([] : List (S59))) 0 s0_0 t429 t430) else (if t428 = 4 then (if 0 < (t422.length : Int) then (if 0 ≤ (wrap64 ((t422.length : Int) - 1)) then (if (wrap64 ((t422.length : Int) - 1)) < (t422.length : Int) then (if t422.length < 8796093022208 then (some ((t422 ++ [(⟨wrap64 (((rd_T59 t422 0).f0) + 3), wrap64 (((rd_T59 t422 (wrap64 ((t422.length : Int) - 1))).f1) + 2)⟩ : S59)]), t429, t430)) else (none)) else (none)) else (none)) else (none)) else (if t428 = 5 then (if 0 < (t422.length : Int) then (if 0 ≤ (wrap64 ((t422.length : Int) - 1)) then (if (wrap64 ((t422.length : Int) - 1)) < (t422.length : Int) then (if t422.length < 8796093022208 then (some ((t422 ++ [(⟨wrap64 (((rd_T59 t422 0).f0) + 3), wrap64 (((rd_T59 t422 (wrap64 ((t422.length : Int) - 1))).f1) + 2)⟩ : S59)]), t429, t430)) else (none)) else (none)) else (none)) else (none)) else (some (t422, t429, t430)))))))) = some (r1, r2, r3) := H
 have A7 := aM A70
 clear A70
 by_cases c8 : t428 = 0
 ·rw [if_pos c8] at H
  have c8b0 : (t428 == 0) = true := beq_iff_eq.mpr c8
  have c8b1 : (t428 != 0) = false := bne_eq_false_iff_eq.mpr c8
  clear c8
  obtain ⟨y431, hy431⟩ : ∃ y_ : List Int, y_ = (([(-100), 100, 101] : List Int)) := ⟨_, rfl⟩
  replace H : ((spec_l01Next.f s0_0 t429 t430 3).bind fun bt434 => (if 0 ≤ bt434.1 then (if bt434.1 < (y431.length : Int) then (if 0 ≤ t425 then (if t425 < (t422.length : Int) then ((spec_l02Sort.f k (t422.set (t425 : Int).toNat (⟨rd y431 bt434.1, (rd_T59 t422 t425).f1⟩ : S59))).bind fun t439 => (some (t439, bt434.2.1, bt434.2.2))) else (none)) else (none)) else (none)) else (none))) = some (r1, r2, r3) := zy H hy431
  have Ny431 := aM hy431
  clear hy431
  replace H := Option.bind_eq_some_iff.mp H
  obtain ⟨⟨t434, t435, t436⟩, A90, H⟩ := H
  replace H : (if 0 ≤ t434 then (if t434 < (y431.length : Int) then (if 0 ≤ t425 then (if t425 < (t422.length : Int) then ((spec_l02Sort.f k (t422.set (t425 : Int).toNat (⟨rd y431 t434, (rd_T59 t422 t425).f1⟩ : S59))).bind fun t439 => (some (t439, t435, t436))) else (none)) else (none)) else (none)) else (none)) = some (r1, r2, r3) := H
  have A9 := aM A90
  clear A90
  by_cases c10 : 0 ≤ t434
  rotate_left
  ·rw [if_neg c10] at H
   exact absurd H (by simp)
  rw [if_pos c10] at H
  have c10b0 : decide (0 ≤ t434) = true := decide_eq_true c10
  clear c10
  by_cases c11 : t434 < (y431.length : Int)
  rotate_left
  ·rw [if_neg c11] at H
   exact absurd H (by simp)
  rw [if_pos c11] at H
  have c11b0 : decide (t434 < (y431.length : Int)) = true := decide_eq_true c11
  clear c11
  by_cases c12 : 0 ≤ t425
  rotate_left
  ·rw [if_neg c12] at H
   exact absurd H (by simp)
  rw [if_pos c12] at H
  have c12b0 : decide (0 ≤ t425) = true := decide_eq_true c12
  clear c12
  by_cases c13 : t425 < (t422.length : Int)
  rotate_left
  ·rw [if_neg c13] at H
   exact absurd H (by simp)
  rw [if_pos c13] at H
  have c13b0 : decide (t425 < (t422.length : Int)) = true := decide_eq_true c13
  clear c13
  obtain ⟨y438, hy438⟩ : ∃ y_ : List (S59), y_ = (t422.set (t425 : Int).toNat (⟨rd y431 t434, (rd_T59 t422 t425).f1⟩ : S59)) := ⟨_, rfl⟩
  replace H : ((spec_l02Sort.f k y438).bind fun t439 => (some (t439, t435, t436))) = some (r1, r2, r3) := zy H hy438
  have Ny438 := aM hy438
  clear hy438
  replace H := Option.bind_eq_some_iff.mp H
  obtain ⟨t439, A150, H⟩ := H
  replace H : (some (t439, t435, t436)) = some (r1, r2, r3) := H
  have A15 := aM A150
  clear A150
  simp only [Option.some.injEq, Prod.mk.injEq] at H
  obtain ⟨rfl, rfl, rfl⟩ := H
  go_enter Try.func103, Try.ntmps103
  go_wp2_with (first | ((with_reducible refine gate_callee (f := 118) rfl ?_); refine goesL_ (some 8) rfl rfl Try.func118 (by kernel_rfl) rfl #[.pointer (some ⟨g, 0, none⟩), .int .i64 8] rfl zm ?_; (with_reducible refine (spec_l02DrawPoly.calls k g s0_0 s0_1 s0_2 8 t411 t414 t415 w0 _ ?side1 ?side2 A2.out).mono ?_); (case side1 => exact zI98 HI0.out); (case side2 => exact zs (IsS98.ge HI0.out)); rintro e w16 ⟨v412, rfl, ho0, hi, hb, hk⟩; refine ⟨_, rfl, ?_⟩; have n0_ := aM (Kd.R_lower ho0 (keep_size (w := w) (g := g) (row := none) (zK HK.out))); have n1_ := aM (KeepBut.trans (zK HK.out) hk (.inl rfl)); have n2_ := aM (hb); have n3_ := aM (hi); clear HK HB HI0; have HO413 := n0_; have HK := n1_; have HB := n2_; have HI0 := n3_; clear n0_ n1_ n2_ n3_; (try clear hb); (try clear hb2); (try clear hk); (try clear hi); (try clear ho0)) | ((with_reducible refine gate_callee (f := 71) rfl ?_); refine goesL_ (some 10) rfl rfl Try.func71 (by kernel_rfl) rfl #[.pointer (some ⟨g, 0, none⟩), .int .i64 9] rfl zm ?_; (with_reducible refine (spec_l01Next.calls g s0_0 t414 t415 9 t416 t417 t418 w0 _ ?side1 ?side2 A3.out).mono ?_); (case side1 => exact zI98 HI0.out); (case side2 => exact zs (IsS98.ge HI0.out)); rintro e w17 ⟨rfl, hi, hb, hk⟩; refine ⟨_, rfl, ?_⟩; have n0_ := aM (Kd.R_mono (Kd.R_keep (IsS98.apart (show IsS98 w0 _ g s0_0 t414 t415 from zI98 HI0.out) (mR_ HO413.out) (by decide)) hk (fun _ h => h.2)) (fun _ h => h.1)); have n1_ := aM (KeepBut.trans (zK HK.out) hk (.inl rfl)); have n2_ := aM (hb); have n3_ := aM (hi); clear HO413 HK HB HI0; have HO413 := n0_; have HK := n1_; have HB := n2_; have HI0 := n3_; clear n0_ n1_ n2_ n3_; (try clear hb); (try clear hb2); (try clear hk); (try clear hi)) | ((with_reducible refine gate_callee (f := 71) rfl ?_); refine goesL_ (some 13) rfl rfl Try.func71 (by kernel_rfl) rfl #[.pointer (some ⟨g, 0, none⟩), .int .i64 9] rfl zm ?_; (with_reducible refine (spec_l01Next.calls g s0_0 t417 t418 9 t419 t420 t421 w0 _ ?side1 ?side2 A4.out).mono ?_); (case side1 => exact zI98 HI0.out); (case side2 => exact zs (IsS98.ge HI0.out)); rintro e w18 ⟨rfl, hi, hb, hk⟩; refine ⟨_, rfl, ?_⟩; have n0_ := aM (Kd.R_mono (Kd.R_keep (IsS98.apart (show IsS98 w0 _ g s0_0 t417 t418 from zI98 HI0.out) (mR_ HO413.out) (by decide)) hk (fun _ h => h.2)) (fun _ h => h.1)); have n1_ := aM (KeepBut.trans (zK HK.out) hk (.inl rfl)); have n2_ := aM (hb); have n3_ := aM (hi); clear HO413 HK HB HI0; have HO413 := n0_; have HK := n1_; have HB := n2_; have HI0 := n3_; clear n0_ n1_ n2_ n3_; (try clear hb); (try clear hb2); (try clear hk); (try clear hi); obtain ⟨Ao19, co19, eo19⟩ := Kd.R_slice HO413.out; subst eo19) | ((with_reducible refine gate_callee (f := 122) rfl ?_); refine goesL_ (some 15) rfl rfl Try.func122 (by kernel_rfl) rfl #[.slice Ao19 t411.length co19, .int .i64 (wrap64 (t416 - 4)), .int .i64 (wrap64 (t419 - 4))] rfl zm ?_; (with_reducible refine (spec_l02Move.calls k _ _ t411 (wrap64 (t416 - 4)) (wrap64 (t419 - 4)) t422 _ ?side1 ?side2 A5.out).mono ?_); (case side1 => exact zc HO413.out); (case side2 => exact (Kd.R_reads' HO413.out).2.1); rintro e w20 ⟨v423, rfl, ho0, hb⟩; refine ⟨_, rfl, ?_⟩; have n0_ := aM (Kd.R_elder' (mR_ HO413.out) (Kd.R_base ho0) hb); have n1_ := aM (Kd.R_lower (Kd.R_new' ho0 (Kd.R_lt (mR_ HO413.out))) (keep_size (w := w) (g := g) (row := none) (zK HK.out))); have n2_ := aM (IsS98.below (zI98 HI0.out) hb); have n3_ := aM (KeepBut.trans (zK HK.out) (KeepBut.of_below hb g none) (.inl rfl)); have n4_ := aM (below_step (zs (IsS98.ge HI0.out)) hb); clear HO413 HI0 HK HB; have HO413 := n0_; have HO424 := n1_; have HI0 := n2_; have HK := n3_; have HB := n4_; clear n0_ n1_ n2_ n3_ n4_; (try clear hb); (try clear hb2); (try clear hk); (try clear hi); (try clear ho0); obtain ⟨Ao21, co21, eo21⟩ := Kd.R_slice HO424.out; subst eo21) | ((with_reducible refine gate_callee (f := 71) rfl ?_); refine goesL_ (some 19) rfl rfl Try.func71 (by kernel_rfl) rfl #[.pointer (some ⟨g, 0, none⟩), .int .i64 (t422.length : Int)] rfl zm ?_; (with_reducible refine (spec_l01Next.calls g s0_0 t420 t421 (t422.length : Int) t425 t426 t427 w0 _ ?side1 ?side2 A6.out).mono ?_); (case side1 => exact zI98 HI0.out); (case side2 => exact zs (IsS98.ge HI0.out)); rintro e w22 ⟨rfl, hi, hb, hk⟩; refine ⟨_, rfl, ?_⟩; have n0_ := aM (Kd.R_mono (Kd.R_keep (IsS98.apart (show IsS98 w0 _ g s0_0 t420 t421 from zI98 HI0.out) (mR_ HO413.out) (by decide)) hk (fun _ h => h.2)) (fun _ h => h.1)); have n1_ := aM (Kd.R_mono (Kd.R_keep (IsS98.apart (show IsS98 w0 _ g s0_0 t420 t421 from zI98 HI0.out) (mR_ HO424.out) (by decide)) hk (fun _ h => h.2)) (fun _ h => h.1)); have n2_ := aM (KeepBut.trans (zK HK.out) hk (.inl rfl)); have n3_ := aM (hb); have n4_ := aM (hi); clear HO413 HO424 HK HB HI0; have HO413 := n0_; have HO424 := n1_; have HK := n2_; have HB := n3_; have HI0 := n4_; clear n0_ n1_ n2_ n3_ n4_; (try clear hb); (try clear hb2); (try clear hk); (try clear hi)) | ((with_reducible refine gate_callee (f := 71) rfl ?_); refine goesL_ (some 21) rfl rfl Try.func71 (by kernel_rfl) rfl #[.pointer (some ⟨g, 0, none⟩), .int .i64 24] rfl zm ?_; (with_reducible refine (spec_l01Next.calls g s0_0 t426 t427 24 t428 t429 t430 w0 _ ?side1 ?side2 A7.out).mono ?_); (case side1 => exact zI98 HI0.out); (case side2 => exact zs (IsS98.ge HI0.out)); rintro e w23 ⟨rfl, hi, hb, hk⟩; refine ⟨_, rfl, ?_⟩; have n0_ := aM (Kd.R_mono (Kd.R_keep (IsS98.apart (show IsS98 w0 _ g s0_0 t426 t427 from zI98 HI0.out) (mR_ HO413.out) (by decide)) hk (fun _ h => h.2)) (fun _ h => h.1)); have n1_ := aM (Kd.R_mono (Kd.R_keep (IsS98.apart (show IsS98 w0 _ g s0_0 t426 t427 from zI98 HI0.out) (mR_ HO424.out) (by decide)) hk (fun _ h => h.2)) (fun _ h => h.1)); have n2_ := aM (KeepBut.trans (zK HK.out) hk (.inl rfl)); have n3_ := aM (hb); have n4_ := aM (hi); clear HO413 HO424 HK HB HI0; have HO413 := n0_; have HO424 := n1_; have HK := n2_; have HB := n3_; have HI0 := n4_; clear n0_ n1_ n2_ n3_ n4_; (try clear hb); (try clear hb2); (try clear hk); (try clear hi)) | ((with_reducible refine gate_dst (N := 26) rfl ?_); refine Kd.R_lit (Kd.int .i64) _ 2 ?hg (N := 26) ?hd (xs := ([(-100), 100, 101] : List Int)) (inner := [.int .i64 (-100), .int .i64 100, .int .i64 101]) (ok := fun _ => True) (okp := fun _ => True) ?hr ?hp (fun _ hk => hk) trivial (Below.refl _ _) (Nat.le_refl _) (by simp) ?_; (case hd => rfl); (case hg => rfl); (case hr => first | (go_simp; done) | (go_simp; rfl)); (case hp => exact (Reps.one (show Kd.M (Kd.int .i64) _ _ _ (-100) [.int .i64 (-100)] from rfl) (Reps.one (show Kd.M (Kd.int .i64) _ _ _ 100 [.int .i64 100] from rfl) (Reps.one (show Kd.M (Kd.int .i64) _ _ _ 101 [.int .i64 101] from rfl) (Reps.none _ _))))); intro v432 w24 ho25 hb hg_ hnew_; clear hg_ hnew_; (first | rw [← Ny431.out] at ho25 | (simp only [Int.reduceToNat] at ho25; rw [← Ny431.out] at ho25)); have n0_ := aM (Kd.R_below (mR_ HO413.out) hb); have n1_ := aM (Kd.R_below (mR_ HO424.out) hb); have n2_ := aM (Kd.R_lower ho25 (keep_size (w := w) (g := g) (row := none) (zK HK.out))); have n3_ := aM (IsS98.below (zI98 HI0.out) hb); have n4_ := aM (KeepBut.trans (zK HK.out) (KeepBut.of_below hb g none) (.inl rfl)); have n5_ := aM (below_step (zs (IsS98.ge HI0.out)) hb); clear HO413 HO424 HI0 HK HB; have HO413 := n0_; have HO424 := n1_; have HO433 := n2_; have HI0 := n3_; have HK := n4_; have HB := n5_; clear n0_ n1_ n2_ n3_ n4_ n5_; clear hb ho25) | ((with_reducible refine gate_callee (f := 71) rfl ?_); refine goesL_ (some 28) rfl rfl Try.func71 (by kernel_rfl) rfl #[.pointer (some ⟨g, 0, none⟩), .int .i64 3] rfl zm ?_; (with_reducible refine (spec_l01Next.calls g s0_0 t429 t430 3 t434 t435 t436 w0 _ ?side1 ?side2 A9.out).mono ?_); (case side1 => exact zI98 HI0.out); (case side2 => exact zs (IsS98.ge HI0.out)); rintro e w26 ⟨rfl, hi, hb, hk⟩; refine ⟨_, rfl, ?_⟩; have n0_ := aM (Kd.R_mono (Kd.R_keep (IsS98.apart (show IsS98 w0 _ g s0_0 t429 t430 from zI98 HI0.out) (mR_ HO413.out) (by decide)) hk (fun _ h => h.2)) (fun _ h => h.1)); have n1_ := aM (Kd.R_mono (Kd.R_keep (IsS98.apart (show IsS98 w0 _ g s0_0 t429 t430 from zI98 HI0.out) (mR_ HO424.out) (by decide)) hk (fun _ h => h.2)) (fun _ h => h.1)); have n2_ := aM (Kd.R_mono (Kd.R_keep (IsS98.apart (show IsS98 w0 _ g s0_0 t429 t430 from zI98 HI0.out) (mR_ HO433.out) (by decide)) hk (fun _ h => h.2)) (fun _ h => h.1)); have n3_ := aM (KeepBut.trans (zK HK.out) hk (.inl rfl)); have n4_ := aM (hb); have n5_ := aM (hi); clear HO413 HO424 HO433 HK HB HI0; have HO413 := n0_; have HO424 := n1_; have HO433 := n2_; have HK := n3_; have HB := n4_; have HI0 := n5_; clear n0_ n1_ n2_ n3_ n4_ n5_; (try clear hb); (try clear hb2); (try clear hk); (try clear hi); obtain ⟨Ao27, co27, eo27⟩ := Kd.R_slice HO433.out; subst eo27; have p437 : 0 ≤ (t434 : Int) := of_decide_eq_true za; have q437 : t434 < (y431.length : Int) := of_decide_eq_true za; obtain ⟨ad437, e437, hx437_0⟩ := Kd.at_int (Kd.R_reads' HO433.out).2.2 t434 p437 q437; cases e437; replace p437 := eq_true p437; replace q437 := eq_true q437; have p14 : 0 ≤ (t425 : Int) := of_decide_eq_true za; have q14 : (t425 : Int) < ((t422.length : Int) : Int) := of_decide_eq_true za; obtain ⟨go14, co14, eo14, gb14, gl14, cl14, HG14⟩ := Kd.R_form HO424.out (by omega); (first | cases eo14 | (injection eo14 with ea_ en_ ec_; (first | subst ea_ | (injection ea_ with ea_; subst ea_)); subst ec_; clear en_)); have GB14 := aM gb14; have GG14 := aM HG14; clear gb14 gl14 HG14; obtain ⟨ce14, hcl14, hM14, hcc14, hfr14⟩ := Kd.R_elem HO424.out z59 (t425 : Int) p14 q14; obtain rfl := k59_openM hM14; have hx14_0 : w26.cell? ⟨go14, (t425 : Int).toNat * 2, none⟩ = some (.int .i64 ((rd_T59 t422 t425).f0)) := hcc14 0 _ rfl; have hx14_1 : w26.cell? ⟨go14, (t425 : Int).toNat * 2 + 1, none⟩ = some (.int .i64 ((rd_T59 t422 t425).f1)) := hcc14 1 _ rfl; have hf14_0 : w26.frozen? ⟨go14, (t425 : Int).toNat * 2, none⟩ = false := hfr14 0; have hf14_1 : w26.frozen? ⟨go14, (t425 : Int).toNat * 2 + 1, none⟩ = false := hfr14 1; clear hcl14 hcc14 hfr14 hM14; replace p14 := eq_true p14; replace q14 := eq_true q14; have n_ := aM (Kd.R_mono (ok' := (fun k_ => some k_ ≠ (.slice Ao19 t411.length co19 : Value).ownBlock)) HO424.out (fun k_ hk => hk.2)); clear HO424; have HO424 := n_; clear n_; have HX28 := aM (show Kd.R k59 59 w26 w.heap.size (fun k_ => some k_ ≠ (.slice Ao19 t411.length co19 : Value).ownBlock) (.slice (some ⟨go14, 0, none⟩) t422.length co21) t422 from (mR_ HO424.out)); obtain ⟨ce28, hcl28, hM28, hcc28, hfr28⟩ := Kd.R_elem HX28.out z59 (t425 : Int) (of_decide_eq_true za) (by have h_ : (t425 : Int) < ((t422.length : Int) : Int) := of_decide_eq_true za; first | exact h_ | (have e_ := (Kd.R_reads' HO424.out).1; omega) | simpa using h_); obtain rfl := k59_openM hM28; have HP28 := Kd.R_seg HX28.out (t425 : Int) (of_decide_eq_true za) (by have h_ : (t425 : Int) < ((t422.length : Int) : Int) := of_decide_eq_true za; first | exact h_ | (have e_ := (Kd.R_reads' HO424.out).1; omega) | simpa using h_) (seg := [.int .i64 (rd y431 t434)]) (j := 0) hcl28 hcc28 (show 1 ≤ 2 from by decide) (x' := (⟨rd y431 t434, (rd_T59 t422 t425).f1⟩ : S59)) (k59_mkM _ _ _ (⟨rd y431 t434, (rd_T59 t422 t425).f1⟩ : S59) ) (fun _ hk => hk); have hx28_0 := hcc28 0 _ rfl; (try simp only [show (k59).sz = 2 from rfl, Nat.mul_one, Nat.add_zero] at hx28_0); have hf28_0 := hfr28 0; (try simp only [show (k59).sz = 2 from rfl, Nat.mul_one, Nat.add_zero] at hf28_0); clear hcl28 hcc28 hfr28 hM28) | ((with_reducible refine gate_store (t := 2) (p := 32) rfl ?_); refine store_event (t := 2) (p := 32) (v := ?vo_w29) (w1 := (w26.setCell ⟨go14, (t425 : Int).toNat * 2, none⟩ (.int .i64 (rd y431 t434)))) ?hg ?ho ?hn ?hr ?_; (case ho => rfl); (case hg => rfl); (case hn => rfl); (case hr => first | (go_simp; done) | (go_simp; rfl)); intro w29 hw; have hg : w26.grownBy w29 (some go14) := (by rw [hw]; exact HP28.2); have hp_ : Kd.R k59 59 w29 w.heap.size (fun k_ => some k_ ≠ (.slice Ao19 t411.length co19 : Value).ownBlock) (.slice (some ⟨go14, 0, none⟩) t422.length co21) y438 := (by rw [hw, Ny438.out]; exact HP28.1); clear HP28; have n0_ := aM (IsS98.grown (zI98 HI0.out) hg (IsS98.own_ne HI0.out HO424.out (by decide))); have n1_ := aM (Kd.R_after (v := (.slice (some ⟨go14, 0, none⟩) t422.length co21)) (v1 := (.slice (some ⟨go14, 0, none⟩) t422.length co21)) (ok := (fun _ => True)) (mR_ HO413.out) hg (.inl rfl)); have n2_ := aM (hp_); have n3_ := aM (Kd.R_over' (v := (.slice (some ⟨go14, 0, none⟩) t422.length co21)) (mR_ HO433.out) (Kd.R_typed HO424.out) (by decide) hg); have n4_ := aM ((by rw [hw]; exact below_set (HB.out) (Nat.le_trans HL.out GB14.out) : Below w0.heap.size w0 w29)); have n5_ := aM (KeepBut.trans (zK HK.out) (KeepBut.of_grown hg g) (Kd.R_base2 HO424.out)); clear HI0 HO413 HO424 HO433 HB HK; have HI0 := n0_; have HO413 := n1_; have HO424 := n2_; have HO433 := n3_; have HB := n4_; have HK := n5_; clear n0_ n1_ n2_ n3_ n4_ n5_; clear hg hw hp_) | ((with_reducible refine gate_callee (f := 55) rfl ?_); refine goesL_ (some 34) rfl rfl Try.func55 (by kernel_rfl) rfl #[.slice (some ⟨go14, 0, none⟩) y438.length co21] rfl (by (try simp only [mA, mB, mC]); first | done | (rw [show y438.length = t422.length from (Kd.R_reads' HO424.out).1.symm] <;> rfl) | rfl | (simp only [lD, lT]; rfl)) ?_; (with_reducible refine (spec_l02Sort.calls k _ _ y438 t439 _ ?side1 ?side2 A15.out).mono ?_); (case side1 => exact zc HO424.out); (case side2 => rw [show y438.length = t422.length from (Kd.R_reads' HO424.out).1.symm]; exact (Kd.R_reads' HO424.out).2.1); rintro e w30 ⟨v440, rfl, ho0, hb⟩; refine ⟨_, rfl, ?_⟩; have n0_ := aM (Kd.R_elder' (mR_ HO413.out) (Kd.R_base ho0) hb); have n1_ := aM (Kd.R_elder' (mR_ HO424.out) (Kd.R_base ho0) hb); have n2_ := aM (Kd.R_below (mR_ HO433.out) hb); have n3_ := aM (Kd.R_lower (Kd.R_new' (Kd.R_new' ho0 (Kd.R_lt (mR_ HO413.out))) (Kd.R_lt (mR_ HO424.out))) (keep_size (w := w) (g := g) (row := none) (zK HK.out))); have n4_ := aM (IsS98.below (zI98 HI0.out) hb); have n5_ := aM (KeepBut.trans (zK HK.out) (KeepBut.of_below hb g none) (.inl rfl)); have n6_ := aM (below_step (zs (IsS98.ge HI0.out)) hb); clear HO413 HO424 HO433 HI0 HK HB; have HO413 := n0_; have HO424 := n1_; have HO433 := n2_; have HO441 := n3_; have HI0 := n4_; have HK := n5_; have HB := n6_; clear n0_ n1_ n2_ n3_ n4_ n5_ n6_; (try clear hb); (try clear hb2); (try clear hk); (try clear hi); (try clear ho0)))
  go_ret
  exact ⟨_, zw, zd0 HO441.out, zI98 HI0.out, zs (IsS98.ge HI0.out), zK HK.out⟩
 rw [if_neg c8] at H
 have c8b0 : (t428 == 0) = false := beq_eq_false_iff_ne.mpr c8
 have c8b1 : (t428 != 0) = true := bne_iff_ne.mpr c8
 by_cases c31 : t428 = 1
 ·rw [if_pos c31] at H
  have c31b0 : (t428 == 1) = true := beq_iff_eq.mpr c31
  have c31b1 : (t428 != 1) = false := bne_eq_false_iff_eq.mpr c31
  clear c31
  by_cases c32 : 0 ≤ t425
  rotate_left
  ·rw [if_neg c32] at H
   exact absurd H (by simp)
  rw [if_pos c32] at H
  have c32b0 : decide (0 ≤ t425) = true := decide_eq_true c32
  clear c32
  by_cases c33 : t425 < (t422.length : Int)
  rotate_left
  ·rw [if_neg c33] at H
   exact absurd H (by simp)
  rw [if_pos c33] at H
  have c33b0 : decide (t425 < (t422.length : Int)) = true := decide_eq_true c33
  clear c33
  by_cases c34 : t422.length < 8796093022208
  rotate_left
  ·rw [if_neg c34] at H
   exact absurd H (by simp)
  rw [if_pos c34] at H
  have LMc34 := aM c34
  clear c34
  obtain ⟨y443, hy443⟩ : ∃ y_ : List (S59), y_ = (t422 ++ [(⟨(rd_T59 t422 t425).f0, (rd_T59 t422 t425).f1⟩ : S59)]) := ⟨_, rfl⟩
  replace H : (some (y443, t429, t430)) = some (r1, r2, r3) := zy H hy443
  have Ny443 := aM hy443
  clear hy443
  simp only [Option.some.injEq, Prod.mk.injEq] at H
  obtain ⟨rfl, rfl, rfl⟩ := H
  go_enter Try.func103, Try.ntmps103
  go_wp2_with (first | ((with_reducible refine gate_callee (f := 118) rfl ?_); refine goesL_ (some 8) rfl rfl Try.func118 (by kernel_rfl) rfl #[.pointer (some ⟨g, 0, none⟩), .int .i64 8] rfl zm ?_; (with_reducible refine (spec_l02DrawPoly.calls k g s0_0 s0_1 s0_2 8 t411 t414 t415 w0 _ ?side1 ?side2 A2.out).mono ?_); (case side1 => exact zI98 HI0.out); (case side2 => exact zs (IsS98.ge HI0.out)); rintro e w35 ⟨v412, rfl, ho0, hi, hb, hk⟩; refine ⟨_, rfl, ?_⟩; have n0_ := aM (Kd.R_lower ho0 (keep_size (w := w) (g := g) (row := none) (zK HK.out))); have n1_ := aM (KeepBut.trans (zK HK.out) hk (.inl rfl)); have n2_ := aM (hb); have n3_ := aM (hi); clear HK HB HI0; have HO413 := n0_; have HK := n1_; have HB := n2_; have HI0 := n3_; clear n0_ n1_ n2_ n3_; (try clear hb); (try clear hb2); (try clear hk); (try clear hi); (try clear ho0)) | ((with_reducible refine gate_callee (f := 71) rfl ?_); refine goesL_ (some 10) rfl rfl Try.func71 (by kernel_rfl) rfl #[.pointer (some ⟨g, 0, none⟩), .int .i64 9] rfl zm ?_; (with_reducible refine (spec_l01Next.calls g s0_0 t414 t415 9 t416 t417 t418 w0 _ ?side1 ?side2 A3.out).mono ?_); (case side1 => exact zI98 HI0.out); (case side2 => exact zs (IsS98.ge HI0.out)); rintro e w36 ⟨rfl, hi, hb, hk⟩; refine ⟨_, rfl, ?_⟩; have n0_ := aM (Kd.R_mono (Kd.R_keep (IsS98.apart (show IsS98 w0 _ g s0_0 t414 t415 from zI98 HI0.out) (mR_ HO413.out) (by decide)) hk (fun _ h => h.2)) (fun _ h => h.1)); have n1_ := aM (KeepBut.trans (zK HK.out) hk (.inl rfl)); have n2_ := aM (hb); have n3_ := aM (hi); clear HO413 HK HB HI0; have HO413 := n0_; have HK := n1_; have HB := n2_; have HI0 := n3_; clear n0_ n1_ n2_ n3_; (try clear hb); (try clear hb2); (try clear hk); (try clear hi)) | ((with_reducible refine gate_callee (f := 71) rfl ?_); refine goesL_ (some 13) rfl rfl Try.func71 (by kernel_rfl) rfl #[.pointer (some ⟨g, 0, none⟩), .int .i64 9] rfl zm ?_; (with_reducible refine (spec_l01Next.calls g s0_0 t417 t418 9 t419 t420 t421 w0 _ ?side1 ?side2 A4.out).mono ?_); (case side1 => exact zI98 HI0.out); (case side2 => exact zs (IsS98.ge HI0.out)); rintro e w37 ⟨rfl, hi, hb, hk⟩; refine ⟨_, rfl, ?_⟩; have n0_ := aM (Kd.R_mono (Kd.R_keep (IsS98.apart (show IsS98 w0 _ g s0_0 t417 t418 from zI98 HI0.out) (mR_ HO413.out) (by decide)) hk (fun _ h => h.2)) (fun _ h => h.1)); have n1_ := aM (KeepBut.trans (zK HK.out) hk (.inl rfl)); have n2_ := aM (hb); have n3_ := aM (hi); clear HO413 HK HB HI0; have HO413 := n0_; have HK := n1_; have HB := n2_; have HI0 := n3_; clear n0_ n1_ n2_ n3_; (try clear hb); (try clear hb2); (try clear hk); (try clear hi); obtain ⟨Ao38, co38, eo38⟩ := Kd.R_slice HO413.out; subst eo38) | ((with_reducible refine gate_callee (f := 122) rfl ?_); refine goesL_ (some 15) rfl rfl Try.func122 (by kernel_rfl) rfl #[.slice Ao38 t411.length co38, .int .i64 (wrap64 (t416 - 4)), .int .i64 (wrap64 (t419 - 4))] rfl zm ?_; (with_reducible refine (spec_l02Move.calls k _ _ t411 (wrap64 (t416 - 4)) (wrap64 (t419 - 4)) t422 _ ?side1 ?side2 A5.out).mono ?_); (case side1 => exact zc HO413.out); (case side2 => exact (Kd.R_reads' HO413.out).2.1); rintro e w39 ⟨v423, rfl, ho0, hb⟩; refine ⟨_, rfl, ?_⟩; have n0_ := aM (Kd.R_elder' (mR_ HO413.out) (Kd.R_base ho0) hb); have n1_ := aM (Kd.R_lower (Kd.R_new' ho0 (Kd.R_lt (mR_ HO413.out))) (keep_size (w := w) (g := g) (row := none) (zK HK.out))); have n2_ := aM (IsS98.below (zI98 HI0.out) hb); have n3_ := aM (KeepBut.trans (zK HK.out) (KeepBut.of_below hb g none) (.inl rfl)); have n4_ := aM (below_step (zs (IsS98.ge HI0.out)) hb); clear HO413 HI0 HK HB; have HO413 := n0_; have HO424 := n1_; have HI0 := n2_; have HK := n3_; have HB := n4_; clear n0_ n1_ n2_ n3_ n4_; (try clear hb); (try clear hb2); (try clear hk); (try clear hi); (try clear ho0); obtain ⟨Ao40, co40, eo40⟩ := Kd.R_slice HO424.out; subst eo40) | ((with_reducible refine gate_callee (f := 71) rfl ?_); refine goesL_ (some 19) rfl rfl Try.func71 (by kernel_rfl) rfl #[.pointer (some ⟨g, 0, none⟩), .int .i64 (t422.length : Int)] rfl zm ?_; (with_reducible refine (spec_l01Next.calls g s0_0 t420 t421 (t422.length : Int) t425 t426 t427 w0 _ ?side1 ?side2 A6.out).mono ?_); (case side1 => exact zI98 HI0.out); (case side2 => exact zs (IsS98.ge HI0.out)); rintro e w41 ⟨rfl, hi, hb, hk⟩; refine ⟨_, rfl, ?_⟩; have n0_ := aM (Kd.R_mono (Kd.R_keep (IsS98.apart (show IsS98 w0 _ g s0_0 t420 t421 from zI98 HI0.out) (mR_ HO413.out) (by decide)) hk (fun _ h => h.2)) (fun _ h => h.1)); have n1_ := aM (Kd.R_mono (Kd.R_keep (IsS98.apart (show IsS98 w0 _ g s0_0 t420 t421 from zI98 HI0.out) (mR_ HO424.out) (by decide)) hk (fun _ h => h.2)) (fun _ h => h.1)); have n2_ := aM (KeepBut.trans (zK HK.out) hk (.inl rfl)); have n3_ := aM (hb); have n4_ := aM (hi); clear HO413 HO424 HK HB HI0; have HO413 := n0_; have HO424 := n1_; have HK := n2_; have HB := n3_; have HI0 := n4_; clear n0_ n1_ n2_ n3_ n4_; (try clear hb); (try clear hb2); (try clear hk); (try clear hi)) | ((with_reducible refine gate_callee (f := 71) rfl ?_); refine goesL_ (some 21) rfl rfl Try.func71 (by kernel_rfl) rfl #[.pointer (some ⟨g, 0, none⟩), .int .i64 24] rfl zm ?_; (with_reducible refine (spec_l01Next.calls g s0_0 t426 t427 24 t428 t429 t430 w0 _ ?side1 ?side2 A7.out).mono ?_); (case side1 => exact zI98 HI0.out); (case side2 => exact zs (IsS98.ge HI0.out)); rintro e w42 ⟨rfl, hi, hb, hk⟩; refine ⟨_, rfl, ?_⟩; have n0_ := aM (Kd.R_mono (Kd.R_keep (IsS98.apart (show IsS98 w0 _ g s0_0 t426 t427 from zI98 HI0.out) (mR_ HO413.out) (by decide)) hk (fun _ h => h.2)) (fun _ h => h.1)); have n1_ := aM (Kd.R_mono (Kd.R_keep (IsS98.apart (show IsS98 w0 _ g s0_0 t426 t427 from zI98 HI0.out) (mR_ HO424.out) (by decide)) hk (fun _ h => h.2)) (fun _ h => h.1)); have n2_ := aM (KeepBut.trans (zK HK.out) hk (.inl rfl)); have n3_ := aM (hb); have n4_ := aM (hi); clear HO413 HO424 HK HB HI0; have HO413 := n0_; have HO424 := n1_; have HK := n2_; have HB := n3_; have HI0 := n4_; clear n0_ n1_ n2_ n3_ n4_; (try clear hb); (try clear hb2); (try clear hk); (try clear hi); have p442 : 0 ≤ (t425 : Int) := of_decide_eq_true za; have q442 : t425 < (t422.length : Int) := of_decide_eq_true za; obtain ⟨ad442, e442, hx442_0, hx442_1⟩ := at_T59 (Kd.R_reads' HO424.out).2.2 t425 p442 q442; cases e442; replace p442 := eq_true p442; replace q442 := eq_true q442) | ((with_reducible refine gate_builtin (b := .append) (xs := #[.tmp 37, .tmp 42]) rfl ?_); at_builtin; refine Kd.R_append k59 w.heap.size rfl (.tmp 37) (.tmp 42) 24 59 (.agg #[(.int .i64 0), (.int .i64 0)]) 16 rfl Try.underlying24 info59 rfl (by decide) (by omega) (.slice (some ad442) t422.length co40) t422 (⟨(rd_T59 t422 t425).f0, (rd_T59 t422 t425).f1⟩ : S59) [.int .i64 ((rd_T59 t422 t425).f0), .int .i64 ((rd_T59 t422 t425).f1)] (fun k_ => some k_ ≠ (.slice Ao38 t411.length co38 : Value).ownBlock) (fun _ => False) rfl rfl ?aP (fun _ hk => hk.elim) ?aF ?aO (Below.refl _ _) ?aS ?aL ?_; (case aP => exact k59_mkM _ _ _ (⟨(rd_T59 t422 t425).f0, (rd_T59 t422 t425).f1⟩ : S59)); (case aF => exact (fun k_ hk => Kd.fresh' (Kd.R_lt (mR_ HO413.out)) k_ hk)); (case aO => exact (zd1 HO424.out)); (case aS => exact (keep_size (w := w) (g := g) (row := none) (zK HK.out))); (case aL => have := LMc34.out; omega); intro v444 w43 ho hb hg hat; rw [← Ny443.out] at ho; have n0_ := aM (IsS98.grown (zI98 HI0.out) hg (IsS98.own_ne HI0.out HO424.out (by decide))); have n1_ := aM (Kd.R_after (ok := (fun _ => True)) (mR_ HO413.out) hg hat); have n2_ := aM (below_weaken (zs (IsS98.ge HI0.out)) HL.out hb); have n3_ := aM (KeepBut.trans (zK HK.out) (KeepBut.of_grown hg g) (Kd.R_base2 HO424.out)); have n4_ := aM (ho); clear HI0 HO413 HB HK HO424; have HI0 := n0_; have HO413 := n1_; have HB := n2_; have HK := n3_; have HO445 := n4_; clear n0_ n1_ n2_ n3_ n4_; clear ho hb hg hat))
  go_ret
  exact ⟨_, zw, zd0 HO445.out, zI98 HI0.out, zs (IsS98.ge HI0.out), zK HK.out⟩
 rw [if_neg c31] at H
 have c31b0 : (t428 == 1) = false := beq_eq_false_iff_ne.mpr c31
 have c31b1 : (t428 != 1) = true := bne_iff_ne.mpr c31
 by_cases c44 : t428 = 2
 ·rw [if_pos c44] at H
  have c44b0 : (t428 == 2) = true := beq_iff_eq.mpr c44
  have c44b1 : (t428 != 2) = false := bne_eq_false_iff_eq.mpr c44
  clear c44
  simp only [Option.some.injEq, Prod.mk.injEq] at H
  obtain ⟨rfl, rfl, rfl⟩ := H
  go_enter Try.func103, Try.ntmps103
  go_wp2_with (first | ((with_reducible refine gate_callee (f := 118) rfl ?_); refine goesL_ (some 8) rfl rfl Try.func118 (by kernel_rfl) rfl #[.pointer (some ⟨g, 0, none⟩), .int .i64 8] rfl zm ?_; (with_reducible refine (spec_l02DrawPoly.calls k g s0_0 s0_1 s0_2 8 t411 t414 t415 w0 _ ?side1 ?side2 A2.out).mono ?_); (case side1 => exact zI98 HI0.out); (case side2 => exact zs (IsS98.ge HI0.out)); rintro e w45 ⟨v412, rfl, ho0, hi, hb, hk⟩; refine ⟨_, rfl, ?_⟩; have n0_ := aM (Kd.R_lower ho0 (keep_size (w := w) (g := g) (row := none) (zK HK.out))); have n1_ := aM (KeepBut.trans (zK HK.out) hk (.inl rfl)); have n2_ := aM (hb); have n3_ := aM (hi); clear HK HB HI0; have HO413 := n0_; have HK := n1_; have HB := n2_; have HI0 := n3_; clear n0_ n1_ n2_ n3_; (try clear hb); (try clear hb2); (try clear hk); (try clear hi); (try clear ho0)) | ((with_reducible refine gate_callee (f := 71) rfl ?_); refine goesL_ (some 10) rfl rfl Try.func71 (by kernel_rfl) rfl #[.pointer (some ⟨g, 0, none⟩), .int .i64 9] rfl zm ?_; (with_reducible refine (spec_l01Next.calls g s0_0 t414 t415 9 t416 t417 t418 w0 _ ?side1 ?side2 A3.out).mono ?_); (case side1 => exact zI98 HI0.out); (case side2 => exact zs (IsS98.ge HI0.out)); rintro e w46 ⟨rfl, hi, hb, hk⟩; refine ⟨_, rfl, ?_⟩; have n0_ := aM (Kd.R_mono (Kd.R_keep (IsS98.apart (show IsS98 w0 _ g s0_0 t414 t415 from zI98 HI0.out) (mR_ HO413.out) (by decide)) hk (fun _ h => h.2)) (fun _ h => h.1)); have n1_ := aM (KeepBut.trans (zK HK.out) hk (.inl rfl)); have n2_ := aM (hb); have n3_ := aM (hi); clear HO413 HK HB HI0; have HO413 := n0_; have HK := n1_; have HB := n2_; have HI0 := n3_; clear n0_ n1_ n2_ n3_; (try clear hb); (try clear hb2); (try clear hk); (try clear hi)) | ((with_reducible refine gate_callee (f := 71) rfl ?_); refine goesL_ (some 13) rfl rfl Try.func71 (by kernel_rfl) rfl #[.pointer (some ⟨g, 0, none⟩), .int .i64 9] rfl zm ?_; (with_reducible refine (spec_l01Next.calls g s0_0 t417 t418 9 t419 t420 t421 w0 _ ?side1 ?side2 A4.out).mono ?_); (case side1 => exact zI98 HI0.out); (case side2 => exact zs (IsS98.ge HI0.out)); rintro e w47 ⟨rfl, hi, hb, hk⟩; refine ⟨_, rfl, ?_⟩; have n0_ := aM (Kd.R_mono (Kd.R_keep (IsS98.apart (show IsS98 w0 _ g s0_0 t417 t418 from zI98 HI0.out) (mR_ HO413.out) (by decide)) hk (fun _ h => h.2)) (fun _ h => h.1)); have n1_ := aM (KeepBut.trans (zK HK.out) hk (.inl rfl)); have n2_ := aM (hb); have n3_ := aM (hi); clear HO413 HK HB HI0; have HO413 := n0_; have HK := n1_; have HB := n2_; have HI0 := n3_; clear n0_ n1_ n2_ n3_; (try clear hb); (try clear hb2); (try clear hk); (try clear hi); obtain ⟨Ao48, co48, eo48⟩ := Kd.R_slice HO413.out; subst eo48) | ((with_reducible refine gate_callee (f := 122) rfl ?_); refine goesL_ (some 15) rfl rfl Try.func122 (by kernel_rfl) rfl #[.slice Ao48 t411.length co48, .int .i64 (wrap64 (t416 - 4)), .int .i64 (wrap64 (t419 - 4))] rfl zm ?_; (with_reducible refine (spec_l02Move.calls k _ _ t411 (wrap64 (t416 - 4)) (wrap64 (t419 - 4)) t422 _ ?side1 ?side2 A5.out).mono ?_); (case side1 => exact zc HO413.out); (case side2 => exact (Kd.R_reads' HO413.out).2.1); rintro e w49 ⟨v423, rfl, ho0, hb⟩; refine ⟨_, rfl, ?_⟩; have n0_ := aM (Kd.R_elder' (mR_ HO413.out) (Kd.R_base ho0) hb); have n1_ := aM (Kd.R_lower (Kd.R_new' ho0 (Kd.R_lt (mR_ HO413.out))) (keep_size (w := w) (g := g) (row := none) (zK HK.out))); have n2_ := aM (IsS98.below (zI98 HI0.out) hb); have n3_ := aM (KeepBut.trans (zK HK.out) (KeepBut.of_below hb g none) (.inl rfl)); have n4_ := aM (below_step (zs (IsS98.ge HI0.out)) hb); clear HO413 HI0 HK HB; have HO413 := n0_; have HO424 := n1_; have HI0 := n2_; have HK := n3_; have HB := n4_; clear n0_ n1_ n2_ n3_ n4_; (try clear hb); (try clear hb2); (try clear hk); (try clear hi); (try clear ho0); obtain ⟨Ao50, co50, eo50⟩ := Kd.R_slice HO424.out; subst eo50) | ((with_reducible refine gate_callee (f := 71) rfl ?_); refine goesL_ (some 19) rfl rfl Try.func71 (by kernel_rfl) rfl #[.pointer (some ⟨g, 0, none⟩), .int .i64 (t422.length : Int)] rfl zm ?_; (with_reducible refine (spec_l01Next.calls g s0_0 t420 t421 (t422.length : Int) t425 t426 t427 w0 _ ?side1 ?side2 A6.out).mono ?_); (case side1 => exact zI98 HI0.out); (case side2 => exact zs (IsS98.ge HI0.out)); rintro e w51 ⟨rfl, hi, hb, hk⟩; refine ⟨_, rfl, ?_⟩; have n0_ := aM (Kd.R_mono (Kd.R_keep (IsS98.apart (show IsS98 w0 _ g s0_0 t420 t421 from zI98 HI0.out) (mR_ HO413.out) (by decide)) hk (fun _ h => h.2)) (fun _ h => h.1)); have n1_ := aM (Kd.R_mono (Kd.R_keep (IsS98.apart (show IsS98 w0 _ g s0_0 t420 t421 from zI98 HI0.out) (mR_ HO424.out) (by decide)) hk (fun _ h => h.2)) (fun _ h => h.1)); have n2_ := aM (KeepBut.trans (zK HK.out) hk (.inl rfl)); have n3_ := aM (hb); have n4_ := aM (hi); clear HO413 HO424 HK HB HI0; have HO413 := n0_; have HO424 := n1_; have HK := n2_; have HB := n3_; have HI0 := n4_; clear n0_ n1_ n2_ n3_ n4_; (try clear hb); (try clear hb2); (try clear hk); (try clear hi)) | ((with_reducible refine gate_callee (f := 71) rfl ?_); refine goesL_ (some 21) rfl rfl Try.func71 (by kernel_rfl) rfl #[.pointer (some ⟨g, 0, none⟩), .int .i64 24] rfl zm ?_; (with_reducible refine (spec_l01Next.calls g s0_0 t426 t427 24 t428 t429 t430 w0 _ ?side1 ?side2 A7.out).mono ?_); (case side1 => exact zI98 HI0.out); (case side2 => exact zs (IsS98.ge HI0.out)); rintro e w52 ⟨rfl, hi, hb, hk⟩; refine ⟨_, rfl, ?_⟩; have n0_ := aM (Kd.R_mono (Kd.R_keep (IsS98.apart (show IsS98 w0 _ g s0_0 t426 t427 from zI98 HI0.out) (mR_ HO413.out) (by decide)) hk (fun _ h => h.2)) (fun _ h => h.1)); have n1_ := aM (Kd.R_mono (Kd.R_keep (IsS98.apart (show IsS98 w0 _ g s0_0 t426 t427 from zI98 HI0.out) (mR_ HO424.out) (by decide)) hk (fun _ h => h.2)) (fun _ h => h.1)); have n2_ := aM (KeepBut.trans (zK HK.out) hk (.inl rfl)); have n3_ := aM (hb); have n4_ := aM (hi); clear HO413 HO424 HK HB HI0; have HO413 := n0_; have HO424 := n1_; have HK := n2_; have HB := n3_; have HI0 := n4_; clear n0_ n1_ n2_ n3_ n4_; (try clear hb); (try clear hb2); (try clear hk); (try clear hi)))
  go_ret
  exact ⟨_, zw, by first | exact Kd.R_nil _ _ _ _ _ | exact Kd.N_nil _ _ _ _ _ | exact Kd.V_nil _ _ _ _ _ | exact Kd.Q_nil _ _ _ _ _ | exact Kd.S_nil _ _ _ _ _, zI98 HI0.out, zs (IsS98.ge HI0.out), zK HK.out⟩
 rw [if_neg c44] at H
 have c44b0 : (t428 == 2) = false := beq_eq_false_iff_ne.mpr c44
 have c44b1 : (t428 != 2) = true := bne_iff_ne.mpr c44
 by_cases c53 : t428 = 3
 ·rw [if_pos c53] at H
  have c53b0 : (t428 == 3) = true := beq_iff_eq.mpr c53
  have c53b1 : (t428 != 3) = false := bne_eq_false_iff_eq.mpr c53
  clear c53
  obtain ⟨y446, hy446⟩ : ∃ y_ : List (S59), y_ = (([] : List (S59))) := ⟨_, rfl⟩
  replace H : (spec_l02Draw.l0 k y446 0 s0_0 t429 t430) = some (r1, r2, r3) := zy H hy446
  have Ny446 := aM hy446
  clear hy446
  have H' := aM H
  clear H
  go_enter Try.func103, Try.ntmps103
  go_wp2_with (first | ((with_reducible refine gate_callee (f := 118) rfl ?_); refine goesL_ (some 8) rfl rfl Try.func118 (by kernel_rfl) rfl #[.pointer (some ⟨g, 0, none⟩), .int .i64 8] rfl zm ?_; (with_reducible refine (spec_l02DrawPoly.calls k g s0_0 s0_1 s0_2 8 t411 t414 t415 w0 _ ?side1 ?side2 A2.out).mono ?_); (case side1 => exact zI98 HI0.out); (case side2 => exact zs (IsS98.ge HI0.out)); rintro e w54 ⟨v412, rfl, ho0, hi, hb, hk⟩; refine ⟨_, rfl, ?_⟩; have n0_ := aM (Kd.R_lower ho0 (keep_size (w := w) (g := g) (row := none) (zK HK.out))); have n1_ := aM (KeepBut.trans (zK HK.out) hk (.inl rfl)); have n2_ := aM (hb); have n3_ := aM (hi); clear HK HB HI0; have HO413 := n0_; have HK := n1_; have HB := n2_; have HI0 := n3_; clear n0_ n1_ n2_ n3_; (try clear hb); (try clear hb2); (try clear hk); (try clear hi); (try clear ho0)) | ((with_reducible refine gate_callee (f := 71) rfl ?_); refine goesL_ (some 10) rfl rfl Try.func71 (by kernel_rfl) rfl #[.pointer (some ⟨g, 0, none⟩), .int .i64 9] rfl zm ?_; (with_reducible refine (spec_l01Next.calls g s0_0 t414 t415 9 t416 t417 t418 w0 _ ?side1 ?side2 A3.out).mono ?_); (case side1 => exact zI98 HI0.out); (case side2 => exact zs (IsS98.ge HI0.out)); rintro e w55 ⟨rfl, hi, hb, hk⟩; refine ⟨_, rfl, ?_⟩; have n0_ := aM (Kd.R_mono (Kd.R_keep (IsS98.apart (show IsS98 w0 _ g s0_0 t414 t415 from zI98 HI0.out) (mR_ HO413.out) (by decide)) hk (fun _ h => h.2)) (fun _ h => h.1)); have n1_ := aM (KeepBut.trans (zK HK.out) hk (.inl rfl)); have n2_ := aM (hb); have n3_ := aM (hi); clear HO413 HK HB HI0; have HO413 := n0_; have HK := n1_; have HB := n2_; have HI0 := n3_; clear n0_ n1_ n2_ n3_; (try clear hb); (try clear hb2); (try clear hk); (try clear hi)) | ((with_reducible refine gate_callee (f := 71) rfl ?_); refine goesL_ (some 13) rfl rfl Try.func71 (by kernel_rfl) rfl #[.pointer (some ⟨g, 0, none⟩), .int .i64 9] rfl zm ?_; (with_reducible refine (spec_l01Next.calls g s0_0 t417 t418 9 t419 t420 t421 w0 _ ?side1 ?side2 A4.out).mono ?_); (case side1 => exact zI98 HI0.out); (case side2 => exact zs (IsS98.ge HI0.out)); rintro e w56 ⟨rfl, hi, hb, hk⟩; refine ⟨_, rfl, ?_⟩; have n0_ := aM (Kd.R_mono (Kd.R_keep (IsS98.apart (show IsS98 w0 _ g s0_0 t417 t418 from zI98 HI0.out) (mR_ HO413.out) (by decide)) hk (fun _ h => h.2)) (fun _ h => h.1)); have n1_ := aM (KeepBut.trans (zK HK.out) hk (.inl rfl)); have n2_ := aM (hb); have n3_ := aM (hi); clear HO413 HK HB HI0; have HO413 := n0_; have HK := n1_; have HB := n2_; have HI0 := n3_; clear n0_ n1_ n2_ n3_; (try clear hb); (try clear hb2); (try clear hk); (try clear hi); obtain ⟨Ao57, co57, eo57⟩ := Kd.R_slice HO413.out; subst eo57) | ((with_reducible refine gate_callee (f := 122) rfl ?_); refine goesL_ (some 15) rfl rfl Try.func122 (by kernel_rfl) rfl #[.slice Ao57 t411.length co57, .int .i64 (wrap64 (t416 - 4)), .int .i64 (wrap64 (t419 - 4))] rfl zm ?_; (with_reducible refine (spec_l02Move.calls k _ _ t411 (wrap64 (t416 - 4)) (wrap64 (t419 - 4)) t422 _ ?side1 ?side2 A5.out).mono ?_); (case side1 => exact zc HO413.out); (case side2 => exact (Kd.R_reads' HO413.out).2.1); rintro e w58 ⟨v423, rfl, ho0, hb⟩; refine ⟨_, rfl, ?_⟩; have n0_ := aM (Kd.R_elder' (mR_ HO413.out) (Kd.R_base ho0) hb); have n1_ := aM (Kd.R_lower (Kd.R_new' ho0 (Kd.R_lt (mR_ HO413.out))) (keep_size (w := w) (g := g) (row := none) (zK HK.out))); have n2_ := aM (IsS98.below (zI98 HI0.out) hb); have n3_ := aM (KeepBut.trans (zK HK.out) (KeepBut.of_below hb g none) (.inl rfl)); have n4_ := aM (below_step (zs (IsS98.ge HI0.out)) hb); clear HO413 HI0 HK HB; have HO413 := n0_; have HO424 := n1_; have HI0 := n2_; have HK := n3_; have HB := n4_; clear n0_ n1_ n2_ n3_ n4_; (try clear hb); (try clear hb2); (try clear hk); (try clear hi); (try clear ho0); obtain ⟨Ao59, co59, eo59⟩ := Kd.R_slice HO424.out; subst eo59) | ((with_reducible refine gate_callee (f := 71) rfl ?_); refine goesL_ (some 19) rfl rfl Try.func71 (by kernel_rfl) rfl #[.pointer (some ⟨g, 0, none⟩), .int .i64 (t422.length : Int)] rfl zm ?_; (with_reducible refine (spec_l01Next.calls g s0_0 t420 t421 (t422.length : Int) t425 t426 t427 w0 _ ?side1 ?side2 A6.out).mono ?_); (case side1 => exact zI98 HI0.out); (case side2 => exact zs (IsS98.ge HI0.out)); rintro e w60 ⟨rfl, hi, hb, hk⟩; refine ⟨_, rfl, ?_⟩; have n0_ := aM (Kd.R_mono (Kd.R_keep (IsS98.apart (show IsS98 w0 _ g s0_0 t420 t421 from zI98 HI0.out) (mR_ HO413.out) (by decide)) hk (fun _ h => h.2)) (fun _ h => h.1)); have n1_ := aM (Kd.R_mono (Kd.R_keep (IsS98.apart (show IsS98 w0 _ g s0_0 t420 t421 from zI98 HI0.out) (mR_ HO424.out) (by decide)) hk (fun _ h => h.2)) (fun _ h => h.1)); have n2_ := aM (KeepBut.trans (zK HK.out) hk (.inl rfl)); have n3_ := aM (hb); have n4_ := aM (hi); clear HO413 HO424 HK HB HI0; have HO413 := n0_; have HO424 := n1_; have HK := n2_; have HB := n3_; have HI0 := n4_; clear n0_ n1_ n2_ n3_ n4_; (try clear hb); (try clear hb2); (try clear hk); (try clear hi)) | ((with_reducible refine gate_callee (f := 71) rfl ?_); refine goesL_ (some 21) rfl rfl Try.func71 (by kernel_rfl) rfl #[.pointer (some ⟨g, 0, none⟩), .int .i64 24] rfl zm ?_; (with_reducible refine (spec_l01Next.calls g s0_0 t426 t427 24 t428 t429 t430 w0 _ ?side1 ?side2 A7.out).mono ?_); (case side1 => exact zI98 HI0.out); (case side2 => exact zs (IsS98.ge HI0.out)); rintro e w61 ⟨rfl, hi, hb, hk⟩; refine ⟨_, rfl, ?_⟩; have n0_ := aM (Kd.R_mono (Kd.R_keep (IsS98.apart (show IsS98 w0 _ g s0_0 t426 t427 from zI98 HI0.out) (mR_ HO413.out) (by decide)) hk (fun _ h => h.2)) (fun _ h => h.1)); have n1_ := aM (Kd.R_mono (Kd.R_keep (IsS98.apart (show IsS98 w0 _ g s0_0 t426 t427 from zI98 HI0.out) (mR_ HO424.out) (by decide)) hk (fun _ h => h.2)) (fun _ h => h.1)); have n2_ := aM (KeepBut.trans (zK HK.out) hk (.inl rfl)); have n3_ := aM (hb); have n4_ := aM (hi); clear HO413 HO424 HK HB HI0; have HO413 := n0_; have HO424 := n1_; have HK := n2_; have HB := n3_; have HI0 := n4_; clear n0_ n1_ n2_ n3_ n4_; (try clear hb); (try clear hb2); (try clear hk); (try clear hi)) | ((with_reducible refine gate_dst (N := 48) rfl ?_); refine Kd.R_lit k59 _ 59 ?hg (N := 48) ?hd (xs := ([] : List (S59))) (inner := []) (ok := fun _ => True) (okp := fun _ => True) ?hr ?hp (fun _ hk => hk) trivial (Below.refl _ _) (Nat.le_refl _) (by simp) ?_; (case hd => rfl); (case hg => rfl); (case hr => first | (go_simp; done) | (go_simp; rfl)); (case hp => exact (Reps.none _ _)); intro v447 w62 ho63 hb hg_ hnew_; clear hg_ hnew_; (first | rw [← Ny446.out] at ho63 | (simp only [Int.reduceToNat] at ho63; rw [← Ny446.out] at ho63)); have n0_ := aM (Kd.R_elder' (mR_ HO413.out) (Kd.R_base ho63) hb); have n1_ := aM (Kd.R_elder' (mR_ HO424.out) (Kd.R_base ho63) hb); have n2_ := aM (Kd.R_lower (Kd.R_new' (Kd.R_new' ho63 (Kd.R_lt (mR_ HO413.out))) (Kd.R_lt (mR_ HO424.out))) (keep_size (w := w) (g := g) (row := none) (zK HK.out))); have n3_ := aM (IsS98.below (zI98 HI0.out) hb); have n4_ := aM (KeepBut.trans (zK HK.out) (KeepBut.of_below hb g none) (.inl rfl)); have n5_ := aM (below_step (zs (IsS98.ge HI0.out)) hb); clear HO413 HO424 HI0 HK HB; have HO413 := n0_; have HO424 := n1_; have HO448 := n2_; have HI0 := n3_; have HK := n4_; have HB := n5_; clear n0_ n1_ n2_ n3_ n4_ n5_; clear hb ho63))
  go_loopg [5, 6] k (fun kq v5 v6 w' => ∃ (x5_1 : List (S59)) (x6_1 : Int) (x1001_1 : Int) (x1002_1 : Int), v6 = .int .i64 x6_1 ∧ Aside0 (spec_l02Draw.l0 kq x5_1 x6_1 s0_0 x1001_1 x1002_1 = some (r1, r2, r3)) ∧ Aside0 (kq ≤ k) ∧ Aside0 (Kd.R k59 59 w' w.heap.size (fun _ => True) v5 x5_1) ∧ Aside0 (IsS98 w0 w' g s0_0 x1001_1 x1002_1) ∧ Aside0 (KeepBut w w' g none) ∧ Aside0 (Below w0.heap.size w0 w'))
  case atStart => exact ⟨(y446), (0), (t429), (t430), zr, H', ⟨Nat.le_refl _⟩, ⟨zd0 HO448.out⟩, ⟨zI98 HI0.out⟩, ⟨zK HK.out⟩, ⟨zs (IsS98.ge HI0.out)⟩⟩
  case round =>
   clear H'
   try clear c1
   try clear p1
   try clear q1
   try clear hx1
   try clear hf1
   try clear c2
   try clear p2
   try clear hx2
   try clear hf2
   try clear c3
   try clear c4
   try clear p4
   try clear q4
   try clear hx4
   try clear c5
   try clear p6
   try clear c7
   try clear c8
   try clear c8b0
   try clear c8b1
   try clear c10
   try clear c10b0
   try clear c11
   try clear c11b0
   try clear c12
   try clear c12b0
   try clear c13
   try clear c13b0
   try clear c14
   try clear p14
   try clear q14
   try clear hx14
   try clear hf14
   try clear c28
   try clear hx28
   try clear hf28
   try clear c31
   try clear c31b0
   try clear c31b1
   try clear c32
   try clear c32b0
   try clear c33
   try clear c33b0
   try clear c34
   try clear p43
   try clear q43
   try clear hx43
   try clear c44
   try clear c44b0
   try clear c44b1
   try clear p44
   try clear q44
   try clear hx44
   try clear c53
   try clear c53b0
   try clear c53b1
   try clear c55
   try clear hx14_0
   try clear hx14_1
   try clear hx28_0
   try clear hx437_0
   try clear hx442_0
   try clear hx442_1
   try clear p14
   try clear p437
   try clear p442
   try clear q14
   try clear q437
   try clear q442
   obtain ⟨x5_1, x6_1, x1001_1, x1002_1, rfl, HA, HK1, HO_5, HI0, HK, HB⟩ := hrel
   cases gk with
   | zero => exact absurd HA.out (by simp [spec_l02Draw.l0])
   | succ k1 =>
    have H := HA.out
    clear HA
    simp only [spec_l02Draw.l0] at H
    replace H := Option.bind_eq_some_iff.mp H
    obtain ⟨⟨t449, t450, t451⟩, A640, H⟩ := H
    replace H : (if x6_1 < (wrap64 (40 + t449)) then (if x5_1.length < 8796093022208 then (spec_l02Draw.l0 k1 (x5_1 ++ [(⟨x6_1, 0⟩ : S59)]) (wrap64 (x6_1 + 1)) s0_0 t450 t451) else (none)) else (some (x5_1, t450, t451))) = some (r1, r2, r3) := H
    have A64 := aM A640
    clear A640
    by_cases c65 : x6_1 < (wrap64 (40 + t449))
    rotate_left
    ·rw [if_neg c65] at H
     have c65b0 : decide (x6_1 < (wrap64 (40 + t449))) = false := decide_eq_false c65
     clear c65
     simp only [Option.some.injEq, Prod.mk.injEq] at H
     obtain ⟨rfl, rfl, rfl⟩ := H
     go_wp2_with (first | ((with_reducible refine gate_callee (f := 71) rfl ?_); refine goesL_ (some 51) rfl rfl Try.func71 (by kernel_rfl) rfl #[.pointer (some ⟨g, 0, none⟩), .int .i64 2] rfl zm ?_; (with_reducible refine (spec_l01Next.calls g s0_0 x1001_1 x1002_1 2 t449 t450 t451 w0 _ ?side1 ?side2 A64.out).mono ?_); (case side1 => exact zI98 HI0.out); (case side2 => exact zs (IsS98.ge HI0.out)); rintro e w69 ⟨rfl, hi, hb, hk⟩; refine ⟨_, rfl, ?_⟩; have n0_ := aM (Kd.R_mono (Kd.R_keep (IsS98.apart (show IsS98 w0 _ g s0_0 x1001_1 x1002_1 from zI98 HI0.out) (mR_ HO_5.out) (by decide)) hk (fun _ h => h.2)) (fun _ h => h.1)); have n1_ := aM (KeepBut.trans (zK HK.out) hk (.inl rfl)); have n2_ := aM (hb); have n3_ := aM (hi); clear HO_5 HK HB HI0; have HO_5 := n0_; have HK := n1_; have HB := n2_; have HI0 := n3_; clear n0_ n1_ n2_ n3_; (try clear hb); (try clear hb2); (try clear hk); (try clear hi)))
     go_ret
     exact ⟨_, zw, mR_ HO_5.out, zI98 HI0.out, zs (IsS98.ge HI0.out), zK HK.out⟩
    rw [if_pos c65] at H
    have c65b0 : decide (x6_1 < (wrap64 (40 + t449))) = true := decide_eq_true c65
    clear c65
    by_cases c66 : x5_1.length < 8796093022208
    rotate_left
    ·rw [if_neg c66] at H
     exact absurd H (by simp)
    rw [if_pos c66] at H
    have LMc66 := aM c66
    clear c66
    obtain ⟨y452, hy452⟩ : ∃ y_ : List (S59), y_ = (x5_1 ++ [(⟨x6_1, 0⟩ : S59)]) := ⟨_, rfl⟩
    replace H : (spec_l02Draw.l0 k1 y452 (wrap64 (x6_1 + 1)) s0_0 t450 t451) = some (r1, r2, r3) := zy H hy452
    have Ny452 := aM hy452
    clear hy452
    have H' := aM H
    clear H
    go_wp2_with (first | ((with_reducible refine gate_callee (f := 71) rfl ?_); refine goesL_ (some 51) rfl rfl Try.func71 (by kernel_rfl) rfl #[.pointer (some ⟨g, 0, none⟩), .int .i64 2] rfl zm ?_; (with_reducible refine (spec_l01Next.calls g s0_0 x1001_1 x1002_1 2 t449 t450 t451 w0 _ ?side1 ?side2 A64.out).mono ?_); (case side1 => exact zI98 HI0.out); (case side2 => exact zs (IsS98.ge HI0.out)); rintro e w67 ⟨rfl, hi, hb, hk⟩; refine ⟨_, rfl, ?_⟩; have n0_ := aM (Kd.R_mono (Kd.R_keep (IsS98.apart (show IsS98 w0 _ g s0_0 x1001_1 x1002_1 from zI98 HI0.out) (mR_ HO_5.out) (by decide)) hk (fun _ h => h.2)) (fun _ h => h.1)); have n1_ := aM (KeepBut.trans (zK HK.out) hk (.inl rfl)); have n2_ := aM (hb); have n3_ := aM (hi); clear HO_5 HK HB HI0; have HO_5 := n0_; have HK := n1_; have HB := n2_; have HI0 := n3_; clear n0_ n1_ n2_ n3_; (try clear hb); (try clear hb2); (try clear hk); (try clear hi)) | ((with_reducible refine gate_builtin (b := .append) (xs := #[.tmp 56, .tmp 59]) rfl ?_); at_builtin; refine Kd.R_append k59 w.heap.size rfl (.tmp 56) (.tmp 59) 24 59 (.agg #[(.int .i64 0), (.int .i64 0)]) 16 rfl Try.underlying24 info59 rfl (by decide) (by omega) u5 x5_1 (⟨x6_1, 0⟩ : S59) [.int .i64 x6_1, .int .i64 0] (fun _ => True) (fun _ => False) rfl rfl ?aP (fun _ hk => hk.elim) ?aF ?aO (Below.refl _ _) ?aS ?aL ?_; (case aP => exact k59_mkM _ _ _ (⟨x6_1, 0⟩ : S59)); (case aF => exact (fun _ _ => trivial)); (case aO => exact (mR_ HO_5.out)); (case aS => exact (keep_size (w := w) (g := g) (row := none) (zK HK.out))); (case aL => have := LMc66.out; omega); intro v453 w68 ho hb hg hat; rw [← Ny452.out] at ho; have n0_ := aM (IsS98.grown (zI98 HI0.out) hg (IsS98.own_ne HI0.out HO_5.out (by decide))); have n1_ := aM (below_weaken (zs (IsS98.ge HI0.out)) HL.out hb); have n2_ := aM (KeepBut.trans (zK HK.out) (KeepBut.of_grown hg g) (Kd.R_base2 HO_5.out)); have n3_ := aM (ho); clear HI0 HB HK HO_5; have HI0 := n0_; have HB := n1_; have HK := n2_; have HO454 := n3_; clear n0_ n1_ n2_ n3_; clear ho hb hg hat))
    go_roundg k1
    case measure => have := HK1.out; omega
    case rel => exact ⟨(y452), (wrap64 (x6_1 + 1)), (t450), (t451), zr, H', ⟨by have := HK1.out; omega⟩, ⟨mR_ HO454.out⟩, ⟨zI98 HI0.out⟩, ⟨zK HK.out⟩, ⟨zs (IsS98.ge HI0.out)⟩⟩
 rw [if_neg c53] at H
 have c53b0 : (t428 == 3) = false := beq_eq_false_iff_ne.mpr c53
 have c53b1 : (t428 != 3) = true := bne_iff_ne.mpr c53
 by_cases c70 : t428 = 4
 ·rw [if_pos c70] at H
  have c70b0 : (t428 == 4) = true := beq_iff_eq.mpr c70
  have c70b1 : (t428 != 4) = false := bne_eq_false_iff_eq.mpr c70
  clear c70
  by_cases c71 : 0 < (t422.length : Int)
  rotate_left
  ·rw [if_neg c71] at H
   exact absurd H (by simp)
  rw [if_pos c71] at H
  have c71b0 : decide (0 < (t422.length : Int)) = true := decide_eq_true c71
  have c71b1 : decide (0 < t422.length) = true := decide_eq_true (by omega)
  clear c71
  obtain ⟨ji72, hji72⟩ : ∃ j_ : Int, (wrap64 ((t422.length : Int) - 1)) = j_ := ⟨_, rfl⟩
  replace H : (if 0 ≤ (ji72) then (if (ji72) < (t422.length : Int) then (if t422.length < 8796093022208 then (some ((t422 ++ [(⟨wrap64 (((rd_T59 t422 0).f0) + 3), wrap64 (((rd_T59 t422 (ji72)).f1) + 2)⟩ : S59)]), t429, t430)) else (none)) else (none)) else (none)) = some (r1, r2, r3) := by first | (rw [hji72] at H; exact H) | (simp only [hji72] at H ⊢; exact H)
  (try rw [hji72] at A2)
  (try rw [hji72] at A3)
  (try rw [hji72] at A4)
  (try rw [hji72] at A5)
  (try rw [hji72] at A6)
  (try rw [hji72] at A7)
  have hji72w : (IntKind.i64.wrap ((t422.length : Int) - 1)) = ji72 := (i64_w _).trans hji72
  by_cases c73 : 0 ≤ (ji72)
  rotate_left
  ·rw [if_neg c73] at H
   exact absurd H (by simp)
  rw [if_pos c73] at H
  have c73b0 : decide (0 ≤ (ji72)) = true := decide_eq_true c73
  clear c73
  by_cases c74 : (ji72) < (t422.length : Int)
  rotate_left
  ·rw [if_neg c74] at H
   exact absurd H (by simp)
  rw [if_pos c74] at H
  have c74b0 : decide ((ji72) < (t422.length : Int)) = true := decide_eq_true c74
  clear c74
  by_cases c75 : t422.length < 8796093022208
  rotate_left
  ·rw [if_neg c75] at H
   exact absurd H (by simp)
  rw [if_pos c75] at H
  have LMc75 := aM c75
  clear c75
  obtain ⟨y457, hy457⟩ : ∃ y_ : List (S59), y_ = (t422 ++ [(⟨wrap64 (((rd_T59 t422 0).f0) + 3), wrap64 (((rd_T59 t422 (ji72)).f1) + 2)⟩ : S59)]) := ⟨_, rfl⟩
  replace H : (some (y457, t429, t430)) = some (r1, r2, r3) := zy H hy457
  have Ny457 := aM hy457
  clear hy457
  simp only [Option.some.injEq, Prod.mk.injEq] at H
  obtain ⟨rfl, rfl, rfl⟩ := H
  go_enter Try.func103, Try.ntmps103
  try go_wp2_with (first | ((with_reducible refine gate_callee (f := 118) rfl ?_); refine goesL_ (some 8) rfl rfl Try.func118 (by kernel_rfl) rfl #[.pointer (some ⟨g, 0, none⟩), .int .i64 8] rfl zm ?_; (with_reducible refine (spec_l02DrawPoly.calls k g s0_0 s0_1 s0_2 8 t411 t414 t415 w0 _ ?side1 ?side2 A2.out).mono ?_); (case side1 => exact zI98 HI0.out); (case side2 => exact zs (IsS98.ge HI0.out)); rintro e w76 ⟨v412, rfl, ho0, hi, hb, hk⟩; refine ⟨_, rfl, ?_⟩; have n0_ := aM (Kd.R_lower ho0 (keep_size (w := w) (g := g) (row := none) (zK HK.out))); have n1_ := aM (KeepBut.trans (zK HK.out) hk (.inl rfl)); have n2_ := aM (hb); have n3_ := aM (hi); clear HK HB HI0; have HO413 := n0_; have HK := n1_; have HB := n2_; have HI0 := n3_; clear n0_ n1_ n2_ n3_; (try clear hb); (try clear hb2); (try clear hk); (try clear hi); (try clear ho0)) | ((with_reducible refine gate_callee (f := 71) rfl ?_); refine goesL_ (some 10) rfl rfl Try.func71 (by kernel_rfl) rfl #[.pointer (some ⟨g, 0, none⟩), .int .i64 9] rfl zm ?_; (with_reducible refine (spec_l01Next.calls g s0_0 t414 t415 9 t416 t417 t418 w0 _ ?side1 ?side2 A3.out).mono ?_); (case side1 => exact zI98 HI0.out); (case side2 => exact zs (IsS98.ge HI0.out)); rintro e w77 ⟨rfl, hi, hb, hk⟩; refine ⟨_, rfl, ?_⟩; have n0_ := aM (Kd.R_mono (Kd.R_keep (IsS98.apart (show IsS98 w0 _ g s0_0 t414 t415 from zI98 HI0.out) (mR_ HO413.out) (by decide)) hk (fun _ h => h.2)) (fun _ h => h.1)); have n1_ := aM (KeepBut.trans (zK HK.out) hk (.inl rfl)); have n2_ := aM (hb); have n3_ := aM (hi); clear HO413 HK HB HI0; have HO413 := n0_; have HK := n1_; have HB := n2_; have HI0 := n3_; clear n0_ n1_ n2_ n3_; (try clear hb); (try clear hb2); (try clear hk); (try clear hi)) | ((with_reducible refine gate_callee (f := 71) rfl ?_); refine goesL_ (some 13) rfl rfl Try.func71 (by kernel_rfl) rfl #[.pointer (some ⟨g, 0, none⟩), .int .i64 9] rfl zm ?_; (with_reducible refine (spec_l01Next.calls g s0_0 t417 t418 9 t419 t420 t421 w0 _ ?side1 ?side2 A4.out).mono ?_); (case side1 => exact zI98 HI0.out); (case side2 => exact zs (IsS98.ge HI0.out)); rintro e w78 ⟨rfl, hi, hb, hk⟩; refine ⟨_, rfl, ?_⟩; have n0_ := aM (Kd.R_mono (Kd.R_keep (IsS98.apart (show IsS98 w0 _ g s0_0 t417 t418 from zI98 HI0.out) (mR_ HO413.out) (by decide)) hk (fun _ h => h.2)) (fun _ h => h.1)); have n1_ := aM (KeepBut.trans (zK HK.out) hk (.inl rfl)); have n2_ := aM (hb); have n3_ := aM (hi); clear HO413 HK HB HI0; have HO413 := n0_; have HK := n1_; have HB := n2_; have HI0 := n3_; clear n0_ n1_ n2_ n3_; (try clear hb); (try clear hb2); (try clear hk); (try clear hi); obtain ⟨Ao79, co79, eo79⟩ := Kd.R_slice HO413.out; subst eo79) | ((with_reducible refine gate_callee (f := 122) rfl ?_); refine goesL_ (some 15) rfl rfl Try.func122 (by kernel_rfl) rfl #[.slice Ao79 t411.length co79, .int .i64 (wrap64 (t416 - 4)), .int .i64 (wrap64 (t419 - 4))] rfl zm ?_; (with_reducible refine (spec_l02Move.calls k _ _ t411 (wrap64 (t416 - 4)) (wrap64 (t419 - 4)) t422 _ ?side1 ?side2 A5.out).mono ?_); (case side1 => exact zc HO413.out); (case side2 => exact (Kd.R_reads' HO413.out).2.1); rintro e w80 ⟨v423, rfl, ho0, hb⟩; refine ⟨_, rfl, ?_⟩; have n0_ := aM (Kd.R_elder' (mR_ HO413.out) (Kd.R_base ho0) hb); have n1_ := aM (Kd.R_lower (Kd.R_new' ho0 (Kd.R_lt (mR_ HO413.out))) (keep_size (w := w) (g := g) (row := none) (zK HK.out))); have n2_ := aM (IsS98.below (zI98 HI0.out) hb); have n3_ := aM (KeepBut.trans (zK HK.out) (KeepBut.of_below hb g none) (.inl rfl)); have n4_ := aM (below_step (zs (IsS98.ge HI0.out)) hb); clear HO413 HI0 HK HB; have HO413 := n0_; have HO424 := n1_; have HI0 := n2_; have HK := n3_; have HB := n4_; clear n0_ n1_ n2_ n3_ n4_; (try clear hb); (try clear hb2); (try clear hk); (try clear hi); (try clear ho0); obtain ⟨Ao81, co81, eo81⟩ := Kd.R_slice HO424.out; subst eo81) | ((with_reducible refine gate_callee (f := 71) rfl ?_); refine goesL_ (some 19) rfl rfl Try.func71 (by kernel_rfl) rfl #[.pointer (some ⟨g, 0, none⟩), .int .i64 (t422.length : Int)] rfl zm ?_; (with_reducible refine (spec_l01Next.calls g s0_0 t420 t421 (t422.length : Int) t425 t426 t427 w0 _ ?side1 ?side2 A6.out).mono ?_); (case side1 => exact zI98 HI0.out); (case side2 => exact zs (IsS98.ge HI0.out)); rintro e w82 ⟨rfl, hi, hb, hk⟩; refine ⟨_, rfl, ?_⟩; have n0_ := aM (Kd.R_mono (Kd.R_keep (IsS98.apart (show IsS98 w0 _ g s0_0 t420 t421 from zI98 HI0.out) (mR_ HO413.out) (by decide)) hk (fun _ h => h.2)) (fun _ h => h.1)); have n1_ := aM (Kd.R_mono (Kd.R_keep (IsS98.apart (show IsS98 w0 _ g s0_0 t420 t421 from zI98 HI0.out) (mR_ HO424.out) (by decide)) hk (fun _ h => h.2)) (fun _ h => h.1)); have n2_ := aM (KeepBut.trans (zK HK.out) hk (.inl rfl)); have n3_ := aM (hb); have n4_ := aM (hi); clear HO413 HO424 HK HB HI0; have HO413 := n0_; have HO424 := n1_; have HK := n2_; have HB := n3_; have HI0 := n4_; clear n0_ n1_ n2_ n3_ n4_; (try clear hb); (try clear hb2); (try clear hk); (try clear hi)) | ((with_reducible refine gate_callee (f := 71) rfl ?_); refine goesL_ (some 21) rfl rfl Try.func71 (by kernel_rfl) rfl #[.pointer (some ⟨g, 0, none⟩), .int .i64 24] rfl zm ?_; (with_reducible refine (spec_l01Next.calls g s0_0 t426 t427 24 t428 t429 t430 w0 _ ?side1 ?side2 A7.out).mono ?_); (case side1 => exact zI98 HI0.out); (case side2 => exact zs (IsS98.ge HI0.out)); rintro e w83 ⟨rfl, hi, hb, hk⟩; refine ⟨_, rfl, ?_⟩; have n0_ := aM (Kd.R_mono (Kd.R_keep (IsS98.apart (show IsS98 w0 _ g s0_0 t426 t427 from zI98 HI0.out) (mR_ HO413.out) (by decide)) hk (fun _ h => h.2)) (fun _ h => h.1)); have n1_ := aM (Kd.R_mono (Kd.R_keep (IsS98.apart (show IsS98 w0 _ g s0_0 t426 t427 from zI98 HI0.out) (mR_ HO424.out) (by decide)) hk (fun _ h => h.2)) (fun _ h => h.1)); have n2_ := aM (KeepBut.trans (zK HK.out) hk (.inl rfl)); have n3_ := aM (hb); have n4_ := aM (hi); clear HO413 HO424 HK HB HI0; have HO413 := n0_; have HO424 := n1_; have HK := n2_; have HB := n3_; have HI0 := n4_; clear n0_ n1_ n2_ n3_ n4_; (try clear hb); (try clear hb2); (try clear hk); (try clear hi)))
  have n0_ := aM (Kd.R_drew HO413.out)
  have n1_ := aM (Kd.R_drew HO424.out)
  have n2_ := aM (IsS98.drew HI0.out)
  have n3_ := aM (keep_drew HK.out)
  have n4_ := aM (below_drew1 HB.out)
  clear HO413
  clear HO424
  clear HI0
  clear HK
  clear HB
  have HO413 := n0_
  have HO424 := n1_
  have HI0 := n2_
  have HK := n3_
  have HB := n4_
  clear n0_ n1_ n2_ n3_ n4_
  have p455 : 0 ≤ (0 : Int) := (by omega)
  have q455 : 0 < (t422.length : Int) := of_decide_eq_true za
  obtain ⟨ad455, e455, hx455_0, hx455_1⟩ := at_T59 (Kd.R_reads' HO424.out).2.2 0 p455 q455
  cases e455
  have qi455 : (0 < t422.length) = True := eq_true (by omega)
  (try rw [show ((0 : Int)).toNat = 0 from rfl] at hx455_0)
  (try rw [show 0 * 2 = 0 from rfl] at hx455_0)
  (try rw [Addr.add_zero'] at hx455_0)
  (try rw [show ((0 : Int)).toNat = 0 from rfl] at hx455_1)
  (try rw [show 0 * 2 = 0 from rfl] at hx455_1)
  (try rw [Addr.add_zero'] at hx455_1)
  replace p455 := eq_true p455
  replace q455 := eq_true q455
  have p456 : 0 ≤ ((ji72) : Int) := of_decide_eq_true za
  have q456 : (ji72) < (t422.length : Int) := of_decide_eq_true za
  obtain ⟨ad456, e456, hx456_0, hx456_1⟩ := at_T59 (Kd.R_reads' HO424.out).2.2 (ji72) p456 q456
  obtain rfl : ad455 = ad456 := (by injection e456)
  replace p456 := eq_true p456
  replace q456 := eq_true q456
  refine start_ (n := 18) (S := fun w' => w'.cell? ad455 = some (.int .i64 ((rd_T59 t422 0).f0)) ∧ w'.cell? ⟨ad455.block, ad455.off + 1, none⟩ = some (.int .i64 ((rd_T59 t422 0).f1)) ∧ w'.cell? (ad455.add (((ji72)).toNat * 2)) = some (.int .i64 ((rd_T59 t422 (ji72)).f0)) ∧ w'.cell? ⟨(ad455.add (((ji72)).toNat * 2)).block, (ad455.add (((ji72)).toNat * 2)).off + 1, none⟩ = some (.int .i64 ((rd_T59 t422 (ji72)).f1))) (ds := [15, 16]) zA34 (by kernel_rfl) rfl rfl ⟨hx455_0, hx455_1, hx456_0, hx456_1⟩ (fun hHeld => ?_); refine with_tabW spec_l02Draw.tab20 spec_l02Draw.bits20 (fun HT_ HW_ => ?_)
  generalize w83.drew = w84 at HO413 HO424 HI0 HK HB hx455_0 hx455_1 hx456_0 hx456_1 hHeld ⊢
  refine zp 0 (some 65) ?_ zA35 rfl rfl (Or.inl ⟨by rfl, ?_⟩) ?_ ?_ ?_
  rotate_left
  ·intro w'
   go_simp
   with_reducible rfl
  rotate_left
  ·simp only [Act.put, xA, xB, xC, i64_w, i32_w]
   rfl
  refine zp 1 (some 66) ?_ zA36 rfl rfl (Or.inl ⟨by rfl, ?_⟩) ?_ ?_ ?_
  rotate_left
  ·intro w'
   go_simp
   with_reducible rfl
  rotate_left
  ·simp only [Act.put, xA, xB, xC, i64_w, i32_w]
   rfl
  refine zp 2 (some 67) ?_ zA37 rfl rfl (Or.inl ⟨by rfl, ?_⟩) ?_ ?_ ?_
  rotate_left
  ·intro w'
   go_simp
   with_reducible rfl
  rotate_left
  ·simp only [Act.put, xA, xB, xC, i64_w, i32_w]
   rfl
  refine zp 3 (some 68) ?_ zA38 rfl rfl (Or.inl ⟨by rfl, ?_⟩) ?_ ?_ ?_
  rotate_left
  ·intro w'
   go_simp
   with_reducible rfl
  rotate_left
  ·simp only [Act.put, xA, xB, xC, i64_w, i32_w]
   rfl
  refine zp 6 (some 71) ?_ zA39 rfl rfl (Or.inl ⟨by rfl, ?_⟩) ?_ ?_ ?_
  rotate_left
  ·intro w'
   go_simp
   with_reducible rfl
  rotate_left
  ·simp only [Act.put, xA, xB, xC, i64_w, i32_w]
   rfl
  refine zp 7 (some 72) ?_ zA40 rfl rfl (Or.inl ⟨by rfl, ?_⟩) ?_ ?_ ?_
  rotate_left
  ·intro w'
   go_simp
   with_reducible rfl
  rotate_left
  ·simp only [Act.put, xA, xB, xC, i64_w, i32_w]
   rfl
  refine zp 8 (some 73) ?_ zA41 rfl rfl (Or.inl ⟨by rfl, ?_⟩) ?_ ?_ ?_
  rotate_left
  ·intro w'
   go_simp
   with_reducible rfl
  rotate_left
  ·simp only [Act.put, xA, xB, xC, i64_w, i32_w]
   rfl
  refine zp 9 (some 74) ?_ zA42 rfl rfl (Or.inl ⟨by rfl, ?_⟩) ?_ ?_ ?_
  rotate_left
  ·intro w'
   go_simp
   with_reducible rfl
  rotate_left
  ·simp only [Act.put, xA, xB, xC, i64_w, i32_w]
   rfl
  refine zp 10 (some 75) ?_ zA43 rfl rfl (Or.inl ⟨by rfl, ?_⟩) ?_ ?_ ?_
  rotate_left
  ·intro w'
   go_simp
   with_reducible rfl
  rotate_left
  ·simp only [Act.put, xA, xB, xC, i64_w, i32_w]
   rfl
  refine zp 11 (some 76) ?_ zA44 rfl rfl (Or.inl ⟨by rfl, ?_⟩) ?_ ?_ ?_
  rotate_left
  ·intro w'
   go_simp
   with_reducible rfl
  rotate_left
  ·simp only [Act.put, xA, xB, xC, i64_w, i32_w]
   rfl
  refine zu 4 (some 69) ?_ zA45 rfl rfl (Or.inl ⟨by rfl, ?_⟩) hHeld ?_ ?_ ?_
  rotate_left
  ·rintro w' ⟨s0, s1, s2, s3⟩
   go_simp
   with_reducible rfl
  rotate_left
  ·simp only [Act.put, xA, xB, xC, i64_w, i32_w]
   rfl
  refine zp 5 (some 70) ?_ zA46 rfl rfl (Or.inl ⟨by rfl, ?_⟩) ?_ ?_ ?_
  rotate_left
  ·intro w'
   go_simp
   with_reducible rfl
  rotate_left
  ·simp only [Act.put, xA, xB, xC, i64_w, i32_w]
   rfl
  refine zu 12 (some 77) ?_ zA47 rfl rfl (Or.inl ⟨by rfl, ?_⟩) hHeld ?_ ?_ ?_
  rotate_left
  ·rintro w' ⟨s0, s1, s2, s3⟩
   go_simp
   with_reducible rfl
  rotate_left
  ·simp only [Act.put, xA, xB, xC, i64_w, i32_w]
   rfl
  refine zp 13 (some 78) ?_ zA48 rfl rfl (Or.inl ⟨by rfl, ?_⟩) ?_ ?_ ?_
  rotate_left
  ·intro w'
   go_simp
   with_reducible rfl
  rotate_left
  ·simp only [Act.put, xA, xB, xC, i64_w, i32_w]
   rfl
  refine zp 14 (some 79) ?_ zA49 rfl rfl (Or.inl ⟨by rfl, ?_⟩) ?_ ?_ ?_
  rotate_left
  ·intro w'
   go_simp
   with_reducible rfl
  rotate_left
  ·simp only [Act.put, xA, xB, xC, i64_w, i32_w]
   rfl
  refine last_ (i := 15) (N := some 80) zA50 rfl rfl (one_of HT_.out (by kernel_rfl)) (by decide) (fun K hK => ?_)
  refine value_ (w1 := ?_) (v := ?_) (by rfl) rfl ?_ ?_
  rotate_left 2
  ·go_simp
   constructor
   ·rfl
   ·rfl
  refine hK.out _ _ ?_
  clear hK K
  refine norm_ (a' := ?_) ?_ ?_
  rotate_left
  ·show Act.put _ (some 80) _ = _
   simp only [Act.put, xA, xB, xC, i64_w, i32_w]
   rfl
  refine last_ (i := 16) (N := some 81) zA51 rfl rfl (one_of HT_.out (by kernel_rfl)) (by decide) (fun K hK => ?_)
  refine Kd.R_append_step k59 w.heap.size (by rfl) (.tmp 65) (.tmp 80) 24 59 (.agg #[(.int .i64 0), (.int .i64 0)]) 16 rfl Try.underlying24 info59 rfl (by decide) (by omega) (.slice (some ad455) t422.length co81) t422 (⟨wrap64 (((rd_T59 t422 0).f0) + 3), wrap64 (((rd_T59 t422 (ji72)).f1) + 2)⟩ : S59) [.int .i64 (wrap64 (((rd_T59 t422 0).f0) + 3)), .int .i64 (wrap64 (((rd_T59 t422 (ji72)).f1) + 2))] (fun k_ => some k_ ≠ (.slice Ao79 t411.length co79 : Value).ownBlock) (fun _ => False) rfl rfl ?aP (fun _ hk => hk.elim) ?aF ?aO (Below.refl _ _) ?aS ?aL ?_
  (case aP => exact k59_mkM _ _ _ (⟨wrap64 (((rd_T59 t422 0).f0) + 3), wrap64 (((rd_T59 t422 (ji72)).f1) + 2)⟩ : S59))
  (case aF => exact (fun k_ hk => Kd.fresh' (Kd.R_lt (mR_ HO413.out)) k_ hk))
  (case aO => exact (zd1 HO424.out))
  (case aS => exact (keep_size (w := w) (g := g) (row := none) (zK HK.out)))
  (case aL => have := LMc75.out; omega)
  intro v458 w85 ho hb hg hat
  rw [← Ny457.out] at ho
  have n0_ := aM (IsS98.grown (zI98 HI0.out) hg (IsS98.own_ne HI0.out HO424.out (by decide)))
  have n1_ := aM (Kd.R_after (ok := (fun _ => True)) (mR_ HO413.out) hg hat)
  have n2_ := aM (below_weaken (zs (IsS98.ge HI0.out)) HL.out hb)
  have n3_ := aM (KeepBut.trans (zK HK.out) (KeepBut.of_grown hg g) (Kd.R_base2 HO424.out))
  have n4_ := aM (ho)
  clear HI0
  clear HO413
  clear HB
  clear HK
  clear HO424
  have HI0 := n0_
  have HO413 := n1_
  have HB := n2_
  have HK := n3_
  have HO459 := n4_
  clear n0_ n1_ n2_ n3_ n4_
  clear ho hb hg hat
  refine hK.out _ _ ?_
  clear hK K
  refine norm_ (a' := ?_) ?_ ?_
  rotate_left
  ·show Act.put _ (some 81) _ = _
   simp only [Act.put, xA, xB, xC, i64_w, i32_w]
   rfl
  refine zp 17 (some 2) ?_ zA52 rfl rfl (Or.inl ⟨by rfl, ?_⟩) ?_ ?_ ?_
  rotate_left
  ·intro w'
   go_simp
   with_reducible rfl
  rotate_left
  ·simp only [Act.put, xA, xB, xC, i64_w, i32_w]
   rfl
  refine done_ (done_of HT_.out (by kernel_rfl)) ?_
  try go_wp2
  go_ret
  exact ⟨_, by first | rfl | (simp [errW_none, errW_some] <;> rfl) | (simp only [← hji72]; first | rfl | (simp [errW_none, errW_some] <;> rfl)) | (simp [*, errW_none, errW_some] <;> rfl), zd0 HO459.out, zI98 HI0.out, zs (IsS98.ge HI0.out), zK HK.out⟩
 rw [if_neg c70] at H
 have c70b0 : (t428 == 4) = false := beq_eq_false_iff_ne.mpr c70
 have c70b1 : (t428 != 4) = true := bne_iff_ne.mpr c70
 by_cases c86 : t428 = 5
 rotate_left
 ·rw [if_neg c86] at H
  have c86b0 : (t428 == 5) = false := beq_eq_false_iff_ne.mpr c86
  have c86b1 : (t428 != 5) = true := bne_iff_ne.mpr c86
  simp only [Option.some.injEq, Prod.mk.injEq] at H
  obtain ⟨rfl, rfl, rfl⟩ := H
  go_enter Try.func103, Try.ntmps103
  go_wp2_with (first | ((with_reducible refine gate_callee (f := 118) rfl ?_); refine goesL_ (some 8) rfl rfl Try.func118 (by kernel_rfl) rfl #[.pointer (some ⟨g, 0, none⟩), .int .i64 8] rfl zm ?_; (with_reducible refine (spec_l02DrawPoly.calls k g s0_0 s0_1 s0_2 8 t411 t414 t415 w0 _ ?side1 ?side2 A2.out).mono ?_); (case side1 => exact zI98 HI0.out); (case side2 => exact zs (IsS98.ge HI0.out)); rintro e w102 ⟨v412, rfl, ho0, hi, hb, hk⟩; refine ⟨_, rfl, ?_⟩; have n0_ := aM (Kd.R_lower ho0 (keep_size (w := w) (g := g) (row := none) (zK HK.out))); have n1_ := aM (KeepBut.trans (zK HK.out) hk (.inl rfl)); have n2_ := aM (hb); have n3_ := aM (hi); clear HK HB HI0; have HO413 := n0_; have HK := n1_; have HB := n2_; have HI0 := n3_; clear n0_ n1_ n2_ n3_; (try clear hb); (try clear hb2); (try clear hk); (try clear hi); (try clear ho0)) | ((with_reducible refine gate_callee (f := 71) rfl ?_); refine goesL_ (some 10) rfl rfl Try.func71 (by kernel_rfl) rfl #[.pointer (some ⟨g, 0, none⟩), .int .i64 9] rfl zm ?_; (with_reducible refine (spec_l01Next.calls g s0_0 t414 t415 9 t416 t417 t418 w0 _ ?side1 ?side2 A3.out).mono ?_); (case side1 => exact zI98 HI0.out); (case side2 => exact zs (IsS98.ge HI0.out)); rintro e w103 ⟨rfl, hi, hb, hk⟩; refine ⟨_, rfl, ?_⟩; have n0_ := aM (Kd.R_mono (Kd.R_keep (IsS98.apart (show IsS98 w0 _ g s0_0 t414 t415 from zI98 HI0.out) (mR_ HO413.out) (by decide)) hk (fun _ h => h.2)) (fun _ h => h.1)); have n1_ := aM (KeepBut.trans (zK HK.out) hk (.inl rfl)); have n2_ := aM (hb); have n3_ := aM (hi); clear HO413 HK HB HI0; have HO413 := n0_; have HK := n1_; have HB := n2_; have HI0 := n3_; clear n0_ n1_ n2_ n3_; (try clear hb); (try clear hb2); (try clear hk); (try clear hi)) | ((with_reducible refine gate_callee (f := 71) rfl ?_); refine goesL_ (some 13) rfl rfl Try.func71 (by kernel_rfl) rfl #[.pointer (some ⟨g, 0, none⟩), .int .i64 9] rfl zm ?_; (with_reducible refine (spec_l01Next.calls g s0_0 t417 t418 9 t419 t420 t421 w0 _ ?side1 ?side2 A4.out).mono ?_); (case side1 => exact zI98 HI0.out); (case side2 => exact zs (IsS98.ge HI0.out)); rintro e w104 ⟨rfl, hi, hb, hk⟩; refine ⟨_, rfl, ?_⟩; have n0_ := aM (Kd.R_mono (Kd.R_keep (IsS98.apart (show IsS98 w0 _ g s0_0 t417 t418 from zI98 HI0.out) (mR_ HO413.out) (by decide)) hk (fun _ h => h.2)) (fun _ h => h.1)); have n1_ := aM (KeepBut.trans (zK HK.out) hk (.inl rfl)); have n2_ := aM (hb); have n3_ := aM (hi); clear HO413 HK HB HI0; have HO413 := n0_; have HK := n1_; have HB := n2_; have HI0 := n3_; clear n0_ n1_ n2_ n3_; (try clear hb); (try clear hb2); (try clear hk); (try clear hi); obtain ⟨Ao105, co105, eo105⟩ := Kd.R_slice HO413.out; subst eo105) | ((with_reducible refine gate_callee (f := 122) rfl ?_); refine goesL_ (some 15) rfl rfl Try.func122 (by kernel_rfl) rfl #[.slice Ao105 t411.length co105, .int .i64 (wrap64 (t416 - 4)), .int .i64 (wrap64 (t419 - 4))] rfl zm ?_; (with_reducible refine (spec_l02Move.calls k _ _ t411 (wrap64 (t416 - 4)) (wrap64 (t419 - 4)) t422 _ ?side1 ?side2 A5.out).mono ?_); (case side1 => exact zc HO413.out); (case side2 => exact (Kd.R_reads' HO413.out).2.1); rintro e w106 ⟨v423, rfl, ho0, hb⟩; refine ⟨_, rfl, ?_⟩; have n0_ := aM (Kd.R_elder' (mR_ HO413.out) (Kd.R_base ho0) hb); have n1_ := aM (Kd.R_lower (Kd.R_new' ho0 (Kd.R_lt (mR_ HO413.out))) (keep_size (w := w) (g := g) (row := none) (zK HK.out))); have n2_ := aM (IsS98.below (zI98 HI0.out) hb); have n3_ := aM (KeepBut.trans (zK HK.out) (KeepBut.of_below hb g none) (.inl rfl)); have n4_ := aM (below_step (zs (IsS98.ge HI0.out)) hb); clear HO413 HI0 HK HB; have HO413 := n0_; have HO424 := n1_; have HI0 := n2_; have HK := n3_; have HB := n4_; clear n0_ n1_ n2_ n3_ n4_; (try clear hb); (try clear hb2); (try clear hk); (try clear hi); (try clear ho0); obtain ⟨Ao107, co107, eo107⟩ := Kd.R_slice HO424.out; subst eo107) | ((with_reducible refine gate_callee (f := 71) rfl ?_); refine goesL_ (some 19) rfl rfl Try.func71 (by kernel_rfl) rfl #[.pointer (some ⟨g, 0, none⟩), .int .i64 (t422.length : Int)] rfl zm ?_; (with_reducible refine (spec_l01Next.calls g s0_0 t420 t421 (t422.length : Int) t425 t426 t427 w0 _ ?side1 ?side2 A6.out).mono ?_); (case side1 => exact zI98 HI0.out); (case side2 => exact zs (IsS98.ge HI0.out)); rintro e w108 ⟨rfl, hi, hb, hk⟩; refine ⟨_, rfl, ?_⟩; have n0_ := aM (Kd.R_mono (Kd.R_keep (IsS98.apart (show IsS98 w0 _ g s0_0 t420 t421 from zI98 HI0.out) (mR_ HO413.out) (by decide)) hk (fun _ h => h.2)) (fun _ h => h.1)); have n1_ := aM (Kd.R_mono (Kd.R_keep (IsS98.apart (show IsS98 w0 _ g s0_0 t420 t421 from zI98 HI0.out) (mR_ HO424.out) (by decide)) hk (fun _ h => h.2)) (fun _ h => h.1)); have n2_ := aM (KeepBut.trans (zK HK.out) hk (.inl rfl)); have n3_ := aM (hb); have n4_ := aM (hi); clear HO413 HO424 HK HB HI0; have HO413 := n0_; have HO424 := n1_; have HK := n2_; have HB := n3_; have HI0 := n4_; clear n0_ n1_ n2_ n3_ n4_; (try clear hb); (try clear hb2); (try clear hk); (try clear hi)) | ((with_reducible refine gate_callee (f := 71) rfl ?_); refine goesL_ (some 21) rfl rfl Try.func71 (by kernel_rfl) rfl #[.pointer (some ⟨g, 0, none⟩), .int .i64 24] rfl zm ?_; (with_reducible refine (spec_l01Next.calls g s0_0 t426 t427 24 t428 t429 t430 w0 _ ?side1 ?side2 A7.out).mono ?_); (case side1 => exact zI98 HI0.out); (case side2 => exact zs (IsS98.ge HI0.out)); rintro e w109 ⟨rfl, hi, hb, hk⟩; refine ⟨_, rfl, ?_⟩; have n0_ := aM (Kd.R_mono (Kd.R_keep (IsS98.apart (show IsS98 w0 _ g s0_0 t426 t427 from zI98 HI0.out) (mR_ HO413.out) (by decide)) hk (fun _ h => h.2)) (fun _ h => h.1)); have n1_ := aM (Kd.R_mono (Kd.R_keep (IsS98.apart (show IsS98 w0 _ g s0_0 t426 t427 from zI98 HI0.out) (mR_ HO424.out) (by decide)) hk (fun _ h => h.2)) (fun _ h => h.1)); have n2_ := aM (KeepBut.trans (zK HK.out) hk (.inl rfl)); have n3_ := aM (hb); have n4_ := aM (hi); clear HO413 HO424 HK HB HI0; have HO413 := n0_; have HO424 := n1_; have HK := n2_; have HB := n3_; have HI0 := n4_; clear n0_ n1_ n2_ n3_ n4_; (try clear hb); (try clear hb2); (try clear hk); (try clear hi)))
  go_ret
  exact ⟨_, zw, zd0 HO424.out, zI98 HI0.out, zs (IsS98.ge HI0.out), zK HK.out⟩
 rw [if_pos c86] at H
 have c86b0 : (t428 == 5) = true := beq_iff_eq.mpr c86
 have c86b1 : (t428 != 5) = false := bne_eq_false_iff_eq.mpr c86
 clear c86
 by_cases c87 : 0 < (t422.length : Int)
 rotate_left
 ·rw [if_neg c87] at H
  exact absurd H (by simp)
 rw [if_pos c87] at H
 have c87b0 : decide (0 < (t422.length : Int)) = true := decide_eq_true c87
 have c87b1 : decide (0 < t422.length) = true := decide_eq_true (by omega)
 clear c87
 obtain ⟨ji88, hji88⟩ : ∃ j_ : Int, (wrap64 ((t422.length : Int) - 1)) = j_ := ⟨_, rfl⟩
 replace H : (if 0 ≤ (ji88) then (if (ji88) < (t422.length : Int) then (if t422.length < 8796093022208 then (some ((t422 ++ [(⟨wrap64 (((rd_T59 t422 0).f0) + 3), wrap64 (((rd_T59 t422 (ji88)).f1) + 2)⟩ : S59)]), t429, t430)) else (none)) else (none)) else (none)) = some (r1, r2, r3) := by first | (rw [hji88] at H; exact H) | (simp only [hji88] at H ⊢; exact H)
 (try rw [hji88] at A2)
 (try rw [hji88] at A3)
 (try rw [hji88] at A4)
 (try rw [hji88] at A5)
 (try rw [hji88] at A6)
 (try rw [hji88] at A7)
 have hji88w : (IntKind.i64.wrap ((t422.length : Int) - 1)) = ji88 := (i64_w _).trans hji88
 by_cases c89 : 0 ≤ (ji88)
 rotate_left
 ·rw [if_neg c89] at H
  exact absurd H (by simp)
 rw [if_pos c89] at H
 have c89b0 : decide (0 ≤ (ji88)) = true := decide_eq_true c89
 clear c89
 by_cases c90 : (ji88) < (t422.length : Int)
 rotate_left
 ·rw [if_neg c90] at H
  exact absurd H (by simp)
 rw [if_pos c90] at H
 have c90b0 : decide ((ji88) < (t422.length : Int)) = true := decide_eq_true c90
 clear c90
 by_cases c91 : t422.length < 8796093022208
 rotate_left
 ·rw [if_neg c91] at H
  exact absurd H (by simp)
 rw [if_pos c91] at H
 have LMc91 := aM c91
 clear c91
 obtain ⟨y462, hy462⟩ : ∃ y_ : List (S59), y_ = (t422 ++ [(⟨wrap64 (((rd_T59 t422 0).f0) + 3), wrap64 (((rd_T59 t422 (ji88)).f1) + 2)⟩ : S59)]) := ⟨_, rfl⟩
 replace H : (some (y462, t429, t430)) = some (r1, r2, r3) := zy H hy462
 have Ny462 := aM hy462
 clear hy462
 simp only [Option.some.injEq, Prod.mk.injEq] at H
 obtain ⟨rfl, rfl, rfl⟩ := H
 go_enter Try.func103, Try.ntmps103
 try go_wp2_with (first | ((with_reducible refine gate_callee (f := 118) rfl ?_); refine goesL_ (some 8) rfl rfl Try.func118 (by kernel_rfl) rfl #[.pointer (some ⟨g, 0, none⟩), .int .i64 8] rfl zm ?_; (with_reducible refine (spec_l02DrawPoly.calls k g s0_0 s0_1 s0_2 8 t411 t414 t415 w0 _ ?side1 ?side2 A2.out).mono ?_); (case side1 => exact zI98 HI0.out); (case side2 => exact zs (IsS98.ge HI0.out)); rintro e w92 ⟨v412, rfl, ho0, hi, hb, hk⟩; refine ⟨_, rfl, ?_⟩; have n0_ := aM (Kd.R_lower ho0 (keep_size (w := w) (g := g) (row := none) (zK HK.out))); have n1_ := aM (KeepBut.trans (zK HK.out) hk (.inl rfl)); have n2_ := aM (hb); have n3_ := aM (hi); clear HK HB HI0; have HO413 := n0_; have HK := n1_; have HB := n2_; have HI0 := n3_; clear n0_ n1_ n2_ n3_; (try clear hb); (try clear hb2); (try clear hk); (try clear hi); (try clear ho0)) | ((with_reducible refine gate_callee (f := 71) rfl ?_); refine goesL_ (some 10) rfl rfl Try.func71 (by kernel_rfl) rfl #[.pointer (some ⟨g, 0, none⟩), .int .i64 9] rfl zm ?_; (with_reducible refine (spec_l01Next.calls g s0_0 t414 t415 9 t416 t417 t418 w0 _ ?side1 ?side2 A3.out).mono ?_); (case side1 => exact zI98 HI0.out); (case side2 => exact zs (IsS98.ge HI0.out)); rintro e w93 ⟨rfl, hi, hb, hk⟩; refine ⟨_, rfl, ?_⟩; have n0_ := aM (Kd.R_mono (Kd.R_keep (IsS98.apart (show IsS98 w0 _ g s0_0 t414 t415 from zI98 HI0.out) (mR_ HO413.out) (by decide)) hk (fun _ h => h.2)) (fun _ h => h.1)); have n1_ := aM (KeepBut.trans (zK HK.out) hk (.inl rfl)); have n2_ := aM (hb); have n3_ := aM (hi); clear HO413 HK HB HI0; have HO413 := n0_; have HK := n1_; have HB := n2_; have HI0 := n3_; clear n0_ n1_ n2_ n3_; (try clear hb); (try clear hb2); (try clear hk); (try clear hi)) | ((with_reducible refine gate_callee (f := 71) rfl ?_); refine goesL_ (some 13) rfl rfl Try.func71 (by kernel_rfl) rfl #[.pointer (some ⟨g, 0, none⟩), .int .i64 9] rfl zm ?_; (with_reducible refine (spec_l01Next.calls g s0_0 t417 t418 9 t419 t420 t421 w0 _ ?side1 ?side2 A4.out).mono ?_); (case side1 => exact zI98 HI0.out); (case side2 => exact zs (IsS98.ge HI0.out)); rintro e w94 ⟨rfl, hi, hb, hk⟩; refine ⟨_, rfl, ?_⟩; have n0_ := aM (Kd.R_mono (Kd.R_keep (IsS98.apart (show IsS98 w0 _ g s0_0 t417 t418 from zI98 HI0.out) (mR_ HO413.out) (by decide)) hk (fun _ h => h.2)) (fun _ h => h.1)); have n1_ := aM (KeepBut.trans (zK HK.out) hk (.inl rfl)); have n2_ := aM (hb); have n3_ := aM (hi); clear HO413 HK HB HI0; have HO413 := n0_; have HK := n1_; have HB := n2_; have HI0 := n3_; clear n0_ n1_ n2_ n3_; (try clear hb); (try clear hb2); (try clear hk); (try clear hi); obtain ⟨Ao95, co95, eo95⟩ := Kd.R_slice HO413.out; subst eo95) | ((with_reducible refine gate_callee (f := 122) rfl ?_); refine goesL_ (some 15) rfl rfl Try.func122 (by kernel_rfl) rfl #[.slice Ao95 t411.length co95, .int .i64 (wrap64 (t416 - 4)), .int .i64 (wrap64 (t419 - 4))] rfl zm ?_; (with_reducible refine (spec_l02Move.calls k _ _ t411 (wrap64 (t416 - 4)) (wrap64 (t419 - 4)) t422 _ ?side1 ?side2 A5.out).mono ?_); (case side1 => exact zc HO413.out); (case side2 => exact (Kd.R_reads' HO413.out).2.1); rintro e w96 ⟨v423, rfl, ho0, hb⟩; refine ⟨_, rfl, ?_⟩; have n0_ := aM (Kd.R_elder' (mR_ HO413.out) (Kd.R_base ho0) hb); have n1_ := aM (Kd.R_lower (Kd.R_new' ho0 (Kd.R_lt (mR_ HO413.out))) (keep_size (w := w) (g := g) (row := none) (zK HK.out))); have n2_ := aM (IsS98.below (zI98 HI0.out) hb); have n3_ := aM (KeepBut.trans (zK HK.out) (KeepBut.of_below hb g none) (.inl rfl)); have n4_ := aM (below_step (zs (IsS98.ge HI0.out)) hb); clear HO413 HI0 HK HB; have HO413 := n0_; have HO424 := n1_; have HI0 := n2_; have HK := n3_; have HB := n4_; clear n0_ n1_ n2_ n3_ n4_; (try clear hb); (try clear hb2); (try clear hk); (try clear hi); (try clear ho0); obtain ⟨Ao97, co97, eo97⟩ := Kd.R_slice HO424.out; subst eo97) | ((with_reducible refine gate_callee (f := 71) rfl ?_); refine goesL_ (some 19) rfl rfl Try.func71 (by kernel_rfl) rfl #[.pointer (some ⟨g, 0, none⟩), .int .i64 (t422.length : Int)] rfl zm ?_; (with_reducible refine (spec_l01Next.calls g s0_0 t420 t421 (t422.length : Int) t425 t426 t427 w0 _ ?side1 ?side2 A6.out).mono ?_); (case side1 => exact zI98 HI0.out); (case side2 => exact zs (IsS98.ge HI0.out)); rintro e w98 ⟨rfl, hi, hb, hk⟩; refine ⟨_, rfl, ?_⟩; have n0_ := aM (Kd.R_mono (Kd.R_keep (IsS98.apart (show IsS98 w0 _ g s0_0 t420 t421 from zI98 HI0.out) (mR_ HO413.out) (by decide)) hk (fun _ h => h.2)) (fun _ h => h.1)); have n1_ := aM (Kd.R_mono (Kd.R_keep (IsS98.apart (show IsS98 w0 _ g s0_0 t420 t421 from zI98 HI0.out) (mR_ HO424.out) (by decide)) hk (fun _ h => h.2)) (fun _ h => h.1)); have n2_ := aM (KeepBut.trans (zK HK.out) hk (.inl rfl)); have n3_ := aM (hb); have n4_ := aM (hi); clear HO413 HO424 HK HB HI0; have HO413 := n0_; have HO424 := n1_; have HK := n2_; have HB := n3_; have HI0 := n4_; clear n0_ n1_ n2_ n3_ n4_; (try clear hb); (try clear hb2); (try clear hk); (try clear hi)) | ((with_reducible refine gate_callee (f := 71) rfl ?_); refine goesL_ (some 21) rfl rfl Try.func71 (by kernel_rfl) rfl #[.pointer (some ⟨g, 0, none⟩), .int .i64 24] rfl zm ?_; (with_reducible refine (spec_l01Next.calls g s0_0 t426 t427 24 t428 t429 t430 w0 _ ?side1 ?side2 A7.out).mono ?_); (case side1 => exact zI98 HI0.out); (case side2 => exact zs (IsS98.ge HI0.out)); rintro e w99 ⟨rfl, hi, hb, hk⟩; refine ⟨_, rfl, ?_⟩; have n0_ := aM (Kd.R_mono (Kd.R_keep (IsS98.apart (show IsS98 w0 _ g s0_0 t426 t427 from zI98 HI0.out) (mR_ HO413.out) (by decide)) hk (fun _ h => h.2)) (fun _ h => h.1)); have n1_ := aM (Kd.R_mono (Kd.R_keep (IsS98.apart (show IsS98 w0 _ g s0_0 t426 t427 from zI98 HI0.out) (mR_ HO424.out) (by decide)) hk (fun _ h => h.2)) (fun _ h => h.1)); have n2_ := aM (KeepBut.trans (zK HK.out) hk (.inl rfl)); have n3_ := aM (hb); have n4_ := aM (hi); clear HO413 HO424 HK HB HI0; have HO413 := n0_; have HO424 := n1_; have HK := n2_; have HB := n3_; have HI0 := n4_; clear n0_ n1_ n2_ n3_ n4_; (try clear hb); (try clear hb2); (try clear hk); (try clear hi)))
 have n0_ := aM (Kd.R_drew HO413.out)
 have n1_ := aM (Kd.R_drew HO424.out)
 have n2_ := aM (IsS98.drew HI0.out)
 have n3_ := aM (keep_drew HK.out)
 have n4_ := aM (below_drew1 HB.out)
 clear HO413
 clear HO424
 clear HI0
 clear HK
 clear HB
 have HO413 := n0_
 have HO424 := n1_
 have HI0 := n2_
 have HK := n3_
 have HB := n4_
 clear n0_ n1_ n2_ n3_ n4_
 have p460 : 0 ≤ (0 : Int) := (by omega)
 have q460 : 0 < (t422.length : Int) := of_decide_eq_true za
 obtain ⟨ad460, e460, hx460_0, hx460_1⟩ := at_T59 (Kd.R_reads' HO424.out).2.2 0 p460 q460
 cases e460
 have qi460 : (0 < t422.length) = True := eq_true (by omega)
 (try rw [show ((0 : Int)).toNat = 0 from rfl] at hx460_0)
 (try rw [show 0 * 2 = 0 from rfl] at hx460_0)
 (try rw [Addr.add_zero'] at hx460_0)
 (try rw [show ((0 : Int)).toNat = 0 from rfl] at hx460_1)
 (try rw [show 0 * 2 = 0 from rfl] at hx460_1)
 (try rw [Addr.add_zero'] at hx460_1)
 replace p460 := eq_true p460
 replace q460 := eq_true q460
 have p461 : 0 ≤ ((ji88) : Int) := of_decide_eq_true za
 have q461 : (ji88) < (t422.length : Int) := of_decide_eq_true za
 obtain ⟨ad461, e461, hx461_0, hx461_1⟩ := at_T59 (Kd.R_reads' HO424.out).2.2 (ji88) p461 q461
 obtain rfl : ad460 = ad461 := (by injection e461)
 replace p461 := eq_true p461
 replace q461 := eq_true q461
 refine start_ (n := 18) (S := fun w' => w'.cell? ad460 = some (.int .i64 ((rd_T59 t422 0).f0)) ∧ w'.cell? ⟨ad460.block, ad460.off + 1, none⟩ = some (.int .i64 ((rd_T59 t422 0).f1)) ∧ w'.cell? (ad460.add (((ji88)).toNat * 2)) = some (.int .i64 ((rd_T59 t422 (ji88)).f0)) ∧ w'.cell? ⟨(ad460.add (((ji88)).toNat * 2)).block, (ad460.add (((ji88)).toNat * 2)).off + 1, none⟩ = some (.int .i64 ((rd_T59 t422 (ji88)).f1))) (ds := [15, 16]) zA34 (by kernel_rfl) rfl rfl ⟨hx460_0, hx460_1, hx461_0, hx461_1⟩ (fun hHeld => ?_); refine with_tabW spec_l02Draw.tab20 spec_l02Draw.bits20 (fun HT_ HW_ => ?_)
 generalize w99.drew = w100 at HO413 HO424 HI0 HK HB hx460_0 hx460_1 hx461_0 hx461_1 hHeld ⊢
 refine zp 0 (some 65) ?_ zA35 rfl rfl (Or.inl ⟨by rfl, ?_⟩) ?_ ?_ ?_
 rotate_left
 ·intro w'
  go_simp
  with_reducible rfl
 rotate_left
 ·simp only [Act.put, xA, xB, xC, i64_w, i32_w]
  rfl
 refine zp 1 (some 66) ?_ zA36 rfl rfl (Or.inl ⟨by rfl, ?_⟩) ?_ ?_ ?_
 rotate_left
 ·intro w'
  go_simp
  with_reducible rfl
 rotate_left
 ·simp only [Act.put, xA, xB, xC, i64_w, i32_w]
  rfl
 refine zp 2 (some 67) ?_ zA37 rfl rfl (Or.inl ⟨by rfl, ?_⟩) ?_ ?_ ?_
 rotate_left
 ·intro w'
  go_simp
  with_reducible rfl
 rotate_left
 ·simp only [Act.put, xA, xB, xC, i64_w, i32_w]
  rfl
 refine zp 3 (some 68) ?_ zA38 rfl rfl (Or.inl ⟨by rfl, ?_⟩) ?_ ?_ ?_
 rotate_left
 ·intro w'
  go_simp
  with_reducible rfl
 rotate_left
 ·simp only [Act.put, xA, xB, xC, i64_w, i32_w]
  rfl
 refine zp 6 (some 71) ?_ zA39 rfl rfl (Or.inl ⟨by rfl, ?_⟩) ?_ ?_ ?_
 rotate_left
 ·intro w'
  go_simp
  with_reducible rfl
 rotate_left
 ·simp only [Act.put, xA, xB, xC, i64_w, i32_w]
  rfl
 refine zp 7 (some 72) ?_ zA40 rfl rfl (Or.inl ⟨by rfl, ?_⟩) ?_ ?_ ?_
 rotate_left
 ·intro w'
  go_simp
  with_reducible rfl
 rotate_left
 ·simp only [Act.put, xA, xB, xC, i64_w, i32_w]
  rfl
 refine zp 8 (some 73) ?_ zA41 rfl rfl (Or.inl ⟨by rfl, ?_⟩) ?_ ?_ ?_
 rotate_left
 ·intro w'
  go_simp
  with_reducible rfl
 rotate_left
 ·simp only [Act.put, xA, xB, xC, i64_w, i32_w]
  rfl
 refine zp 9 (some 74) ?_ zA42 rfl rfl (Or.inl ⟨by rfl, ?_⟩) ?_ ?_ ?_
 rotate_left
 ·intro w'
  go_simp
  with_reducible rfl
 rotate_left
 ·simp only [Act.put, xA, xB, xC, i64_w, i32_w]
  rfl
 refine zp 10 (some 75) ?_ zA43 rfl rfl (Or.inl ⟨by rfl, ?_⟩) ?_ ?_ ?_
 rotate_left
 ·intro w'
  go_simp
  with_reducible rfl
 rotate_left
 ·simp only [Act.put, xA, xB, xC, i64_w, i32_w]
  rfl
 refine zp 11 (some 76) ?_ zA44 rfl rfl (Or.inl ⟨by rfl, ?_⟩) ?_ ?_ ?_
 rotate_left
 ·intro w'
  go_simp
  with_reducible rfl
 rotate_left
 ·simp only [Act.put, xA, xB, xC, i64_w, i32_w]
  rfl
 refine zu 4 (some 69) ?_ zA45 rfl rfl (Or.inl ⟨by rfl, ?_⟩) hHeld ?_ ?_ ?_
 rotate_left
 ·rintro w' ⟨s0, s1, s2, s3⟩
  go_simp
  with_reducible rfl
 rotate_left
 ·simp only [Act.put, xA, xB, xC, i64_w, i32_w]
  rfl
 refine zp 5 (some 70) ?_ zA46 rfl rfl (Or.inl ⟨by rfl, ?_⟩) ?_ ?_ ?_
 rotate_left
 ·intro w'
  go_simp
  with_reducible rfl
 rotate_left
 ·simp only [Act.put, xA, xB, xC, i64_w, i32_w]
  rfl
 refine zu 12 (some 77) ?_ zA47 rfl rfl (Or.inl ⟨by rfl, ?_⟩) hHeld ?_ ?_ ?_
 rotate_left
 ·rintro w' ⟨s0, s1, s2, s3⟩
  go_simp
  with_reducible rfl
 rotate_left
 ·simp only [Act.put, xA, xB, xC, i64_w, i32_w]
  rfl
 refine zp 13 (some 78) ?_ zA48 rfl rfl (Or.inl ⟨by rfl, ?_⟩) ?_ ?_ ?_
 rotate_left
 ·intro w'
  go_simp
  with_reducible rfl
 rotate_left
 ·simp only [Act.put, xA, xB, xC, i64_w, i32_w]
  rfl
 refine zp 14 (some 79) ?_ zA49 rfl rfl (Or.inl ⟨by rfl, ?_⟩) ?_ ?_ ?_
 rotate_left
 ·intro w'
  go_simp
  with_reducible rfl
 rotate_left
 ·simp only [Act.put, xA, xB, xC, i64_w, i32_w]
  rfl
 refine last_ (i := 15) (N := some 80) zA50 rfl rfl (one_of HT_.out (by kernel_rfl)) (by decide) (fun K hK => ?_)
 refine value_ (w1 := ?_) (v := ?_) (by rfl) rfl ?_ ?_
 rotate_left 2
 ·go_simp
  constructor
  ·rfl
  ·rfl
 refine hK.out _ _ ?_
 clear hK K
 refine norm_ (a' := ?_) ?_ ?_
 rotate_left
 ·show Act.put _ (some 80) _ = _
  simp only [Act.put, xA, xB, xC, i64_w, i32_w]
  rfl
 refine last_ (i := 16) (N := some 81) zA51 rfl rfl (one_of HT_.out (by kernel_rfl)) (by decide) (fun K hK => ?_)
 refine Kd.R_append_step k59 w.heap.size (by rfl) (.tmp 65) (.tmp 80) 24 59 (.agg #[(.int .i64 0), (.int .i64 0)]) 16 rfl Try.underlying24 info59 rfl (by decide) (by omega) (.slice (some ad460) t422.length co97) t422 (⟨wrap64 (((rd_T59 t422 0).f0) + 3), wrap64 (((rd_T59 t422 (ji88)).f1) + 2)⟩ : S59) [.int .i64 (wrap64 (((rd_T59 t422 0).f0) + 3)), .int .i64 (wrap64 (((rd_T59 t422 (ji88)).f1) + 2))] (fun k_ => some k_ ≠ (.slice Ao95 t411.length co95 : Value).ownBlock) (fun _ => False) rfl rfl ?aP (fun _ hk => hk.elim) ?aF ?aO (Below.refl _ _) ?aS ?aL ?_
 (case aP => exact k59_mkM _ _ _ (⟨wrap64 (((rd_T59 t422 0).f0) + 3), wrap64 (((rd_T59 t422 (ji88)).f1) + 2)⟩ : S59))
 (case aF => exact (fun k_ hk => Kd.fresh' (Kd.R_lt (mR_ HO413.out)) k_ hk))
 (case aO => exact (zd1 HO424.out))
 (case aS => exact (keep_size (w := w) (g := g) (row := none) (zK HK.out)))
 (case aL => have := LMc91.out; omega)
 intro v463 w101 ho hb hg hat
 rw [← Ny462.out] at ho
 have n0_ := aM (IsS98.grown (zI98 HI0.out) hg (IsS98.own_ne HI0.out HO424.out (by decide)))
 have n1_ := aM (Kd.R_after (ok := (fun _ => True)) (mR_ HO413.out) hg hat)
 have n2_ := aM (below_weaken (zs (IsS98.ge HI0.out)) HL.out hb)
 have n3_ := aM (KeepBut.trans (zK HK.out) (KeepBut.of_grown hg g) (Kd.R_base2 HO424.out))
 have n4_ := aM (ho)
 clear HI0
 clear HO413
 clear HB
 clear HK
 clear HO424
 have HI0 := n0_
 have HO413 := n1_
 have HB := n2_
 have HK := n3_
 have HO464 := n4_
 clear n0_ n1_ n2_ n3_ n4_
 clear ho hb hg hat
 refine hK.out _ _ ?_
 clear hK K
 refine norm_ (a' := ?_) ?_ ?_
 rotate_left
 ·show Act.put _ (some 81) _ = _
  simp only [Act.put, xA, xB, xC, i64_w, i32_w]
  rfl
 refine zp 17 (some 2) ?_ zA52 rfl rfl (Or.inl ⟨by rfl, ?_⟩) ?_ ?_ ?_
 rotate_left
 ·intro w'
  go_simp
  with_reducible rfl
 rotate_left
 ·simp only [Act.put, xA, xB, xC, i64_w, i32_w]
  rfl
 refine done_ (done_of HT_.out (by kernel_rfl)) ?_
 try go_wp2
 go_ret
 exact ⟨_, by first | rfl | (simp [errW_none, errW_some] <;> rfl) | (simp only [← hji88]; first | rfl | (simp [errW_none, errW_some] <;> rfl)) | (simp [*, errW_none, errW_some] <;> rfl), zd0 HO464.out, zI98 HI0.out, zs (IsS98.ge HI0.out), zK HK.out⟩
end Go.Proofs.Ytfdfdifjkaaeoaa.F
end
section
namespace Go.Proofs.Ytfdfdifjkaaeoaa.F
open Go.RowKit Go.Proofs.YtfdfdifjkaaeoaaW.PrintWords Go.Proofs.YtfdfdifjkaaeoaaW.PrintLast Go.Proofs.YtfdfdifjkaaeoaaW.PrintMore
attribute [local go_sem] max2_int min2_int max_two min_two max_three min_three max_four min_four
set_option linter.unusedVariables false
set_option linter.unusedSimpArgs false
def spec_l01From.l0 : Nat → List Int → Int → List Int → Int → Int → Option (List Int × Int × Int)
 | 0, _, _, _, _, _ => none
 | k + 1, x0, x4, x495000, x495001, x495002 => if x4 < (x0.length : Int) then (if x4 < 64 then (if 0 ≤ x4 then (spec_l01From.l0 k x0 (wrap64 (x4 + 1)) x495000 x495001 (Int.tmod (wrap64 ((wrap64 (x495002 * 47)) + (wrap64 (rd x0 x4)))) 2147483647)) else (none)) else (some (x495000, x495001, x495002))) else (some (x495000, x495001, x495002))
def spec_l01From.f (k : Nat) (l0 : List Int) : Option (List Int × Int × Int) := spec_l01From.l0 k l0 0 l0 0 61003
def spec_l01From.T5 : Bool × List (List Nat × List Nat) := (true, [([], []), ([], []), ([1], [1]), ([2], [2]), ([3], [3]), ([4], [4]), ([], []), ([], []), ([6, 7], [6, 7]), ([8], [8]), ([9], [9]), ([5, 10], [5, 10]), ([11], [11]), ([0, 0, 1, 2, 3, 4, 5, 6, 7, 8, 9, 10, 11, 12], [0]), ([13, 0, 1, 2, 3, 4, 5, 6, 7, 8, 9, 10, 11, 12], [13]), ([14, 12, 0, 1, 2, 3, 4, 5, 6, 7, 8, 9, 10, 11, 12], [12, 14])])
def spec_l01From.B5 : List Nat := [0, 0, 2, 6, 14, 30, 0, 0, 192, 448, 960, 2046, 4094, 8191, 16383, 32767]
theorem spec_l01From.tab5 : rtab .any (opsOf Try.f64 5) = spec_l01From.T5 := by kernel_rfl
theorem spec_l01From.bits5 : waitsOk spec_l01From.T5.2 spec_l01From.B5 = true := by kernel_rfl
end Go.Proofs.Ytfdfdifjkaaeoaa.F
end
