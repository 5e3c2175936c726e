/- The row of FnHoles, with what it needs: text 4 of 12. -/
import Derived.Test.YtaecheolnpofeaaJ2
set_option maxHeartbeats 8000000
set_option maxRecDepth 100000
section
namespace Go.Proofs.Ytaecheolnpofeaa.F
open Go.RowKit Go.Proofs.YtaecheolnpofeaaW.PrintWords Go.Proofs.YtaecheolnpofeaaW.PrintLast Go.Proofs.YtaecheolnpofeaaW.PrintMore
attribute [local go_sem] max2_int min2_int max_two min_two max_three min_three max_four min_four
set_option linter.unusedVariables false
set_option linter.unusedSimpArgs false
theorem spec_l02Neighbours.calls (k : Nat) (A0 : Option Addr) (c0 : Nat) (l0 : List (S44)) (r : List (S44)) (w : World) (hr0 : Kd.C k44 w A0 l0.length l0) (hc0 : l0.length ≤ c0) (h : spec_l02Neighbours.f k l0 = some r) :
  Calls Try.prog 81 #[.slice A0 l0.length c0] w fun e w' => ∃ v0_ : Value, e = .returned (v0_) ∧ Kd.R k44 44 w' w.heap.size (fun _ => True) v0_ r ∧ Below w.heap.size w w' := by
 have hu44 := Try.underlying44
 have HR0 := aM hr0
 have HC0 := aM hc0
 clear hr0 hc0
 have HB := aM (Below.refl w.heap.size w)
 have H : (spec_l02Neighbours.l0 k l0 (([] : List (S44))) 0) = some r := h
 clear h
 obtain ⟨y240, hy240⟩ : ∃ y_ : List (S44), y_ = (([] : List (S44))) := ⟨_, rfl⟩
 replace H : (spec_l02Neighbours.l0 k l0 y240 0) = some r := zy H hy240
 have Ny240 := aM hy240
 clear hy240
 have H' := aM H
 clear H
 go_enter Try.func81, Try.ntmps81
 go_wp2_with (first | ((with_reducible refine gate_dst (N := 7) rfl ?_); refine Kd.R_lit k44 _ 44 ?hg (N := 7) ?hd (xs := ([] : List (S44))) (inner := []) (ok := fun _ => True) (okp := fun _ => True) ?hr ?hp (fun _ hk => hk) trivial (Below.refl _ _) (Nat.le_refl _) (by simp) ?_; (case hd => rfl); (case hg => rfl); (case hr => first | (go_simp; done) | (go_simp; rfl)); (case hp => exact (Reps.none _ _)); intro v241 w2 ho3 hb hg_ hnew_; clear hg_ hnew_; (first | rw [← Ny240.out] at ho3 | (simp only [Int.reduceToNat] at ho3; rw [← Ny240.out] at ho3)); have n0_ := aM (Kd.R_lower ho3 (below_size zb)); have n1_ := aM (below_step zb hb); clear HB; have HO242 := n0_; have HB := n1_; clear n0_ n1_; clear hb ho3))
 go_loopg [3, 4] k (fun kq v3 v4 w' => ∃ (x3_1 : List (S44)) (x4_1 : Int), v4 = .int .i64 x4_1 ∧ Aside0 (spec_l02Neighbours.l0 kq l0 x3_1 x4_1 = some r) ∧ Aside0 (kq ≤ k) ∧ Aside0 (Kd.R k44 44 w' w.heap.size (fun _ => True) v3 x3_1) ∧ Aside0 (Below w.heap.size w w'))
 case atStart => exact ⟨(y240), (0), zr, H', ⟨Nat.le_refl _⟩, ⟨mR_ HO242.out⟩, ⟨zb⟩⟩
 case round =>
  clear H'
  try clear p2
  obtain ⟨x3_1, x4_1, rfl, HA, HK1, HO_3, HB⟩ := hrel
  cases gk with
  | zero => exact absurd HA.out (by simp [spec_l02Neighbours.l0])
  | succ k1 =>
   have H := HA.out
   clear HA
   simp only [spec_l02Neighbours.l0] at H
   by_cases c4 : x4_1 < (l0.length : Int)
   rotate_left
   ·rw [if_neg c4] at H
    have c4b0 : decide (x4_1 < (l0.length : Int)) = false := decide_eq_false c4
    clear c4
    obtain rfl := Option.some.inj H
    go_wp2
    go_ret
    exact ⟨_, zw, mR_ HO_3.out, zb⟩
   rw [if_pos c4] at H
   have c4b0 : decide (x4_1 < (l0.length : Int)) = true := decide_eq_true c4
   clear c4
   by_cases c5 : 0 ≤ x4_1
   rotate_left
   ·rw [if_neg c5] at H
    exact absurd H (by simp)
   rw [if_pos c5] at H
   have c5b0 : decide (0 ≤ x4_1) = true := decide_eq_true c5
   clear c5
   replace H := Option.bind_eq_some_iff.mp H
   obtain ⟨t244, A60, H⟩ := H
   replace H : (spec_l02Neighbours.l1 k1 l0 x3_1 x4_1 t244 0) = some r := H
   have A6 := aM A60
   clear A60
   have H' := aM H
   clear H
   have p243 : 0 ≤ (x4_1 : Int) := of_decide_eq_true za
   have q243 : x4_1 < (l0.length : Int) := of_decide_eq_true za
   obtain ⟨ad243, e243, hx243_0, hx243_1⟩ := at_T44 HR0.out x4_1 p243 q243
   cases e243
   replace hx243_0 := zk HB.out hx243_0
   replace hx243_1 := zk HB.out hx243_1
   replace p243 := eq_true p243
   replace q243 := eq_true q243
   go_wp2_with (first | ((with_reducible refine gate_callee (f := 60) rfl ?_); refine goesL_ (some 18) rfl rfl Try.func60 (by kernel_rfl) rfl #[.agg #[.int .i64 ((rd_T44 l0 x4_1).f0), .int .i64 ((rd_T44 l0 x4_1).f1)]] rfl zm ?_; (with_reducible refine (spec_l02Around.calls ((rd_T44 l0 x4_1).f0) ((rd_T44 l0 x4_1).f1) t244 _ A6.out).mono ?_); rintro e w7 ⟨v245, rfl, ho0, hb⟩; refine ⟨_, rfl, ?_⟩; have n0_ := aM (Kd.R_elder' (mR_ HO_3.out) (Kd.R_base ho0) hb); have n1_ := aM (Kd.R_lower (Kd.R_new' ho0 (Kd.R_lt (mR_ HO_3.out))) (below_size zb)); have n2_ := aM (below_step zb hb); clear HO_3 HB; have HO_3 := n0_; have HO246 := n1_; have HB := n2_; clear n0_ n1_ n2_; (try clear hb); (try clear hb2); (try clear hk); (try clear hi); (try clear ho0)))
   go_loopg [3, 6] k1 (fun kq v3 v6 w' => ∃ (x3_2 : List (S44)) (x6_2 : Int), v6 = .int .i64 x6_2 ∧ Aside0 (spec_l02Neighbours.l1 kq l0 x3_2 x4_1 t244 x6_2 = some r) ∧ Aside0 (kq ≤ k1) ∧ Aside0 (Kd.R k44 44 w' w.heap.size (fun k_ => some k_ ≠ (v245 : Value).ownBlock) v3 x3_2) ∧ Aside0 (Kd.R k44 44 w' w.heap.size (fun k_ => some k_ ≠ (v3 : Value).ownBlock) v245 t244) ∧ Aside0 (Below w.heap.size w w'))
   case atStart => exact ⟨(x3_1), (0), zr, H', ⟨Nat.le_refl _⟩, ⟨zd0 HO_3.out⟩, ⟨zd0 HO246.out⟩, ⟨zb⟩⟩
   case round =>
    clear H'
    try clear p2
    try clear q2
    try clear hx2
    try clear c4
    try clear c4b0
    try clear c5
    try clear c5b0
    try clear c6
    try clear hx243_0
    try clear hx243_1
    try clear p2
    try clear p243
    try clear q243
    obtain ⟨x3_2, x6_2, rfl, HA, HK2, HO_3, HO_5, HB⟩ := hrel
    cases gk with
    | zero => exact absurd HA.out (by simp [spec_l02Neighbours.l1])
    | succ k2 =>
     have H := HA.out
     clear HA
     simp only [spec_l02Neighbours.l1] at H
     by_cases c8 : x6_2 < 4
     rotate_left
     ·rw [if_neg c8] at H
      have c8b0 : decide (x6_2 < 4) = false := decide_eq_false c8
      clear c8
      have H' := aM H
      clear H
      go_wp2
      go_roundg k2
      case measure => have := HK1.out; have := HK2.out; omega
      case rel => exact ⟨(x3_2), (wrap64 (x4_1 + 1)), zr, H', ⟨by have := HK1.out; have := HK2.out; omega⟩, ⟨zd1 HO_3.out⟩, ⟨zb⟩⟩
     rw [if_pos c8] at H
     have c8b0 : decide (x6_2 < 4) = true := decide_eq_true c8
     clear c8
     by_cases c9 : 0 ≤ x6_2
     rotate_left
     ·rw [if_neg c9] at H
      exact absurd H (by simp)
     rw [if_pos c9] at H
     have c9b0 : decide (0 ≤ x6_2) = true := decide_eq_true c9
     clear c9
     by_cases c10 : x6_2 < (t244.length : Int)
     rotate_left
     ·rw [if_neg c10] at H
      exact absurd H (by simp)
     rw [if_pos c10] at H
     have c10b0 : decide (x6_2 < (t244.length : Int)) = true := decide_eq_true c10
     clear c10
     replace H := Option.bind_eq_some_iff.mp H
     obtain ⟨t248, A110, H⟩ := H
     replace H : (if t248 < 0 then ((spec_l02Index.f k2 x3_2 ((rd_T44 t244 x6_2).f0) ((rd_T44 t244 x6_2).f1)).bind fun t250 => (if t250 < 0 then ((spec_l02Insert.f k2 x3_2 ((rd_T44 t244 x6_2).f0) ((rd_T44 t244 x6_2).f1)).bind fun t252 => (spec_l02Neighbours.l1 k2 l0 t252 x4_1 t244 (wrap64 (x6_2 + 1)))) else (spec_l02Neighbours.l1 k2 l0 x3_2 x4_1 t244 (wrap64 (x6_2 + 1))))) else (spec_l02Neighbours.l1 k2 l0 x3_2 x4_1 t244 (wrap64 (x6_2 + 1)))) = some r := H
     have A11 := aM A110
     clear A110
     by_cases c12 : t248 < 0
     rotate_left
     ·rw [if_neg c12] at H
      have c12b0 : decide (t248 < 0) = false := decide_eq_false c12
      clear c12
      have H' := aM H
      clear H
      obtain ⟨Ao25, co25, eo25⟩ := Kd.R_slice HO_5.out
      subst eo25
      have p247 : 0 ≤ (x6_2 : Int) := of_decide_eq_true za
      have q247 : x6_2 < (t244.length : Int) := of_decide_eq_true za
      obtain ⟨ad247, e247, hx247_0, hx247_1⟩ := at_T44 (Kd.R_reads' HO_5.out).2.2 x6_2 p247 q247
      cases e247
      replace p247 := eq_true p247
      replace q247 := eq_true q247
      go_wp2_with (first | ((with_reducible refine gate_callee (f := 33) rfl ?_); refine goesL_ (some 28) rfl rfl Try.func33 (by kernel_rfl) rfl #[.slice (some ad243) l0.length c0, .agg #[.int .i64 ((rd_T44 t244 x6_2).f0), .int .i64 ((rd_T44 t244 x6_2).f1)]] rfl zm ?_; (with_reducible refine (spec_l02Index.calls k2 _ _ l0 ((rd_T44 t244 x6_2).f0) ((rd_T44 t244 x6_2).f1) t248 _ ?side1 ?side2 A11.out).mono ?_); (case side1 => repeat (first | exact (Kd.C_below HR0.out HB.out) | (with_reducible refine Kd.C_alloc ?_ _) | (with_reducible refine Kd.C_drewN ?_ _) | (with_reducible refine Kd.C_drew ?_))); (case side2 => exact HC0.out); rintro e w26 ⟨rfl, hb⟩; refine ⟨_, rfl, ?_⟩; have n0_ := aM (Kd.R_below (mR_ HO_3.out) hb); have n1_ := aM (Kd.R_below (mR_ HO_5.out) hb); have n2_ := aM (below_step zb hb); clear HO_3 HO_5 HB; have HO_3 := n0_; have HO_5 := n1_; have HB := n2_; clear n0_ n1_ n2_; (try clear hb); (try clear hb2); (try clear hk); (try clear hi)))
      go_roundg k2
      case measure => have := HK1.out; have := HK2.out; omega
      case rel => exact ⟨(x3_2), (wrap64 (x6_2 + 1)), zr, H', ⟨by have := HK1.out; have := HK2.out; omega⟩, ⟨mR_ HO_3.out⟩, ⟨mR_ HO_5.out⟩, ⟨zb⟩⟩
     rw [if_pos c12] at H
     have c12b0 : decide (t248 < 0) = true := decide_eq_true c12
     clear c12
     replace H := Option.bind_eq_some_iff.mp H
     obtain ⟨t250, A130, H⟩ := H
     replace H : (if t250 < 0 then ((spec_l02Insert.f k2 x3_2 ((rd_T44 t244 x6_2).f0) ((rd_T44 t244 x6_2).f1)).bind fun t252 => (spec_l02Neighbours.l1 k2 l0 t252 x4_1 t244 (wrap64 (x6_2 + 1)))) else (spec_l02Neighbours.l1 k2 l0 x3_2 x4_1 t244 (wrap64 (x6_2 + 1)))) = some r := H
     have A13 := aM A130
     clear A130
     by_cases c14 : t250 < 0
     rotate_left
     ·rw [if_neg c14] at H
      have c14b0 : decide (t250 < 0) = false := decide_eq_false c14
      clear c14
      have H' := aM H
      clear H
      obtain ⟨Ao21, co21, eo21⟩ := Kd.R_slice HO_5.out
      subst eo21
      have p247 : 0 ≤ (x6_2 : Int) := of_decide_eq_true za
      have q247 : x6_2 < (t244.length : Int) := of_decide_eq_true za
      obtain ⟨ad247, e247, hx247_0, hx247_1⟩ := at_T44 (Kd.R_reads' HO_5.out).2.2 x6_2 p247 q247
      cases e247
      replace p247 := eq_true p247
      replace q247 := eq_true q247
      go_wp2_with (first | ((with_reducible refine gate_callee (f := 33) rfl ?_); refine goesL_ (some 28) rfl rfl Try.func33 (by kernel_rfl) rfl #[.slice (some ad243) l0.length c0, .agg #[.int .i64 ((rd_T44 t244 x6_2).f0), .int .i64 ((rd_T44 t244 x6_2).f1)]] rfl zm ?_; (with_reducible refine (spec_l02Index.calls k2 _ _ l0 ((rd_T44 t244 x6_2).f0) ((rd_T44 t244 x6_2).f1) t248 _ ?side1 ?side2 A11.out).mono ?_); (case side1 => repeat (first | exact (Kd.C_below HR0.out HB.out) | (with_reducible refine Kd.C_alloc ?_ _) | (with_reducible refine Kd.C_drewN ?_ _) | (with_reducible refine Kd.C_drew ?_))); (case side2 => exact HC0.out); rintro e w22 ⟨rfl, hb⟩; refine ⟨_, rfl, ?_⟩; have n0_ := aM (Kd.R_below (mR_ HO_3.out) hb); have n1_ := aM (Kd.R_below (mR_ HO_5.out) hb); have n2_ := aM (below_step zb hb); clear HO_3 HO_5 HB; have HO_3 := n0_; have HO_5 := n1_; have HB := n2_; clear n0_ n1_ n2_; (try clear hb); (try clear hb2); (try clear hk); (try clear hi); have p249 : 0 ≤ (x6_2 : Int) := of_decide_eq_true za; have q249 : x6_2 < (t244.length : Int) := of_decide_eq_true za; obtain ⟨ad249, e249, hx249_0, hx249_1⟩ := at_T44 (Kd.R_reads' HO_5.out).2.2 x6_2 p249 q249; obtain rfl : ad247 = ad249 := (by injection e249); replace p249 := eq_true p249; replace q249 := eq_true q249; obtain ⟨Ao23, co23, eo23⟩ := Kd.R_slice HO_3.out; subst eo23) | (go_at_call 33; (with_reducible refine (spec_l02Index.calls k2 _ _ x3_2 ((rd_T44 t244 x6_2).f0) ((rd_T44 t244 x6_2).f1) t250 _ ?side1 ?side2 A13.out).mono ?_); (case side1 => exact zc HO_3.out); (case side2 => exact (Kd.R_reads' HO_3.out).2.1); rintro e w24 ⟨rfl, hb⟩; have n0_ := aM (Kd.R_below (mR_ HO_3.out) hb); have n1_ := aM (Kd.R_below (mR_ HO_5.out) hb); have n2_ := aM (below_step zb hb); clear HO_3 HO_5 HB; have HO_3 := n0_; have HO_5 := n1_; have HB := n2_; clear n0_ n1_ n2_; (try clear hb); (try clear hb2); (try clear hk); (try clear hi)))
      go_roundg k2
      case measure => have := HK1.out; have := HK2.out; omega
      case rel => exact ⟨(x3_2), (wrap64 (x6_2 + 1)), zr, H', ⟨by have := HK1.out; have := HK2.out; omega⟩, ⟨mR_ HO_3.out⟩, ⟨mR_ HO_5.out⟩, ⟨zb⟩⟩
     rw [if_pos c14] at H
     have c14b0 : decide (t250 < 0) = true := decide_eq_true c14
     clear c14
     replace H := Option.bind_eq_some_iff.mp H
     obtain ⟨t252, A150, H⟩ := H
     replace H : (spec_l02Neighbours.l1 k2 l0 t252 x4_1 t244 (wrap64 (x6_2 + 1))) = some r := H
     have A15 := aM A150
     clear A150
     have H' := aM H
     clear H
     obtain ⟨Ao16, co16, eo16⟩ := Kd.R_slice HO_5.out
     subst eo16
     have p247 : 0 ≤ (x6_2 : Int) := of_decide_eq_true za
     have q247 : x6_2 < (t244.length : Int) := of_decide_eq_true za
     obtain ⟨ad247, e247, hx247_0, hx247_1⟩ := at_T44 (Kd.R_reads' HO_5.out).2.2 x6_2 p247 q247
     cases e247
     replace p247 := eq_true p247
     replace q247 := eq_true q247
     go_wp2_with (first | ((with_reducible refine gate_callee (f := 33) rfl ?_); refine goesL_ (some 28) rfl rfl Try.func33 (by kernel_rfl) rfl #[.slice (some ad243) l0.length c0, .agg #[.int .i64 ((rd_T44 t244 x6_2).f0), .int .i64 ((rd_T44 t244 x6_2).f1)]] rfl zm ?_; (with_reducible refine (spec_l02Index.calls k2 _ _ l0 ((rd_T44 t244 x6_2).f0) ((rd_T44 t244 x6_2).f1) t248 _ ?side1 ?side2 A11.out).mono ?_); (case side1 => repeat (first | exact (Kd.C_below HR0.out HB.out) | (with_reducible refine Kd.C_alloc ?_ _) | (with_reducible refine Kd.C_drewN ?_ _) | (with_reducible refine Kd.C_drew ?_))); (case side2 => exact HC0.out); rintro e w17 ⟨rfl, hb⟩; refine ⟨_, rfl, ?_⟩; have n0_ := aM (Kd.R_below (mR_ HO_3.out) hb); have n1_ := aM (Kd.R_below (mR_ HO_5.out) hb); have n2_ := aM (below_step zb hb); clear HO_3 HO_5 HB; have HO_3 := n0_; have HO_5 := n1_; have HB := n2_; clear n0_ n1_ n2_; (try clear hb); (try clear hb2); (try clear hk); (try clear hi); have p249 : 0 ≤ (x6_2 : Int) := of_decide_eq_true za; have q249 : x6_2 < (t244.length : Int) := of_decide_eq_true za; obtain ⟨ad249, e249, hx249_0, hx249_1⟩ := at_T44 (Kd.R_reads' HO_5.out).2.2 x6_2 p249 q249; obtain rfl : ad247 = ad249 := (by injection e249); replace p249 := eq_true p249; replace q249 := eq_true q249; obtain ⟨Ao18, co18, eo18⟩ := Kd.R_slice HO_3.out; subst eo18) | (go_at_call 33; (with_reducible refine (spec_l02Index.calls k2 _ _ x3_2 ((rd_T44 t244 x6_2).f0) ((rd_T44 t244 x6_2).f1) t250 _ ?side1 ?side2 A13.out).mono ?_); (case side1 => exact zc HO_3.out); (case side2 => exact (Kd.R_reads' HO_3.out).2.1); rintro e w19 ⟨rfl, hb⟩; have n0_ := aM (Kd.R_below (mR_ HO_3.out) hb); have n1_ := aM (Kd.R_below (mR_ HO_5.out) hb); have n2_ := aM (below_step zb hb); clear HO_3 HO_5 HB; have HO_3 := n0_; have HO_5 := n1_; have HB := n2_; clear n0_ n1_ n2_; (try clear hb); (try clear hb2); (try clear hk); (try clear hi); have p251 : 0 ≤ (x6_2 : Int) := of_decide_eq_true za; have q251 : x6_2 < (t244.length : Int) := of_decide_eq_true za; obtain ⟨ad251, e251, hx251_0, hx251_1⟩ := at_T44 (Kd.R_reads' HO_5.out).2.2 x6_2 p251 q251; obtain rfl : ad247 = ad251 := (by injection e251); replace p251 := eq_true p251; replace q251 := eq_true q251) | ((with_reducible refine gate_callee (f := 69) rfl ?_); refine goesL_ (some 44) rfl rfl Try.func69 (by kernel_rfl) rfl #[.slice Ao18 x3_2.length co18, .agg #[.int .i64 ((rd_T44 t244 x6_2).f0), .int .i64 ((rd_T44 t244 x6_2).f1)]] rfl zm ?_; (with_reducible refine (spec_l02Insert.calls k2 _ _ x3_2 ((rd_T44 t244 x6_2).f0) ((rd_T44 t244 x6_2).f1) t252 _ ?side1 ?side2 A15.out).mono ?_); (case side1 => exact zc HO_3.out); (case side2 => exact (Kd.R_reads' HO_3.out).2.1); rintro e w20 ⟨v253, rfl, ho0, hb⟩; refine ⟨_, rfl, ?_⟩; have n0_ := aM (Kd.R_elder' (mR_ HO_3.out) (Kd.R_base ho0) hb); have n1_ := aM (Kd.R_elder' (mR_ HO_5.out) (Kd.R_base ho0) hb); have n2_ := aM (Kd.R_lower (Kd.R_new' (Kd.R_new' ho0 (Kd.R_lt (mR_ HO_3.out))) (Kd.R_lt (mR_ HO_5.out))) (below_size zb)); have n3_ := aM (below_step zb hb); clear HO_3 HO_5 HB; have HO_3 := n0_; have HO_5 := n1_; have HO254 := n2_; have HB := n3_; clear n0_ n1_ n2_ n3_; (try clear hb); (try clear hb2); (try clear hk); (try clear hi); (try clear ho0)))
     go_roundg k2
     case measure => have := HK1.out; have := HK2.out; omega
     case rel => exact ⟨(t252), (wrap64 (x6_2 + 1)), zr, H', ⟨by have := HK1.out; have := HK2.out; omega⟩, ⟨zd0 HO254.out⟩, ⟨zd0 HO_5.out⟩, ⟨zb⟩⟩
def spec_l02DrawPoly.l0 : Nat → List (S44) → Int → List Int → Int → Int → Option ((List (S44)) × Int × Int)
 | 0, _, _, _, _, _ => none
 | k + 1, x5, x6, x1000, x1001, x1002 => if x6 > 0 then ((spec_l02Neighbours.f k x5).bind fun t261 => ((spec_l01Next.f x1000 x1001 x1002 (t261.length : Int)).bind fun bt264 => (if 0 ≤ bt264.1 then (if bt264.1 < (t261.length : Int) then ((spec_l02Insert.f k x5 ((rd_T44 t261 bt264.1).f0) ((rd_T44 t261 bt264.1).f1)).bind fun t268 => (spec_l02DrawPoly.l0 k t268 (wrap64 (x6 - 1)) x1000 bt264.2.1 bt264.2.2)) else (none)) else (none)))) else ((spec_l02Normal.f k x5).bind fun t271 => (some (t271, x1001, x1002)))
def spec_l02DrawPoly.f (k : Nat) (s0_0 : List Int) (s0_1 : Int) (s0_2 : Int) (a1 : Int) : Option ((List (S44)) × Int × Int) := (spec_l01Next.f s0_0 s0_1 s0_2 a1).bind fun bt258 => (spec_l02DrawPoly.l0 k (([(⟨0, 0⟩ : S44)] : List (S44))) bt258.1 s0_0 bt258.2.1 bt258.2.2)
theorem spec_l02DrawPoly.calls (k : Nat) (g : Nat) (s0_0 : List Int) (s0_1 : Int) (s0_2 : Int) (a1 : Int) (r1 : List (S44)) (r2 : Int) (r3 : Int) (w0 w : World) (hI : IsS68 w0 w g s0_0 s0_1 s0_2) (hB : Below w0.heap.size w0 w) (h : spec_l02DrawPoly.f k s0_0 s0_1 s0_2 a1 = some (r1, r2, r3)) :
  Calls Try.prog 75 #[.pointer (some ⟨g, 0, none⟩), .int .i64 a1] w fun e w' => ∃ v0_ : Value, e = .returned (v0_) ∧ Kd.R k44 44 w' w.heap.size (fun _ => True) v0_ r1 ∧ IsS68 w0 w' g s0_0 r2 r3 ∧ Below w0.heap.size w0 w' ∧ KeepBut w w' g none := by
 have hu44 := Try.underlying44
 have HI0 := aM hI
 have HK := aM (KeepBut.refl w g none)
 have HL := aM hB.size
 clear hI
 have HW0 := aM hB.size
 have HB := aM hB
 clear hB
 have H : ((spec_l01Next.f s0_0 s0_1 s0_2 a1).bind fun bt258 => (spec_l02DrawPoly.l0 k (([(⟨0, 0⟩ : S44)] : List (S44))) bt258.1 s0_0 bt258.2.1 bt258.2.2)) = some (r1, r2, r3) := h
 clear h
 obtain ⟨y255, hy255⟩ : ∃ y_ : List (S44), y_ = (([(⟨0, 0⟩ : S44)] : List (S44))) := ⟨_, rfl⟩
 replace H : ((spec_l01Next.f s0_0 s0_1 s0_2 a1).bind fun bt258 => (spec_l02DrawPoly.l0 k y255 bt258.1 s0_0 bt258.2.1 bt258.2.2)) = some (r1, r2, r3) := zy H hy255
 have Ny255 := aM hy255
 clear hy255
 replace H := Option.bind_eq_some_iff.mp H
 obtain ⟨⟨t258, t259, t260⟩, A30, H⟩ := H
 replace H : (spec_l02DrawPoly.l0 k y255 t258 s0_0 t259 t260) = some (r1, r2, r3) := H
 have A3 := aM A30
 clear A30
 have H' := aM H
 clear H
 go_enter Try.func75, Try.ntmps75
 go_wp2_with (first | ((with_reducible refine gate_dst (N := 9) rfl ?_); refine Kd.R_lit k44 _ 44 ?hg (N := 9) ?hd (xs := ([(⟨0, 0⟩ : S44)] : List (S44))) (inner := [.int .i64 0, .int .i64 0]) (ok := fun _ => True) (okp := fun _ => True) ?hr ?hp (fun _ hk => hk) trivial (Below.refl _ _) (Nat.le_refl _) (by simp) ?_; (case hd => rfl); (case hg => rfl); (case hr => first | (go_simp; done) | (go_simp; rfl)); (case hp => exact (Reps.c2 (show Kd.M k44 _ _ _ (⟨0, 0⟩ : S44) [.int .i64 0, .int .i64 0] from (k44_mkM _ _ _ (⟨0, 0⟩ : S44) )) (Reps.none _ _))); intro v256 w4 ho5 hb hg_ hnew_; clear hg_ hnew_; (first | rw [← Ny255.out] at ho5 | (simp only [Int.reduceToNat] at ho5; rw [← Ny255.out] at ho5)); have n0_ := aM (Kd.R_lower ho5 (keep_size (w := w) (g := g) (row := none) (zK HK.out))); have n1_ := aM (IsS68.below (zI68 HI0.out) hb); have n2_ := aM (KeepBut.trans (zK HK.out) (KeepBut.of_below hb g none) (.inl rfl)); have n3_ := aM (below_step (zs (IsS68.ge HI0.out)) hb); clear HI0 HK HB; have HO257 := n0_; have HI0 := n1_; have HK := n2_; have HB := n3_; clear n0_ n1_ n2_ n3_; clear hb ho5) | ((with_reducible refine gate_callee (f := 50) rfl ?_); refine goesL_ (some 12) rfl rfl Try.func50 (by kernel_rfl) rfl #[.pointer (some ⟨g, 0, none⟩), .int .i64 a1] rfl zm ?_; (with_reducible refine (spec_l01Next.calls g s0_0 s0_1 s0_2 a1 t258 t259 t260 w0 _ ?side1 ?side2 A3.out).mono ?_); (case side1 => exact zI68 HI0.out); (case side2 => exact zs (IsS68.ge HI0.out)); rintro e w6 ⟨rfl, hi, hb, hk⟩; refine ⟨_, rfl, ?_⟩; have n0_ := aM (Kd.R_mono (Kd.R_keep (IsS68.apart (show IsS68 w0 _ g s0_0 s0_1 s0_2 from zI68 HI0.out) (mR_ HO257.out) (by decide)) hk (fun _ h => h.2)) (fun _ h => h.1)); have n1_ := aM (KeepBut.trans (zK HK.out) hk (.inl rfl)); have n2_ := aM (hb); have n3_ := aM (hi); clear HO257 HK HB HI0; have HO257 := n0_; have HK := n1_; have HB := n2_; have HI0 := n3_; clear n0_ n1_ n2_ n3_; (try clear hb); (try clear hb2); (try clear hk); (try clear hi)))
 go_loopg [5, 6] k (fun kq v5 v6 w' => ∃ (x5_1 : List (S44)) (x6_1 : Int) (x1001_1 : Int) (x1002_1 : Int), v6 = .int .i64 x6_1 ∧ Aside0 (spec_l02DrawPoly.l0 kq x5_1 x6_1 s0_0 x1001_1 x1002_1 = some (r1, r2, r3)) ∧ Aside0 (kq ≤ k) ∧ Aside0 (Kd.R k44 44 w' w.heap.size (fun _ => True) v5 x5_1) ∧ Aside0 (IsS68 w0 w' g s0_0 x1001_1 x1002_1) ∧ Aside0 (KeepBut w w' g none) ∧ Aside0 (Below w0.heap.size w0 w'))
 case atStart => exact ⟨(y255), (t258), (t259), (t260), zr, H', ⟨Nat.le_refl _⟩, ⟨mR_ HO257.out⟩, ⟨zI68 HI0.out⟩, ⟨zK HK.out⟩, ⟨zs (IsS68.ge HI0.out)⟩⟩
 case round =>
  clear H'
  try clear c2
  try clear p2
  try clear c5
  obtain ⟨x5_1, x6_1, x1001_1, x1002_1, rfl, HA, HK1, HO_5, HI0, HK, HB⟩ := hrel
  cases gk with
  | zero => exact absurd HA.out (by simp [spec_l02DrawPoly.l0])
  | succ k1 =>
   have H := HA.out
   clear HA
   simp only [spec_l02DrawPoly.l0] at H
   by_cases c7 : x6_1 > 0
   rotate_left
   ·rw [if_neg c7] at H
    have c7b0 : decide (0 < x6_1) = false := decide_eq_false c7
    clear c7
    replace H := Option.bind_eq_some_iff.mp H
    obtain ⟨t271, A180, H⟩ := H
    replace H : (some (t271, x1001_1, x1002_1)) = some (r1, r2, r3) := H
    have A18 := aM A180
    clear A180
    simp only [Option.some.injEq, Prod.mk.injEq] at H
    obtain ⟨rfl, rfl, rfl⟩ := H
    obtain ⟨Ao19, co19, eo19⟩ := Kd.R_slice HO_5.out
    subst eo19
    go_wp2_with (first | ((with_reducible refine gate_callee (f := 76) rfl ?_); refine goesL_ (some 29) rfl rfl Try.func76 (by kernel_rfl) rfl #[.slice Ao19 x5_1.length co19] rfl zm ?_; (with_reducible refine (spec_l02Normal.calls k1 _ _ x5_1 t271 _ ?side1 ?side2 A18.out).mono ?_); (case side1 => exact zc HO_5.out); (case side2 => exact (Kd.R_reads' HO_5.out).2.1); rintro e w20 ⟨v272, rfl, ho0, hb⟩; refine ⟨_, rfl, ?_⟩; have n0_ := aM (Kd.R_elder' (mR_ HO_5.out) (Kd.R_base ho0) hb); have n1_ := aM (Kd.R_lower (Kd.R_new' ho0 (Kd.R_lt (mR_ HO_5.out))) (keep_size (w := w) (g := g) (row := none) (zK HK.out))); have n2_ := aM (IsS68.below (zI68 HI0.out) hb); have n3_ := aM (KeepBut.trans (zK HK.out) (KeepBut.of_below hb g none) (.inl rfl)); have n4_ := aM (below_step (zs (IsS68.ge HI0.out)) hb); clear HO_5 HI0 HK HB; have HO_5 := n0_; have HO273 := n1_; have HI0 := n2_; have HK := n3_; have HB := n4_; clear n0_ n1_ n2_ n3_ n4_; (try clear hb); (try clear hb2); (try clear hk); (try clear hi); (try clear ho0)))
    go_ret
    exact ⟨_, zw, zd1 HO273.out, zI68 HI0.out, zs (IsS68.ge HI0.out), zK HK.out⟩
   rw [if_pos c7] at H
   have c7b0 : decide (0 < x6_1) = true := decide_eq_true c7
   clear c7
   replace H := Option.bind_eq_some_iff.mp H
   obtain ⟨t261, A80, H⟩ := H
   replace H : ((spec_l01Next.f s0_0 x1001_1 x1002_1 (t261.length : Int)).bind fun bt264 => (if 0 ≤ bt264.1 then (if bt264.1 < (t261.length : Int) then ((spec_l02Insert.f k1 x5_1 ((rd_T44 t261 bt264.1).f0) ((rd_T44 t261 bt264.1).f1)).bind fun t268 => (spec_l02DrawPoly.l0 k1 t268 (wrap64 (x6_1 - 1)) s0_0 bt264.2.1 bt264.2.2)) else (none)) else (none))) = some (r1, r2, r3) := H
   have A8 := aM A80
   clear A80
   replace H := Option.bind_eq_some_iff.mp H
   obtain ⟨⟨t264, t265, t266⟩, A90, H⟩ := H
   replace H : (if 0 ≤ t264 then (if t264 < (t261.length : Int) then ((spec_l02Insert.f k1 x5_1 ((rd_T44 t261 t264).f0) ((rd_T44 t261 t264).f1)).bind fun t268 => (spec_l02DrawPoly.l0 k1 t268 (wrap64 (x6_1 - 1)) s0_0 t265 t266)) else (none)) else (none)) = some (r1, r2, r3) := H
   have A9 := aM A90
   clear A90
   by_cases c10 : 0 ≤ t264
   rotate_left
   ·rw [if_neg c10] at H
    exact absurd H (by simp)
   rw [if_pos c10] at H
   have c10b0 : decide (0 ≤ t264) = true := decide_eq_true c10
   clear c10
   by_cases c11 : t264 < (t261.length : Int)
   rotate_left
   ·rw [if_neg c11] at H
    exact absurd H (by simp)
   rw [if_pos c11] at H
   have c11b0 : decide (t264 < (t261.length : Int)) = true := decide_eq_true c11
   clear c11
   replace H := Option.bind_eq_some_iff.mp H
   obtain ⟨t268, A120, H⟩ := H
   replace H : (spec_l02DrawPoly.l0 k1 t268 (wrap64 (x6_1 - 1)) s0_0 t265 t266) = some (r1, r2, r3) := H
   have A12 := aM A120
   clear A120
   have H' := aM H
   clear H
   obtain ⟨Ao13, co13, eo13⟩ := Kd.R_slice HO_5.out
   subst eo13
   go_wp2_with (first | ((with_reducible refine gate_callee (f := 81) rfl ?_); refine goesL_ (some 18) rfl rfl Try.func81 (by kernel_rfl) rfl #[.slice Ao13 x5_1.length co13] rfl zm ?_; (with_reducible refine (spec_l02Neighbours.calls k1 _ _ x5_1 t261 _ ?side1 ?side2 A8.out).mono ?_); (case side1 => exact zc HO_5.out); (case side2 => exact (Kd.R_reads' HO_5.out).2.1); rintro e w14 ⟨v262, rfl, ho0, hb⟩; refine ⟨_, rfl, ?_⟩; have n0_ := aM (Kd.R_elder' (mR_ HO_5.out) (Kd.R_base ho0) hb); have n1_ := aM (Kd.R_lower (Kd.R_new' ho0 (Kd.R_lt (mR_ HO_5.out))) (keep_size (w := w) (g := g) (row := none) (zK HK.out))); have n2_ := aM (IsS68.below (zI68 HI0.out) hb); have n3_ := aM (KeepBut.trans (zK HK.out) (KeepBut.of_below hb g none) (.inl rfl)); have n4_ := aM (below_step (zs (IsS68.ge HI0.out)) hb); clear HO_5 HI0 HK HB; have HO_5 := n0_; have HO263 := n1_; have HI0 := n2_; have HK := n3_; have HB := n4_; clear n0_ n1_ n2_ n3_ n4_; (try clear hb); (try clear hb2); (try clear hk); (try clear hi); (try clear ho0); obtain ⟨Ao15, co15, eo15⟩ := Kd.R_slice HO263.out; subst eo15) | ((with_reducible refine gate_callee (f := 50) rfl ?_); refine goesL_ (some 24) rfl rfl Try.func50 (by kernel_rfl) rfl #[.pointer (some ⟨g, 0, none⟩), .int .i64 (t261.length : Int)] rfl zm ?_; (with_reducible refine (spec_l01Next.calls g s0_0 x1001_1 x1002_1 (t261.length : Int) t264 t265 t266 w0 _ ?side1 ?side2 A9.out).mono ?_); (case side1 => exact zI68 HI0.out); (case side2 => exact zs (IsS68.ge HI0.out)); rintro e w16 ⟨rfl, hi, hb, hk⟩; refine ⟨_, rfl, ?_⟩; have n0_ := aM (Kd.R_mono (Kd.R_keep (IsS68.apart (show IsS68 w0 _ g s0_0 x1001_1 x1002_1 from zI68 HI0.out) (mR_ HO_5.out) (by decide)) hk (fun _ h => h.2)) (fun _ h => h.1)); have n1_ := aM (Kd.R_mono (Kd.R_keep (IsS68.apart (show IsS68 w0 _ g s0_0 x1001_1 x1002_1 from zI68 HI0.out) (mR_ HO263.out) (by decide)) hk (fun _ h => h.2)) (fun _ h => h.1)); have n2_ := aM (KeepBut.trans (zK HK.out) hk (.inl rfl)); have n3_ := aM (hb); have n4_ := aM (hi); clear HO_5 HO263 HK HB HI0; have HO_5 := n0_; have HO263 := n1_; have HK := n2_; have HB := n3_; have HI0 := n4_; clear n0_ n1_ n2_ n3_ n4_; (try clear hb); (try clear hb2); (try clear hk); (try clear hi); have p267 : 0 ≤ (t264 : Int) := of_decide_eq_true za; have q267 : t264 < (t261.length : Int) := of_decide_eq_true za; obtain ⟨ad267, e267, hx267_0, hx267_1⟩ := at_T44 (Kd.R_reads' HO263.out).2.2 t264 p267 q267; cases e267; replace p267 := eq_true p267; replace q267 := eq_true q267) | ((with_reducible refine gate_callee (f := 69) rfl ?_); refine goesL_ (some 27) rfl rfl Try.func69 (by kernel_rfl) rfl #[.slice Ao13 x5_1.length co13, .agg #[.int .i64 ((rd_T44 t261 t264).f0), .int .i64 ((rd_T44 t261 t264).f1)]] rfl zm ?_; (with_reducible refine (spec_l02Insert.calls k1 _ _ x5_1 ((rd_T44 t261 t264).f0) ((rd_T44 t261 t264).f1) t268 _ ?side1 ?side2 A12.out).mono ?_); (case side1 => exact zc HO_5.out); (case side2 => exact (Kd.R_reads' HO_5.out).2.1); rintro e w17 ⟨v269, rfl, ho0, hb⟩; refine ⟨_, rfl, ?_⟩; have n0_ := aM (Kd.R_elder' (mR_ HO_5.out) (Kd.R_base ho0) hb); have n1_ := aM (Kd.R_elder' (mR_ HO263.out) (Kd.R_base ho0) hb); have n2_ := aM (Kd.R_lower (Kd.R_new' (Kd.R_new' ho0 (Kd.R_lt (mR_ HO_5.out))) (Kd.R_lt (mR_ HO263.out))) (keep_size (w := w) (g := g) (row := none) (zK HK.out))); have n3_ := aM (IsS68.below (zI68 HI0.out) hb); have n4_ := aM (KeepBut.trans (zK HK.out) (KeepBut.of_below hb g none) (.inl rfl)); have n5_ := aM (below_step (zs (IsS68.ge HI0.out)) hb); clear HO_5 HO263 HI0 HK HB; have HO_5 := n0_; have HO263 := n1_; have HO270 := n2_; have HI0 := n3_; have HK := n4_; have HB := n5_; clear n0_ n1_ n2_ n3_ n4_ n5_; (try clear hb); (try clear hb2); (try clear hk); (try clear hi); (try clear ho0)))
   go_roundg k1
   case measure => have := HK1.out; omega
   case rel => exact ⟨(t268), (wrap64 (x6_1 - 1)), (t265), (t266), zr, H', ⟨by have := HK1.out; omega⟩, ⟨zd1 HO270.out⟩, ⟨zI68 HI0.out⟩, ⟨zK HK.out⟩, ⟨zs (IsS68.ge HI0.out)⟩⟩
def spec_IsShape.l0 : Nat → List (S44) → Int → Option (Bool)
 | 0, _, _ => none
 | k + 1, x0, x3 => if x3 < (x0.length : Int) then (if 0 ≤ x3 then ((spec_l02Cell.f ((rd_T44 x0 x3).f0) ((rd_T44 x0 x3).f1)).bind fun t108 => (if t108 = true then (if x3 > 0 then (if 0 ≤ (wrap64 (x3 - 1)) then (if (wrap64 (x3 - 1)) < (x0.length : Int) then ((spec_l02Less.f ((rd_T44 x0 (wrap64 (x3 - 1))).f0) ((rd_T44 x0 (wrap64 (x3 - 1))).f1) ((rd_T44 x0 x3).f0) ((rd_T44 x0 x3).f1)).bind fun t111 => (if t111 = true then (spec_IsShape.l0 k x0 (wrap64 (x3 + 1))) else (some false))) else (none)) else (none)) else (spec_IsShape.l0 k x0 (wrap64 (x3 + 1)))) else (some false))) else (none)) else ((spec_l01In.f (x0.length : Int) 1 40).bind fun t106 => (some t106))
def spec_IsShape.f (k : Nat) (l0 : List (S44)) : Option (Bool) := spec_IsShape.l0 k l0 0
def spec_IsShape.T4 : Bool × List (List Nat × List Nat) := (true, [([], []), ([], []), ([0, 1], [0, 1]), ([2], [2]), ([3], [3]), ([4], [4]), ([5, 4], [5]), ([6], [6]), ([7, 6], [6, 7]), ([8, 6, 6], [6, 8]), ([9], [9]), ([9], [9]), ([11, 9], [9, 11]), ([10, 12, 9], [9, 10, 12]), ([13, 9], [9, 13]), ([9], [9]), ([9], [9]), ([15, 16, 9], [9, 15, 16]), ([17, 9], [9, 17]), ([14, 18, 9, 9], [9, 14, 18]), ([19, 9], [9, 19]), ([9, 20, 6], [6, 9, 20]), ([6, 21], [6, 21])])
def spec_IsShape.B4 : List Nat := [0, 0, 3, 7, 15, 31, 63, 127, 255, 511, 1023, 1023, 3071, 8191, 16383, 1023, 1023, 99327, 230399, 524287, 1048575, 2097151, 4194303]
theorem spec_IsShape.tab4 : rtab .any (opsOf Try.f32 4) = spec_IsShape.T4 := by kernel_rfl
theorem spec_IsShape.bits4 : waitsOk spec_IsShape.T4.2 spec_IsShape.B4 = true := by kernel_rfl
theorem spec_IsShape.calls (k : Nat) (A0 : Option Addr) (c0 : Nat) (l0 : List (S44)) (r : Bool) (w : World) (hr0 : Kd.C k44 w A0 l0.length l0) (hc0 : l0.length ≤ c0) (h : spec_IsShape.f k l0 = some r) :
  Calls Try.prog 32 #[.slice A0 l0.length c0] w fun e w' => e = .returned (.bool r) ∧ Below w.heap.size w w' := by
 have hu44 := Try.underlying44
 have HR0 := aM hr0
 have HC0 := aM hc0
 clear hr0 hc0
 have HB := aM (Below.refl w.heap.size w)
 have H : (spec_IsShape.l0 k l0 0) = some r := h
 clear h
 have H' := aM H
 clear H
 go_enter Try.func32, Try.ntmps32
 go_wp2
 go_loopg [3] k (fun kq v3 w' => ∃ (x3_1 : Int), v3 = .int .i64 x3_1 ∧ Aside0 (spec_IsShape.l0 kq l0 x3_1 = some r) ∧ Aside0 (kq ≤ k) ∧ Aside0 (Below w.heap.size w w'))
 case atStart => exact ⟨(0), zr, H', ⟨Nat.le_refl _⟩, ⟨zb⟩⟩
 case round =>
  clear H'
  obtain ⟨x3_1, rfl, HA, HK1, HB⟩ := hrel
  cases gk with
  | zero => exact absurd HA.out (by simp [spec_IsShape.l0])
  | succ k1 =>
   have H := HA.out
   clear HA
   simp only [spec_IsShape.l0] at H
   by_cases c2 : x3_1 < (l0.length : Int)
   rotate_left
   ·rw [if_neg c2] at H
    have c2b0 : decide (x3_1 < (l0.length : Int)) = false := decide_eq_false c2
    clear c2
    replace H := Option.bind_eq_some_iff.mp H
    obtain ⟨t106, A220, H⟩ := H
    replace H : (some t106) = some r := H
    have A22 := aM A220
    clear A220
    obtain rfl := Option.some.inj H
    go_wp2_with (first | ((with_reducible refine gate_callee (f := 54) rfl ?_); refine goesL_ (some 35) rfl rfl Try.func54 (by kernel_rfl) rfl #[.int .i64 (l0.length : Int), .int .i64 1, .int .i64 40] rfl zm ?_; (with_reducible refine (spec_l01In.calls (l0.length : Int) 1 40 t106 _ A22.out).mono ?_); rintro e w' ⟨rfl, ⟨nd, rfl⟩⟩; refine ⟨_, rfl, ?_⟩))
    go_ret
    exact ⟨zw, zb⟩
   rw [if_pos c2] at H
   have c2b0 : decide (x3_1 < (l0.length : Int)) = true := decide_eq_true c2
   clear c2
   by_cases c3 : 0 ≤ x3_1
   rotate_left
   ·rw [if_neg c3] at H
    exact absurd H (by simp)
   rw [if_pos c3] at H
   have c3b0 : decide (0 ≤ x3_1) = true := decide_eq_true c3
   clear c3
   replace H := Option.bind_eq_some_iff.mp H
   obtain ⟨t108, A40, H⟩ := H
   replace H : (if t108 = true then (if x3_1 > 0 then (if 0 ≤ (wrap64 (x3_1 - 1)) then (if (wrap64 (x3_1 - 1)) < (l0.length : Int) then ((spec_l02Less.f ((rd_T44 l0 (wrap64 (x3_1 - 1))).f0) ((rd_T44 l0 (wrap64 (x3_1 - 1))).f1) ((rd_T44 l0 x3_1).f0) ((rd_T44 l0 x3_1).f1)).bind fun t111 => (if t111 = true then (spec_IsShape.l0 k1 l0 (wrap64 (x3_1 + 1))) else (some false))) else (none)) else (none)) else (spec_IsShape.l0 k1 l0 (wrap64 (x3_1 + 1)))) else (some false)) = some r := H
   have A4 := aM A40
   clear A40
   by_cases c5 : t108 = true
   rotate_left
   ·replace c5 := Bool.eq_false_iff.mpr c5
    subst c5
    have H1 : (some false) = some r := by rw [if_neg (show ¬ (false = true) by decide)] at H; exact H
    clear H
    have H := H1
    clear H1
    obtain rfl := Option.some.inj H
    try go_wp2
    have n0_ := aM (below_drew1 HB.out)
    clear HB
    have HB := n0_
    clear n0_
    have p107 : 0 ≤ (x3_1 : Int) := of_decide_eq_true za
    have q107 : x3_1 < (l0.length : Int) := of_decide_eq_true za
    obtain ⟨ad107, e107, hx107_0, hx107_1⟩ := at_T44 HR0.out x3_1 p107 q107
    have hw107_1 := hx107_1
    have hw107_0 := hx107_0
    cases e107
    replace hx107_0 := zk HB.out hx107_0
    replace hx107_1 := zk HB.out hx107_1
    replace p107 := eq_true p107
    replace q107 := eq_true q107
    refine start_ (n := 23) (S := fun w' => w'.cell? (ad107.add ((x3_1).toNat * 2)) = some (.int .i64 ((rd_T44 l0 x3_1).f0)) ∧ w'.cell? ⟨(ad107.add ((x3_1).toNat * 2)).block, (ad107.add ((x3_1).toNat * 2)).off + 1, none⟩ = some (.int .i64 ((rd_T44 l0 x3_1).f1))) (ds := []) zA34 (by kernel_rfl) rfl rfl ⟨(zk HB.out hw107_0), (zk HB.out hw107_1)⟩ (fun hHeld => ?_); refine with_tabW spec_IsShape.tab4 spec_IsShape.bits4 (fun HT_ HW_ => ?_)
    generalize wr.drew = w20 at HB hx107_0 hx107_1 hHeld ⊢
    refine zp 0 (some 10) ?_ zA35 rfl rfl (Or.inl ⟨by rfl, ?_⟩) ?_ ?_ ?_
    rotate_left
    ·intro w'
     go_simp
     with_reducible rfl
    rotate_left
    ·simp only [Act.put, xA, xB, xC, i64_w, i32_w]
     rfl
    refine zp 1 (some 11) ?_ zA36 rfl rfl (Or.inl ⟨by rfl, ?_⟩) ?_ ?_ ?_
    rotate_left
    ·intro w'
     go_simp
     with_reducible rfl
    rotate_left
    ·simp only [Act.put, xA, xB, xC, i64_w, i32_w]
     rfl
    refine zp 2 (some 12) ?_ zA37 rfl rfl (Or.inl ⟨by rfl, ?_⟩) ?_ ?_ ?_
    rotate_left
    ·intro w'
     go_simp
     with_reducible rfl
    rotate_left
    ·simp only [Act.put, xA, xB, xC, i64_w, i32_w]
     rfl
    refine zu 3 (some 13) ?_ zA38 rfl rfl (Or.inl ⟨by rfl, ?_⟩) hHeld ?_ ?_ ?_
    rotate_left
    ·rintro w' ⟨s0, s1⟩
     go_simp
     with_reducible rfl
    rotate_left
    ·simp only [Act.put, xA, xB, xC, i64_w, i32_w]
     rfl
    refine one_ (i := 4) (N := some 14) zA39 rfl rfl (one_of HT_.out (by kernel_rfl)) (by decide) (fun K hK => ?_)
    refine goes_ Try.func52 (by kernel_rfl) rfl #[.agg #[.int .i64 ((rd_T44 l0 x3_1).f0), .int .i64 ((rd_T44 l0 x3_1).f1)]] (by rfl) rfl rfl zm ?_
    with_reducible refine (spec_l02Cell.calls ((rd_T44 l0 x3_1).f0) ((rd_T44 l0 x3_1).f1) false _ A4.out).mono ?_
    rintro e w21 ⟨rfl, hb⟩
    refine ⟨_, rfl, ?_⟩
    have n0_ := aM (below_step zb hb)
    clear HB
    have HB := n0_
    clear n0_
    (try clear hb)
    (try clear hb2)
    (try clear hk)
    (try clear hi)
    refine hK.out _ _ ⟨(zk HB.out hw107_0), (zk HB.out hw107_1)⟩ (fun hHeld => ?_)
    clear hK K
    refine norm_ (a' := ?_) ?_ ?_
    rotate_left
    ·show Act.put _ (some 14) _ = _
     simp only [Act.put, xA, xB, xC, i64_w, i32_w]
     rfl
    refine zp 5 (some 15) ?_ zA40 rfl rfl (Or.inl ⟨by rfl, ?_⟩) ?_ ?_ ?_
    rotate_left
    ·intro w'
     go_simp
     with_reducible rfl
    rotate_left
    ·simp only [Act.put, xA, xB, xC, i64_w, i32_w]
     rfl
    refine zp 6 (some 16) ?_ zA41 rfl rfl (Or.inl ⟨by rfl, ?_⟩) ?_ ?_ ?_
    rotate_left
    ·intro w'
     go_simp
     with_reducible rfl
    rotate_left
    ·simp only [Act.put, xA, xB, xC, i64_w, i32_w]
     rfl
    refine zp 7 (some 17) undef zA42 rfl rfl (Or.inr ⟨by rfl, rfl⟩) ?_ ?_ ?_
    rotate_left
    ·simp only [Act.put, xA, xB, xC, i64_w, i32_w]
     rfl
    refine zp 8 (some 18) undef zA43 rfl rfl (Or.inr ⟨by rfl, rfl⟩) ?_ ?_ ?_
    rotate_left
    ·simp only [Act.put, xA, xB, xC, i64_w, i32_w]
     rfl
    refine zp 9 (some 19) undef zA44 rfl rfl (Or.inr ⟨by rfl, rfl⟩) ?_ ?_ ?_
    rotate_left
    ·simp only [Act.put, xA, xB, xC, i64_w, i32_w]
     rfl
    refine zp 10 (some 20) undef zA45 rfl rfl (Or.inr ⟨by rfl, rfl⟩) ?_ ?_ ?_
    rotate_left
    ·simp only [Act.put, xA, xB, xC, i64_w, i32_w]
     rfl
    refine zp 11 (some 21) undef zA46 rfl rfl (Or.inr ⟨by rfl, rfl⟩) ?_ ?_ ?_
    rotate_left
    ·simp only [Act.put, xA, xB, xC, i64_w, i32_w]
     rfl
    refine zp 12 (some 22) undef zA47 rfl rfl (Or.inr ⟨by rfl, rfl⟩) ?_ ?_ ?_
    rotate_left
    ·simp only [Act.put, xA, xB, xC, i64_w, i32_w]
     rfl
    refine zp 13 (some 23) undef zA48 rfl rfl (Or.inr ⟨by rfl, rfl⟩) ?_ ?_ ?_
    rotate_left
    ·simp only [Act.put, xA, xB, xC, i64_w, i32_w]
     rfl
    refine zp 14 (some 24) undef zA49 rfl rfl (Or.inr ⟨by rfl, rfl⟩) ?_ ?_ ?_
    rotate_left
    ·simp only [Act.put, xA, xB, xC, i64_w, i32_w]
     rfl
    refine zp 15 (some 25) undef zA50 rfl rfl (Or.inr ⟨by rfl, rfl⟩) ?_ ?_ ?_
    rotate_left
    ·simp only [Act.put, xA, xB, xC, i64_w, i32_w]
     rfl
    refine zp 16 (some 26) undef zA51 rfl rfl (Or.inr ⟨by rfl, rfl⟩) ?_ ?_ ?_
    rotate_left
    ·simp only [Act.put, xA, xB, xC, i64_w, i32_w]
     rfl
    refine zp 17 (some 27) undef zA52 rfl rfl (Or.inr ⟨by rfl, rfl⟩) ?_ ?_ ?_
    rotate_left
    ·simp only [Act.put, xA, xB, xC, i64_w, i32_w]
     rfl
    refine zp 18 (some 28) undef zA53 rfl rfl (Or.inr ⟨by rfl, rfl⟩) ?_ ?_ ?_
    rotate_left
    ·simp only [Act.put, xA, xB, xC, i64_w, i32_w]
     rfl
    refine zp 19 (some 29) undef zA54 rfl rfl (Or.inr ⟨by rfl, rfl⟩) ?_ ?_ ?_
    rotate_left
    ·simp only [Act.put, xA, xB, xC, i64_w, i32_w]
     rfl
    refine zp 20 (some 30) undef zA55 rfl rfl (Or.inr ⟨by rfl, rfl⟩) ?_ ?_ ?_
    rotate_left
    ·simp only [Act.put, xA, xB, xC, i64_w, i32_w]
     rfl
    refine zp 21 (some 31) undef zA56 rfl rfl (Or.inr ⟨by rfl, rfl⟩) ?_ ?_ ?_
    rotate_left
    ·simp only [Act.put, xA, xB, xC, i64_w, i32_w]
     rfl
    refine zp 22 (some 32) ?_ zA57 rfl rfl (Or.inl ⟨by rfl, ?_⟩) ?_ ?_ ?_
    rotate_left
    ·intro w'
     go_simp
     with_reducible rfl
    rotate_left
    ·simp only [Act.put, xA, xB, xC, i64_w, i32_w]
     rfl
    refine done_ (done_of HT_.out (by kernel_rfl)) ?_
    try go_wp2
    go_ret
    exact ⟨zw, zb⟩
   subst c5
   have H1 : (if x3_1 > 0 then (if 0 ≤ (wrap64 (x3_1 - 1)) then (if (wrap64 (x3_1 - 1)) < (l0.length : Int) then ((spec_l02Less.f ((rd_T44 l0 (wrap64 (x3_1 - 1))).f0) ((rd_T44 l0 (wrap64 (x3_1 - 1))).f1) ((rd_T44 l0 x3_1).f0) ((rd_T44 l0 x3_1).f1)).bind fun t111 => (if t111 = true then (spec_IsShape.l0 k1 l0 (wrap64 (x3_1 + 1))) else (some false))) else (none)) else (none)) else (spec_IsShape.l0 k1 l0 (wrap64 (x3_1 + 1)))) = some r := by rw [if_pos rfl] at H; exact H
   clear H
   have H := H1
   clear H1
   by_cases c6 : x3_1 > 0
   rotate_left
   ·rw [if_neg c6] at H
    have c6b0 : decide (0 < x3_1) = false := decide_eq_false c6
    clear c6
    have H' := aM H
    clear H
    try go_wp2
    have n0_ := aM (below_drew1 HB.out)
    clear HB
    have HB := n0_
    clear n0_
    have p107 : 0 ≤ (x3_1 : Int) := of_decide_eq_true za
    have q107 : x3_1 < (l0.length : Int) := of_decide_eq_true za
    obtain ⟨ad107, e107, hx107_0, hx107_1⟩ := at_T44 HR0.out x3_1 p107 q107
    have hw107_1 := hx107_1
    have hw107_0 := hx107_0
    cases e107
    replace hx107_0 := zk HB.out hx107_0
    replace hx107_1 := zk HB.out hx107_1
    replace p107 := eq_true p107
    replace q107 := eq_true q107
    refine start_ (n := 23) (S := fun w' => w'.cell? (ad107.add ((x3_1).toNat * 2)) = some (.int .i64 ((rd_T44 l0 x3_1).f0)) ∧ w'.cell? ⟨(ad107.add ((x3_1).toNat * 2)).block, (ad107.add ((x3_1).toNat * 2)).off + 1, none⟩ = some (.int .i64 ((rd_T44 l0 x3_1).f1))) (ds := []) zA34 (by kernel_rfl) rfl rfl ⟨(zk HB.out hw107_0), (zk HB.out hw107_1)⟩ (fun hHeld => ?_); refine with_tabW spec_IsShape.tab4 spec_IsShape.bits4 (fun HT_ HW_ => ?_)
    generalize wr.drew = w18 at HB hx107_0 hx107_1 hHeld ⊢
    refine zp 0 (some 10) ?_ zA35 rfl rfl (Or.inl ⟨by rfl, ?_⟩) ?_ ?_ ?_
    rotate_left
    ·intro w'
     go_simp
     with_reducible rfl
    rotate_left
    ·simp only [Act.put, xA, xB, xC, i64_w, i32_w]
     rfl
    refine zp 1 (some 11) ?_ zA36 rfl rfl (Or.inl ⟨by rfl, ?_⟩) ?_ ?_ ?_
    rotate_left
    ·intro w'
     go_simp
     with_reducible rfl
    rotate_left
    ·simp only [Act.put, xA, xB, xC, i64_w, i32_w]
     rfl
    refine zp 2 (some 12) ?_ zA37 rfl rfl (Or.inl ⟨by rfl, ?_⟩) ?_ ?_ ?_
    rotate_left
    ·intro w'
     go_simp
     with_reducible rfl
    rotate_left
    ·simp only [Act.put, xA, xB, xC, i64_w, i32_w]
     rfl
    refine zu 3 (some 13) ?_ zA38 rfl rfl (Or.inl ⟨by rfl, ?_⟩) hHeld ?_ ?_ ?_
    rotate_left
    ·rintro w' ⟨s0, s1⟩
     go_simp
     with_reducible rfl
    rotate_left
    ·simp only [Act.put, xA, xB, xC, i64_w, i32_w]
     rfl
    refine one_ (i := 4) (N := some 14) zA39 rfl rfl (one_of HT_.out (by kernel_rfl)) (by decide) (fun K hK => ?_)
    refine goes_ Try.func52 (by kernel_rfl) rfl #[.agg #[.int .i64 ((rd_T44 l0 x3_1).f0), .int .i64 ((rd_T44 l0 x3_1).f1)]] (by rfl) rfl rfl zm ?_
    with_reducible refine (spec_l02Cell.calls ((rd_T44 l0 x3_1).f0) ((rd_T44 l0 x3_1).f1) true _ A4.out).mono ?_
    rintro e w19 ⟨rfl, hb⟩
    refine ⟨_, rfl, ?_⟩
    have n0_ := aM (below_step zb hb)
    clear HB
    have HB := n0_
    clear n0_
    (try clear hb)
    (try clear hb2)
    (try clear hk)
    (try clear hi)
    refine hK.out _ _ ⟨(zk HB.out hw107_0), (zk HB.out hw107_1)⟩ (fun hHeld => ?_)
    clear hK K
    refine norm_ (a' := ?_) ?_ ?_
    rotate_left
    ·show Act.put _ (some 14) _ = _
     simp only [Act.put, xA, xB, xC, i64_w, i32_w]
     rfl
    refine zp 5 (some 15) ?_ zA40 rfl rfl (Or.inl ⟨by rfl, ?_⟩) ?_ ?_ ?_
    rotate_left
    ·intro w'
     go_simp
     with_reducible rfl
    rotate_left
    ·simp only [Act.put, xA, xB, xC, i64_w, i32_w]
     rfl
    refine zp 6 (some 16) ?_ zA41 rfl rfl (Or.inl ⟨by rfl, ?_⟩) ?_ ?_ ?_
    rotate_left
    ·intro w'
     go_simp
     with_reducible rfl
    rotate_left
    ·simp only [Act.put, xA, xB, xC, i64_w, i32_w]
     rfl
    refine zp 7 (some 17) ?_ zA42 rfl rfl (Or.inl ⟨by rfl, ?_⟩) ?_ ?_ ?_
    rotate_left
    ·intro w'
     go_simp
     with_reducible rfl
    rotate_left
    ·simp only [Act.put, xA, xB, xC, i64_w, i32_w]
     rfl
    refine zp 8 (some 18) ?_ zA43 rfl rfl (Or.inl ⟨by rfl, ?_⟩) ?_ ?_ ?_
    rotate_left
    ·intro w'
     go_simp
     with_reducible rfl
    rotate_left
    ·simp only [Act.put, xA, xB, xC, i64_w, i32_w]
     rfl
    refine zp 9 (some 19) ?_ zA44 rfl rfl (Or.inl ⟨by rfl, ?_⟩) ?_ ?_ ?_
    rotate_left
    ·intro w'
     go_simp
     with_reducible rfl
    rotate_left
    ·simp only [Act.put, xA, xB, xC, i64_w, i32_w]
     rfl
    refine zp 10 (some 20) undef zA45 rfl rfl (Or.inr ⟨by rfl, rfl⟩) ?_ ?_ ?_
    rotate_left
    ·simp only [Act.put, xA, xB, xC, i64_w, i32_w]
     rfl
    refine zp 11 (some 21) undef zA46 rfl rfl (Or.inr ⟨by rfl, rfl⟩) ?_ ?_ ?_
    rotate_left
    ·simp only [Act.put, xA, xB, xC, i64_w, i32_w]
     rfl
    refine zp 12 (some 22) undef zA47 rfl rfl (Or.inr ⟨by rfl, rfl⟩) ?_ ?_ ?_
    rotate_left
    ·simp only [Act.put, xA, xB, xC, i64_w, i32_w]
     rfl
    refine zp 13 (some 23) undef zA48 rfl rfl (Or.inr ⟨by rfl, rfl⟩) ?_ ?_ ?_
    rotate_left
    ·simp only [Act.put, xA, xB, xC, i64_w, i32_w]
     rfl
    refine zp 14 (some 24) undef zA49 rfl rfl (Or.inr ⟨by rfl, rfl⟩) ?_ ?_ ?_
    rotate_left
    ·simp only [Act.put, xA, xB, xC, i64_w, i32_w]
     rfl
    refine zp 15 (some 25) undef zA50 rfl rfl (Or.inr ⟨by rfl, rfl⟩) ?_ ?_ ?_
    rotate_left
    ·simp only [Act.put, xA, xB, xC, i64_w, i32_w]
     rfl
    refine zp 16 (some 26) undef zA51 rfl rfl (Or.inr ⟨by rfl, rfl⟩) ?_ ?_ ?_
    rotate_left
    ·simp only [Act.put, xA, xB, xC, i64_w, i32_w]
     rfl
    refine zp 17 (some 27) undef zA52 rfl rfl (Or.inr ⟨by rfl, rfl⟩) ?_ ?_ ?_
    rotate_left
    ·simp only [Act.put, xA, xB, xC, i64_w, i32_w]
     rfl
    refine zp 18 (some 28) undef zA53 rfl rfl (Or.inr ⟨by rfl, rfl⟩) ?_ ?_ ?_
    rotate_left
    ·simp only [Act.put, xA, xB, xC, i64_w, i32_w]
     rfl
    refine zp 19 (some 29) undef zA54 rfl rfl (Or.inr ⟨by rfl, rfl⟩) ?_ ?_ ?_
    rotate_left
    ·simp only [Act.put, xA, xB, xC, i64_w, i32_w]
     rfl
    refine zp 20 (some 30) undef zA55 rfl rfl (Or.inr ⟨by rfl, rfl⟩) ?_ ?_ ?_
    rotate_left
    ·simp only [Act.put, xA, xB, xC, i64_w, i32_w]
     rfl
    refine zp 21 (some 31) ?_ zA56 rfl rfl (Or.inl ⟨by rfl, ?_⟩) ?_ ?_ ?_
    rotate_left
    ·intro w'
     go_simp
     with_reducible rfl
    rotate_left
    ·simp only [Act.put, xA, xB, xC, i64_w, i32_w]
     rfl
    refine zp 22 (some 32) ?_ zA57 rfl rfl (Or.inl ⟨by rfl, ?_⟩) ?_ ?_ ?_
    rotate_left
    ·intro w'
     go_simp
     with_reducible rfl
    rotate_left
    ·simp only [Act.put, xA, xB, xC, i64_w, i32_w]
     rfl
    refine done_ (done_of HT_.out (by kernel_rfl)) ?_
    try go_wp2
    go_roundg k1
    case measure => have := HK1.out; omega
    case rel => exact ⟨(wrap64 (x3_1 + 1)), zr, H', ⟨by have := HK1.out; omega⟩, ⟨zb⟩⟩
   rw [if_pos c6] at H
   have c6b0 : decide (0 < x3_1) = true := decide_eq_true c6
   clear c6
   obtain ⟨ji7, hji7⟩ : ∃ j_ : Int, (wrap64 (x3_1 - 1)) = j_ := ⟨_, rfl⟩
   replace H : (if 0 ≤ (ji7) then (if (ji7) < (l0.length : Int) then ((spec_l02Less.f ((rd_T44 l0 (ji7)).f0) ((rd_T44 l0 (ji7)).f1) ((rd_T44 l0 x3_1).f0) ((rd_T44 l0 x3_1).f1)).bind fun t111 => (if t111 = true then (spec_IsShape.l0 k1 l0 (wrap64 (x3_1 + 1))) else (some false))) else (none)) else (none)) = some r := by first | (rw [hji7] at H; exact H) | (simp only [hji7] at H ⊢; exact H)
   (try rw [hji7] at A4)
   have hji7w : (IntKind.i64.wrap (x3_1 - 1)) = ji7 := (i64_w _).trans hji7
   by_cases c8 : 0 ≤ (ji7)
   rotate_left
   ·rw [if_neg c8] at H
    exact absurd H (by simp)
   rw [if_pos c8] at H
   have c8b0 : decide (0 ≤ (ji7)) = true := decide_eq_true c8
   clear c8
   by_cases c9 : (ji7) < (l0.length : Int)
   rotate_left
   ·rw [if_neg c9] at H
    exact absurd H (by simp)
   rw [if_pos c9] at H
   have c9b0 : decide ((ji7) < (l0.length : Int)) = true := decide_eq_true c9
   clear c9
   replace H := Option.bind_eq_some_iff.mp H
   obtain ⟨t111, A100, H⟩ := H
   replace H : (if t111 = true then (spec_IsShape.l0 k1 l0 (wrap64 (x3_1 + 1))) else (some false)) = some r := H
   have A10 := aM A100
   clear A100
   by_cases c11 : t111 = true
   rotate_left
   ·replace c11 := Bool.eq_false_iff.mpr c11
    subst c11
    have H1 : (some false) = some r := by rw [if_neg (show ¬ (false = true) by decide)] at H; exact H
    clear H
    have H := H1
    clear H1
    obtain rfl := Option.some.inj H
    try go_wp2
    have n0_ := aM (below_drew1 HB.out)
    clear HB
    have HB := n0_
    clear n0_
    have p107 : 0 ≤ (x3_1 : Int) := of_decide_eq_true za
    have q107 : x3_1 < (l0.length : Int) := of_decide_eq_true za
    obtain ⟨ad107, e107, hx107_0, hx107_1⟩ := at_T44 HR0.out x3_1 p107 q107
    have hw107_1 := hx107_1
    have hw107_0 := hx107_0
    cases e107
    replace hx107_0 := zk HB.out hx107_0
    replace hx107_1 := zk HB.out hx107_1
    replace p107 := eq_true p107
    replace q107 := eq_true q107
    have p109 : 0 ≤ ((ji7) : Int) := of_decide_eq_true za
    have q109 : (ji7) < (l0.length : Int) := of_decide_eq_true za
    obtain ⟨ad109, e109, hx109_0, hx109_1⟩ := at_T44 HR0.out (ji7) p109 q109
    have hw109_1 := hx109_1
    have hw109_0 := hx109_0
    obtain rfl : ad107 = ad109 := (by injection e109)
    replace hx109_0 := zk HB.out hx109_0
    replace hx109_1 := zk HB.out hx109_1
    replace p109 := eq_true p109
    replace q109 := eq_true q109
    have p110 : 0 ≤ (x3_1 : Int) := of_decide_eq_true za
    have q110 : x3_1 < (l0.length : Int) := of_decide_eq_true za
    obtain ⟨ad110, e110, hx110_0, hx110_1⟩ := at_T44 HR0.out x3_1 p110 q110
    have hw110_1 := hx110_1
    have hw110_0 := hx110_0
    obtain rfl : ad107 = ad110 := (by injection e110)
    replace hx110_0 := zk HB.out hx110_0
    replace hx110_1 := zk HB.out hx110_1
    replace p110 := eq_true p110
    replace q110 := eq_true q110
    refine start_ (n := 23) (S := fun w' => w'.cell? (ad107.add ((x3_1).toNat * 2)) = some (.int .i64 ((rd_T44 l0 x3_1).f0)) ∧ w'.cell? ⟨(ad107.add ((x3_1).toNat * 2)).block, (ad107.add ((x3_1).toNat * 2)).off + 1, none⟩ = some (.int .i64 ((rd_T44 l0 x3_1).f1)) ∧ w'.cell? (ad107.add (((ji7)).toNat * 2)) = some (.int .i64 ((rd_T44 l0 (ji7)).f0)) ∧ w'.cell? ⟨(ad107.add (((ji7)).toNat * 2)).block, (ad107.add (((ji7)).toNat * 2)).off + 1, none⟩ = some (.int .i64 ((rd_T44 l0 (ji7)).f1)) ∧ w'.cell? (ad107.add ((x3_1).toNat * 2)) = some (.int .i64 ((rd_T44 l0 x3_1).f0)) ∧ w'.cell? ⟨(ad107.add ((x3_1).toNat * 2)).block, (ad107.add ((x3_1).toNat * 2)).off + 1, none⟩ = some (.int .i64 ((rd_T44 l0 x3_1).f1))) (ds := []) zA34 (by kernel_rfl) rfl rfl ⟨(zk HB.out hw107_0), (zk HB.out hw107_1), (zk HB.out hw109_0), (zk HB.out hw109_1), (zk HB.out hw110_0), (zk HB.out hw110_1)⟩ (fun hHeld => ?_); refine with_tabW spec_IsShape.tab4 spec_IsShape.bits4 (fun HT_ HW_ => ?_)
    generalize wr.drew = w15 at HB hx107_0 hx107_1 hx109_0 hx109_1 hx110_0 hx110_1 hHeld ⊢
    refine zp 0 (some 10) ?_ zA35 rfl rfl (Or.inl ⟨by rfl, ?_⟩) ?_ ?_ ?_
    rotate_left
    ·intro w'
     go_simp
     with_reducible rfl
    rotate_left
    ·simp only [Act.put, xA, xB, xC, i64_w, i32_w]
     rfl
    refine zp 1 (some 11) ?_ zA36 rfl rfl (Or.inl ⟨by rfl, ?_⟩) ?_ ?_ ?_
    rotate_left
    ·intro w'
     go_simp
     with_reducible rfl
    rotate_left
    ·simp only [Act.put, xA, xB, xC, i64_w, i32_w]
     rfl
    refine zp 2 (some 12) ?_ zA37 rfl rfl (Or.inl ⟨by rfl, ?_⟩) ?_ ?_ ?_
    rotate_left
    ·intro w'
     go_simp
     with_reducible rfl
    rotate_left
    ·simp only [Act.put, xA, xB, xC, i64_w, i32_w]
     rfl
    refine zu 3 (some 13) ?_ zA38 rfl rfl (Or.inl ⟨by rfl, ?_⟩) hHeld ?_ ?_ ?_
    rotate_left
    ·rintro w' ⟨s0, s1, s2, s3, s4, s5⟩
     go_simp
     with_reducible rfl
    rotate_left
    ·simp only [Act.put, xA, xB, xC, i64_w, i32_w]
     rfl
    refine one_ (i := 4) (N := some 14) zA39 rfl rfl (one_of HT_.out (by kernel_rfl)) (by decide) (fun K hK => ?_)
    refine goes_ Try.func52 (by kernel_rfl) rfl #[.agg #[.int .i64 ((rd_T44 l0 x3_1).f0), .int .i64 ((rd_T44 l0 x3_1).f1)]] (by rfl) rfl rfl zm ?_
    with_reducible refine (spec_l02Cell.calls ((rd_T44 l0 x3_1).f0) ((rd_T44 l0 x3_1).f1) true _ A4.out).mono ?_
    rintro e w16 ⟨rfl, hb⟩
    refine ⟨_, rfl, ?_⟩
    have n0_ := aM (below_step zb hb)
    clear HB
    have HB := n0_
    clear n0_
    (try clear hb)
    (try clear hb2)
    (try clear hk)
    (try clear hi)
    refine hK.out _ _ ⟨(zk HB.out hw107_0), (zk HB.out hw107_1), (zk HB.out hw109_0), (zk HB.out hw109_1), (zk HB.out hw110_0), (zk HB.out hw110_1)⟩ (fun hHeld => ?_)
    clear hK K
    refine norm_ (a' := ?_) ?_ ?_
    rotate_left
    ·show Act.put _ (some 14) _ = _
     simp only [Act.put, xA, xB, xC, i64_w, i32_w]
     rfl
    refine zp 5 (some 15) ?_ zA40 rfl rfl (Or.inl ⟨by rfl, ?_⟩) ?_ ?_ ?_
    rotate_left
    ·intro w'
     go_simp
     with_reducible rfl
    rotate_left
    ·simp only [Act.put, xA, xB, xC, i64_w, i32_w]
     rfl
    refine zp 6 (some 16) ?_ zA41 rfl rfl (Or.inl ⟨by rfl, ?_⟩) ?_ ?_ ?_
    rotate_left
    ·intro w'
     go_simp
     with_reducible rfl
    rotate_left
    ·simp only [Act.put, xA, xB, xC, i64_w, i32_w]
     rfl
    refine zp 7 (some 17) ?_ zA42 rfl rfl (Or.inl ⟨by rfl, ?_⟩) ?_ ?_ ?_
    rotate_left
    ·intro w'
     go_simp
     with_reducible rfl
    rotate_left
    ·simp only [Act.put, xA, xB, xC, i64_w, i32_w]
     rfl
    refine zp 8 (some 18) ?_ zA43 rfl rfl (Or.inl ⟨by rfl, ?_⟩) ?_ ?_ ?_
    rotate_left
    ·intro w'
     go_simp
     with_reducible rfl
    rotate_left
    ·simp only [Act.put, xA, xB, xC, i64_w, i32_w]
     rfl
    refine zp 9 (some 19) ?_ zA44 rfl rfl (Or.inl ⟨by rfl, ?_⟩) ?_ ?_ ?_
    rotate_left
    ·intro w'
     go_simp
     with_reducible rfl
    rotate_left
    ·simp only [Act.put, xA, xB, xC, i64_w, i32_w]
     rfl
    refine zp 10 (some 20) ?_ zA45 rfl rfl (Or.inl ⟨by rfl, ?_⟩) ?_ ?_ ?_
    rotate_left
    ·intro w'
     go_simp
     with_reducible rfl
    rotate_left
    ·simp only [Act.put, xA, xB, xC, i64_w, i32_w]
     rfl
    refine zp 11 (some 21) ?_ zA46 rfl rfl (Or.inl ⟨by rfl, ?_⟩) ?_ ?_ ?_
    rotate_left
    ·intro w'
     go_simp
     with_reducible rfl
    rotate_left
    ·simp only [Act.put, xA, xB, xC, i64_w, i32_w]
     rfl
    refine zp 12 (some 22) ?_ zA47 rfl rfl (Or.inl ⟨by rfl, ?_⟩) ?_ ?_ ?_
    rotate_left
    ·intro w'
     go_simp
     with_reducible rfl
    rotate_left
    ·simp only [Act.put, xA, xB, xC, i64_w, i32_w]
     rfl
    refine zp 13 (some 23) ?_ zA48 rfl rfl (Or.inl ⟨by rfl, ?_⟩) ?_ ?_ ?_
    rotate_left
    ·intro w'
     go_simp
     with_reducible rfl
    rotate_left
    ·simp only [Act.put, xA, xB, xC, i64_w, i32_w]
     rfl
    refine zp 15 (some 25) ?_ zA58 rfl rfl (Or.inl ⟨by rfl, ?_⟩) ?_ ?_ ?_
    rotate_left
    ·intro w'
     go_simp
     with_reducible rfl
    rotate_left
    ·simp only [Act.put, xA, xB, xC, i64_w, i32_w]
     rfl
    refine zp 16 (some 26) ?_ zA59 rfl rfl (Or.inl ⟨by rfl, ?_⟩) ?_ ?_ ?_
    rotate_left
    ·intro w'
     go_simp
     with_reducible rfl
    rotate_left
    ·simp only [Act.put, xA, xB, xC, i64_w, i32_w]
     rfl
    refine zp 17 (some 27) ?_ zA60 rfl rfl (Or.inl ⟨by rfl, ?_⟩) ?_ ?_ ?_
    rotate_left
    ·intro w'
     go_simp
     with_reducible rfl
    rotate_left
    ·simp only [Act.put, xA, xB, xC, i64_w, i32_w]
     rfl
    refine zu 14 (some 24) ?_ zA52 rfl rfl (Or.inl ⟨by rfl, ?_⟩) hHeld ?_ ?_ ?_
    rotate_left
    ·rintro w' ⟨s0, s1, s2, s3, s4, s5⟩
     go_simp
     with_reducible rfl
    rotate_left
    ·simp only [Act.put, xA, xB, xC, i64_w, i32_w]
     rfl
    refine zu 18 (some 28) ?_ zA53 rfl rfl (Or.inl ⟨by rfl, ?_⟩) hHeld ?_ ?_ ?_
    rotate_left
    ·rintro w' ⟨s0, s1, s2, s3, s4, s5⟩
     go_simp
     with_reducible rfl
    rotate_left
    ·simp only [Act.put, xA, xB, xC, i64_w, i32_w]
     rfl
    refine one_ (i := 19) (N := some 29) zA54 rfl rfl (one_of HT_.out (by kernel_rfl)) (by decide) (fun K hK => ?_)
    refine goes_ Try.func53 (by kernel_rfl) rfl #[.agg #[.int .i64 ((rd_T44 l0 (ji7)).f0), .int .i64 ((rd_T44 l0 (ji7)).f1)], .agg #[.int .i64 ((rd_T44 l0 x3_1).f0), .int .i64 ((rd_T44 l0 x3_1).f1)]] (by rfl) rfl rfl (by (try simp only [mA, mB, mC]); first | done | (simp only [hji7]; rfl) | rfl | (simp only [lD, lT]; rfl)) ?_
    with_reducible refine (spec_l02Less.calls ((rd_T44 l0 (ji7)).f0) ((rd_T44 l0 (ji7)).f1) ((rd_T44 l0 x3_1).f0) ((rd_T44 l0 x3_1).f1) false _ A10.out).mono ?_
    rintro e w17 ⟨rfl, hb⟩
    refine ⟨_, rfl, ?_⟩
    have n0_ := aM (below_step zb hb)
    clear HB
    have HB := n0_
    clear n0_
    (try clear hb)
    (try clear hb2)
    (try clear hk)
    (try clear hi)
    refine hK.out _ _ ⟨(zk HB.out hw107_0), (zk HB.out hw107_1), (zk HB.out hw109_0), (zk HB.out hw109_1), (zk HB.out hw110_0), (zk HB.out hw110_1)⟩ (fun hHeld => ?_)
    clear hK K
    refine norm_ (a' := ?_) ?_ ?_
    rotate_left
    ·show Act.put _ (some 29) _ = _
     simp only [Act.put, xA, xB, xC, i64_w, i32_w]
     rfl
    refine zp 20 (some 30) ?_ zA55 rfl rfl (Or.inl ⟨by rfl, ?_⟩) ?_ ?_ ?_
    rotate_left
    ·intro w'
     go_simp
     with_reducible rfl
    rotate_left
    ·simp only [Act.put, xA, xB, xC, i64_w, i32_w]
     rfl
    refine zp 21 (some 31) ?_ zA56 rfl rfl (Or.inl ⟨by rfl, ?_⟩) ?_ ?_ ?_
    rotate_left
    ·intro w'
     go_simp
     with_reducible rfl
    rotate_left
    ·simp only [Act.put, xA, xB, xC, i64_w, i32_w]
     rfl
    refine zp 22 (some 32) ?_ zA57 rfl rfl (Or.inl ⟨by rfl, ?_⟩) ?_ ?_ ?_
    rotate_left
    ·intro w'
     go_simp
     with_reducible rfl
    rotate_left
    ·simp only [Act.put, xA, xB, xC, i64_w, i32_w]
     rfl
    refine done_ (done_of HT_.out (by kernel_rfl)) ?_
    try go_wp2
    go_ret
    exact ⟨by first | rfl | (simp [errW_none, errW_some] <;> rfl) | (simp only [← hji7]; first | rfl | (simp [errW_none, errW_some] <;> rfl)) | (simp [*, errW_none, errW_some] <;> rfl), zb⟩
   subst c11
   have H1 : (spec_IsShape.l0 k1 l0 (wrap64 (x3_1 + 1))) = some r := by rw [if_pos rfl] at H; exact H
   clear H
   have H := H1
   clear H1
   have H' := aM H
   clear H
   try go_wp2
   have n0_ := aM (below_drew1 HB.out)
   clear HB
   have HB := n0_
   clear n0_
   have p107 : 0 ≤ (x3_1 : Int) := of_decide_eq_true za
   have q107 : x3_1 < (l0.length : Int) := of_decide_eq_true za
   obtain ⟨ad107, e107, hx107_0, hx107_1⟩ := at_T44 HR0.out x3_1 p107 q107
   have hw107_1 := hx107_1
   have hw107_0 := hx107_0
   cases e107
   replace hx107_0 := zk HB.out hx107_0
   replace hx107_1 := zk HB.out hx107_1
   replace p107 := eq_true p107
   replace q107 := eq_true q107
   have p109 : 0 ≤ ((ji7) : Int) := of_decide_eq_true za
   have q109 : (ji7) < (l0.length : Int) := of_decide_eq_true za
   obtain ⟨ad109, e109, hx109_0, hx109_1⟩ := at_T44 HR0.out (ji7) p109 q109
   have hw109_1 := hx109_1
   have hw109_0 := hx109_0
   obtain rfl : ad107 = ad109 := (by injection e109)
   replace hx109_0 := zk HB.out hx109_0
   replace hx109_1 := zk HB.out hx109_1
   replace p109 := eq_true p109
   replace q109 := eq_true q109
   have p110 : 0 ≤ (x3_1 : Int) := of_decide_eq_true za
   have q110 : x3_1 < (l0.length : Int) := of_decide_eq_true za
   obtain ⟨ad110, e110, hx110_0, hx110_1⟩ := at_T44 HR0.out x3_1 p110 q110
   have hw110_1 := hx110_1
   have hw110_0 := hx110_0
   obtain rfl : ad107 = ad110 := (by injection e110)
   replace hx110_0 := zk HB.out hx110_0
   replace hx110_1 := zk HB.out hx110_1
   replace p110 := eq_true p110
   replace q110 := eq_true q110
   refine start_ (n := 23) (S := fun w' => w'.cell? (ad107.add ((x3_1).toNat * 2)) = some (.int .i64 ((rd_T44 l0 x3_1).f0)) ∧ w'.cell? ⟨(ad107.add ((x3_1).toNat * 2)).block, (ad107.add ((x3_1).toNat * 2)).off + 1, none⟩ = some (.int .i64 ((rd_T44 l0 x3_1).f1)) ∧ w'.cell? (ad107.add (((ji7)).toNat * 2)) = some (.int .i64 ((rd_T44 l0 (ji7)).f0)) ∧ w'.cell? ⟨(ad107.add (((ji7)).toNat * 2)).block, (ad107.add (((ji7)).toNat * 2)).off + 1, none⟩ = some (.int .i64 ((rd_T44 l0 (ji7)).f1)) ∧ w'.cell? (ad107.add ((x3_1).toNat * 2)) = some (.int .i64 ((rd_T44 l0 x3_1).f0)) ∧ w'.cell? ⟨(ad107.add ((x3_1).toNat * 2)).block, (ad107.add ((x3_1).toNat * 2)).off + 1, none⟩ = some (.int .i64 ((rd_T44 l0 x3_1).f1))) (ds := []) zA34 (by kernel_rfl) rfl rfl ⟨(zk HB.out hw107_0), (zk HB.out hw107_1), (zk HB.out hw109_0), (zk HB.out hw109_1), (zk HB.out hw110_0), (zk HB.out hw110_1)⟩ (fun hHeld => ?_); refine with_tabW spec_IsShape.tab4 spec_IsShape.bits4 (fun HT_ HW_ => ?_)
   generalize wr.drew = w12 at HB hx107_0 hx107_1 hx109_0 hx109_1 hx110_0 hx110_1 hHeld ⊢
   refine zp 0 (some 10) ?_ zA35 rfl rfl (Or.inl ⟨by rfl, ?_⟩) ?_ ?_ ?_
   rotate_left
   ·intro w'
    go_simp
    with_reducible rfl
   rotate_left
   ·simp only [Act.put, xA, xB, xC, i64_w, i32_w]
    rfl
   refine zp 1 (some 11) ?_ zA36 rfl rfl (Or.inl ⟨by rfl, ?_⟩) ?_ ?_ ?_
   rotate_left
   ·intro w'
    go_simp
    with_reducible rfl
   rotate_left
   ·simp only [Act.put, xA, xB, xC, i64_w, i32_w]
    rfl
   refine zp 2 (some 12) ?_ zA37 rfl rfl (Or.inl ⟨by rfl, ?_⟩) ?_ ?_ ?_
   rotate_left
   ·intro w'
    go_simp
    with_reducible rfl
   rotate_left
   ·simp only [Act.put, xA, xB, xC, i64_w, i32_w]
    rfl
   refine zu 3 (some 13) ?_ zA38 rfl rfl (Or.inl ⟨by rfl, ?_⟩) hHeld ?_ ?_ ?_
   rotate_left
   ·rintro w' ⟨s0, s1, s2, s3, s4, s5⟩
    go_simp
    with_reducible rfl
   rotate_left
   ·simp only [Act.put, xA, xB, xC, i64_w, i32_w]
    rfl
   refine one_ (i := 4) (N := some 14) zA39 rfl rfl (one_of HT_.out (by kernel_rfl)) (by decide) (fun K hK => ?_)
   refine goes_ Try.func52 (by kernel_rfl) rfl #[.agg #[.int .i64 ((rd_T44 l0 x3_1).f0), .int .i64 ((rd_T44 l0 x3_1).f1)]] (by rfl) rfl rfl zm ?_
   with_reducible refine (spec_l02Cell.calls ((rd_T44 l0 x3_1).f0) ((rd_T44 l0 x3_1).f1) true _ A4.out).mono ?_
   rintro e w13 ⟨rfl, hb⟩
   refine ⟨_, rfl, ?_⟩
   have n0_ := aM (below_step zb hb)
   clear HB
   have HB := n0_
   clear n0_
   (try clear hb)
   (try clear hb2)
   (try clear hk)
   (try clear hi)
   refine hK.out _ _ ⟨(zk HB.out hw107_0), (zk HB.out hw107_1), (zk HB.out hw109_0), (zk HB.out hw109_1), (zk HB.out hw110_0), (zk HB.out hw110_1)⟩ (fun hHeld => ?_)
   clear hK K
   refine norm_ (a' := ?_) ?_ ?_
   rotate_left
   ·show Act.put _ (some 14) _ = _
    simp only [Act.put, xA, xB, xC, i64_w, i32_w]
    rfl
   refine zp 5 (some 15) ?_ zA40 rfl rfl (Or.inl ⟨by rfl, ?_⟩) ?_ ?_ ?_
   rotate_left
   ·intro w'
    go_simp
    with_reducible rfl
   rotate_left
   ·simp only [Act.put, xA, xB, xC, i64_w, i32_w]
    rfl
   refine zp 6 (some 16) ?_ zA41 rfl rfl (Or.inl ⟨by rfl, ?_⟩) ?_ ?_ ?_
   rotate_left
   ·intro w'
    go_simp
    with_reducible rfl
   rotate_left
   ·simp only [Act.put, xA, xB, xC, i64_w, i32_w]
    rfl
   refine zp 7 (some 17) ?_ zA42 rfl rfl (Or.inl ⟨by rfl, ?_⟩) ?_ ?_ ?_
   rotate_left
   ·intro w'
    go_simp
    with_reducible rfl
   rotate_left
   ·simp only [Act.put, xA, xB, xC, i64_w, i32_w]
    rfl
   refine zp 8 (some 18) ?_ zA43 rfl rfl (Or.inl ⟨by rfl, ?_⟩) ?_ ?_ ?_
   rotate_left
   ·intro w'
    go_simp
    with_reducible rfl
   rotate_left
   ·simp only [Act.put, xA, xB, xC, i64_w, i32_w]
    rfl
   refine zp 9 (some 19) ?_ zA44 rfl rfl (Or.inl ⟨by rfl, ?_⟩) ?_ ?_ ?_
   rotate_left
   ·intro w'
    go_simp
    with_reducible rfl
   rotate_left
   ·simp only [Act.put, xA, xB, xC, i64_w, i32_w]
    rfl
   refine zp 10 (some 20) ?_ zA45 rfl rfl (Or.inl ⟨by rfl, ?_⟩) ?_ ?_ ?_
   rotate_left
   ·intro w'
    go_simp
    with_reducible rfl
   rotate_left
   ·simp only [Act.put, xA, xB, xC, i64_w, i32_w]
    rfl
   refine zp 11 (some 21) ?_ zA46 rfl rfl (Or.inl ⟨by rfl, ?_⟩) ?_ ?_ ?_
   rotate_left
   ·intro w'
    go_simp
    with_reducible rfl
   rotate_left
   ·simp only [Act.put, xA, xB, xC, i64_w, i32_w]
    rfl
   refine zp 12 (some 22) ?_ zA47 rfl rfl (Or.inl ⟨by rfl, ?_⟩) ?_ ?_ ?_
   rotate_left
   ·intro w'
    go_simp
    with_reducible rfl
   rotate_left
   ·simp only [Act.put, xA, xB, xC, i64_w, i32_w]
    rfl
   refine zp 13 (some 23) ?_ zA48 rfl rfl (Or.inl ⟨by rfl, ?_⟩) ?_ ?_ ?_
   rotate_left
   ·intro w'
    go_simp
    with_reducible rfl
   rotate_left
   ·simp only [Act.put, xA, xB, xC, i64_w, i32_w]
    rfl
   refine zp 15 (some 25) ?_ zA58 rfl rfl (Or.inl ⟨by rfl, ?_⟩) ?_ ?_ ?_
   rotate_left
   ·intro w'
    go_simp
    with_reducible rfl
   rotate_left
   ·simp only [Act.put, xA, xB, xC, i64_w, i32_w]
    rfl
   refine zp 16 (some 26) ?_ zA59 rfl rfl (Or.inl ⟨by rfl, ?_⟩) ?_ ?_ ?_
   rotate_left
   ·intro w'
    go_simp
    with_reducible rfl
   rotate_left
   ·simp only [Act.put, xA, xB, xC, i64_w, i32_w]
    rfl
   refine zp 17 (some 27) ?_ zA60 rfl rfl (Or.inl ⟨by rfl, ?_⟩) ?_ ?_ ?_
   rotate_left
   ·intro w'
    go_simp
    with_reducible rfl
   rotate_left
   ·simp only [Act.put, xA, xB, xC, i64_w, i32_w]
    rfl
   refine zu 14 (some 24) ?_ zA52 rfl rfl (Or.inl ⟨by rfl, ?_⟩) hHeld ?_ ?_ ?_
   rotate_left
   ·rintro w' ⟨s0, s1, s2, s3, s4, s5⟩
    go_simp
    with_reducible rfl
   rotate_left
   ·simp only [Act.put, xA, xB, xC, i64_w, i32_w]
    rfl
   refine zu 18 (some 28) ?_ zA53 rfl rfl (Or.inl ⟨by rfl, ?_⟩) hHeld ?_ ?_ ?_
   rotate_left
   ·rintro w' ⟨s0, s1, s2, s3, s4, s5⟩
    go_simp
    with_reducible rfl
   rotate_left
   ·simp only [Act.put, xA, xB, xC, i64_w, i32_w]
    rfl
   refine one_ (i := 19) (N := some 29) zA54 rfl rfl (one_of HT_.out (by kernel_rfl)) (by decide) (fun K hK => ?_)
   refine goes_ Try.func53 (by kernel_rfl) rfl #[.agg #[.int .i64 ((rd_T44 l0 (ji7)).f0), .int .i64 ((rd_T44 l0 (ji7)).f1)], .agg #[.int .i64 ((rd_T44 l0 x3_1).f0), .int .i64 ((rd_T44 l0 x3_1).f1)]] (by rfl) rfl rfl (by (try simp only [mA, mB, mC]); first | done | (simp only [hji7]; rfl) | rfl | (simp only [lD, lT]; rfl)) ?_
   with_reducible refine (spec_l02Less.calls ((rd_T44 l0 (ji7)).f0) ((rd_T44 l0 (ji7)).f1) ((rd_T44 l0 x3_1).f0) ((rd_T44 l0 x3_1).f1) true _ A10.out).mono ?_
   rintro e w14 ⟨rfl, hb⟩
   refine ⟨_, rfl, ?_⟩
   have n0_ := aM (below_step zb hb)
   clear HB
   have HB := n0_
   clear n0_
   (try clear hb)
   (try clear hb2)
   (try clear hk)
   (try clear hi)
   refine hK.out _ _ ⟨(zk HB.out hw107_0), (zk HB.out hw107_1), (zk HB.out hw109_0), (zk HB.out hw109_1), (zk HB.out hw110_0), (zk HB.out hw110_1)⟩ (fun hHeld => ?_)
   clear hK K
   refine norm_ (a' := ?_) ?_ ?_
   rotate_left
   ·show Act.put _ (some 29) _ = _
    simp only [Act.put, xA, xB, xC, i64_w, i32_w]
    rfl
   refine zp 20 (some 30) ?_ zA55 rfl rfl (Or.inl ⟨by rfl, ?_⟩) ?_ ?_ ?_
   rotate_left
   ·intro w'
    go_simp
    with_reducible rfl
   rotate_left
   ·simp only [Act.put, xA, xB, xC, i64_w, i32_w]
    rfl
   refine zp 21 (some 31) ?_ zA56 rfl rfl (Or.inl ⟨by rfl, ?_⟩) ?_ ?_ ?_
   rotate_left
   ·intro w'
    go_simp
    with_reducible rfl
   rotate_left
   ·simp only [Act.put, xA, xB, xC, i64_w, i32_w]
    rfl
   refine zp 22 (some 32) ?_ zA57 rfl rfl (Or.inl ⟨by rfl, ?_⟩) ?_ ?_ ?_
   rotate_left
   ·intro w'
    go_simp
    with_reducible rfl
   rotate_left
   ·simp only [Act.put, xA, xB, xC, i64_w, i32_w]
    rfl
   refine done_ (done_of HT_.out (by kernel_rfl)) ?_
   try go_wp2
   go_roundg k1
   case measure => have := HK1.out; omega
   case rel => exact ⟨(wrap64 (x3_1 + 1)), zr, H', ⟨by have := HK1.out; omega⟩, ⟨zb⟩⟩
def spec_l03Code.f (k : Nat) (l0 : List (S44)) : Option (Int) := (spec_IsShape.f k l0).bind fun t414 => (if t414 = true then ((spec_l02Normal.f k l0).bind fun t415 => ((spec_IsShape.f k t415).bind fun t418 => (if t418 = true then (some 0) else (some 3)))) else (some 1))
theorem spec_l03Code.calls (k : Nat) (A0 : Option Addr) (c0 : Nat) (l0 : List (S44)) (r : Int) (w : World) (hr0 : Kd.C k44 w A0 l0.length l0) (hc0 : l0.length ≤ c0) (h : spec_l03Code.f k l0 = some r) :
  Calls Try.prog 61 #[.slice A0 l0.length c0] w fun e w' => e = .returned (.int .i64 r) ∧ Below w.heap.size w w' := by
 have HR0 := aM hr0
 have HC0 := aM hc0
 clear hr0 hc0
 have HB := aM (Below.refl w.heap.size w)
 have H : ((spec_IsShape.f k l0).bind fun t414 => (if t414 = true then ((spec_l02Normal.f k l0).bind fun t415 => ((spec_IsShape.f k t415).bind fun t418 => (if t418 = true then (some 0) else (some 3)))) else (some 1))) = some r := h
 clear h
 replace H := Option.bind_eq_some_iff.mp H
 obtain ⟨t414, A20, H⟩ := H
 replace H : (if t414 = true then ((spec_l02Normal.f k l0).bind fun t415 => ((spec_IsShape.f k t415).bind fun t418 => (if t418 = true then (some 0) else (some 3)))) else (some 1)) = some r := H
 have A2 := aM A20
 clear A20
 by_cases c3 : t414 = true
 rotate_left
 ·replace c3 := Bool.eq_false_iff.mpr c3
  subst c3
  have H1 : (some 1) = some r := by rw [if_neg (show ¬ (false = true) by decide)] at H; exact H
  clear H
  have H := H1
  clear H1
  obtain rfl := Option.some.inj H
  go_enter Try.func61, Try.ntmps61
  go_wp2_with (first | ((with_reducible refine gate_callee (f := 32) rfl ?_); refine goesL_ (some 4) rfl rfl Try.func32 (by kernel_rfl) rfl #[.slice A0 l0.length c0] rfl zm ?_; (with_reducible refine (spec_IsShape.calls k _ _ l0 false _ ?side1 ?side2 A2.out).mono ?_); (case side1 => repeat (first | exact HR0.out | (with_reducible refine Kd.C_alloc ?_ _) | (with_reducible refine Kd.C_drewN ?_ _) | (with_reducible refine Kd.C_drew ?_))); (case side2 => exact HC0.out); rintro e w15 ⟨rfl, hb⟩; refine ⟨_, rfl, ?_⟩; have n0_ := aM (below_step zb hb); clear HB; have HB := n0_; clear n0_; (try clear hb); (try clear hb2); (try clear hk); (try clear hi)))
  go_ret
  exact ⟨zw, zb⟩
 subst c3
 have H1 : ((spec_l02Normal.f k l0).bind fun t415 => ((spec_IsShape.f k t415).bind fun t418 => (if t418 = true then (some 0) else (some 3)))) = some r := by rw [if_pos rfl] at H; exact H
 clear H
 have H := H1
 clear H1
 replace H := Option.bind_eq_some_iff.mp H
 obtain ⟨t415, A40, H⟩ := H
 replace H : ((spec_IsShape.f k t415).bind fun t418 => (if t418 = true then (some 0) else (some 3))) = some r := H
 have A4 := aM A40
 clear A40
 replace H := Option.bind_eq_some_iff.mp H
 obtain ⟨t418, A50, H⟩ := H
 replace H : (if t418 = true then (some 0) else (some 3)) = some r := H
 have A5 := aM A50
 clear A50
 by_cases c6 : t418 = true
 ·subst c6
  have H1 : (some 0) = some r := by rw [if_pos rfl] at H; exact H
  clear H
  have H := H1
  clear H1
  obtain rfl := Option.some.inj H
  go_enter Try.func61, Try.ntmps61
  go_wp2_with (first | ((with_reducible refine gate_callee (f := 32) rfl ?_); refine goesL_ (some 4) rfl rfl Try.func32 (by kernel_rfl) rfl #[.slice A0 l0.length c0] rfl zm ?_; (with_reducible refine (spec_IsShape.calls k _ _ l0 true _ ?side1 ?side2 A2.out).mono ?_); (case side1 => repeat (first | exact HR0.out | (with_reducible refine Kd.C_alloc ?_ _) | (with_reducible refine Kd.C_drewN ?_ _) | (with_reducible refine Kd.C_drew ?_))); (case side2 => exact HC0.out); rintro e w7 ⟨rfl, hb⟩; refine ⟨_, rfl, ?_⟩; have n0_ := aM (below_step zb hb); clear HB; have HB := n0_; clear n0_; (try clear hb); (try clear hb2); (try clear hk); (try clear hi)) | ((with_reducible refine gate_callee (f := 76) rfl ?_); refine goesL_ (some 7) rfl rfl Try.func76 (by kernel_rfl) rfl #[.slice A0 l0.length c0] rfl zm ?_; (with_reducible refine (spec_l02Normal.calls k _ _ l0 t415 _ ?side1 ?side2 A4.out).mono ?_); (case side1 => repeat (first | exact (Kd.C_below HR0.out HB.out) | (with_reducible refine Kd.C_alloc ?_ _) | (with_reducible refine Kd.C_drewN ?_ _) | (with_reducible refine Kd.C_drew ?_))); (case side2 => exact HC0.out); rintro e w8 ⟨v416, rfl, ho0, hb⟩; refine ⟨_, rfl, ?_⟩; have n0_ := aM (Kd.R_lower ho0 (below_size zb)); have n1_ := aM (below_step zb hb); clear HB; have HO417 := n0_; have HB := n1_; clear n0_ n1_; (try clear hb); (try clear hb2); (try clear hk); (try clear hi); (try clear ho0); obtain ⟨Ao9, co9, eo9⟩ := Kd.R_slice HO417.out; subst eo9) | ((with_reducible refine gate_callee (f := 32) rfl ?_); refine goesL_ (some 8) rfl rfl Try.func32 (by kernel_rfl) rfl #[.slice Ao9 t415.length co9] rfl zm ?_; (with_reducible refine (spec_IsShape.calls k _ _ t415 true _ ?side1 ?side2 A5.out).mono ?_); (case side1 => exact zc HO417.out); (case side2 => exact (Kd.R_reads' HO417.out).2.1); rintro e w10 ⟨rfl, hb⟩; refine ⟨_, rfl, ?_⟩; have n0_ := aM (Kd.R_below (mR_ HO417.out) hb); have n1_ := aM (below_step zb hb); clear HO417 HB; have HO417 := n0_; have HB := n1_; clear n0_ n1_; (try clear hb); (try clear hb2); (try clear hk); (try clear hi)))
  go_ret
  exact ⟨zw, zb⟩
 replace c6 := Bool.eq_false_iff.mpr c6
 subst c6
 have H1 : (some 3) = some r := by rw [if_neg (show ¬ (false = true) by decide)] at H; exact H
 clear H
 have H := H1
 clear H1
 obtain rfl := Option.some.inj H
 go_enter Try.func61, Try.ntmps61
 go_wp2_with (first | ((with_reducible refine gate_callee (f := 32) rfl ?_); refine goesL_ (some 4) rfl rfl Try.func32 (by kernel_rfl) rfl #[.slice A0 l0.length c0] rfl zm ?_; (with_reducible refine (spec_IsShape.calls k _ _ l0 true _ ?side1 ?side2 A2.out).mono ?_); (case side1 => repeat (first | exact HR0.out | (with_reducible refine Kd.C_alloc ?_ _) | (with_reducible refine Kd.C_drewN ?_ _) | (with_reducible refine Kd.C_drew ?_))); (case side2 => exact HC0.out); rintro e w11 ⟨rfl, hb⟩; refine ⟨_, rfl, ?_⟩; have n0_ := aM (below_step zb hb); clear HB; have HB := n0_; clear n0_; (try clear hb); (try clear hb2); (try clear hk); (try clear hi)) | ((with_reducible refine gate_callee (f := 76) rfl ?_); refine goesL_ (some 7) rfl rfl Try.func76 (by kernel_rfl) rfl #[.slice A0 l0.length c0] rfl zm ?_; (with_reducible refine (spec_l02Normal.calls k _ _ l0 t415 _ ?side1 ?side2 A4.out).mono ?_); (case side1 => repeat (first | exact (Kd.C_below HR0.out HB.out) | (with_reducible refine Kd.C_alloc ?_ _) | (with_reducible refine Kd.C_drewN ?_ _) | (with_reducible refine Kd.C_drew ?_))); (case side2 => exact HC0.out); rintro e w12 ⟨v416, rfl, ho0, hb⟩; refine ⟨_, rfl, ?_⟩; have n0_ := aM (Kd.R_lower ho0 (below_size zb)); have n1_ := aM (below_step zb hb); clear HB; have HO417 := n0_; have HB := n1_; clear n0_ n1_; (try clear hb); (try clear hb2); (try clear hk); (try clear hi); (try clear ho0); obtain ⟨Ao13, co13, eo13⟩ := Kd.R_slice HO417.out; subst eo13) | ((with_reducible refine gate_callee (f := 32) rfl ?_); refine goesL_ (some 8) rfl rfl Try.func32 (by kernel_rfl) rfl #[.slice Ao13 t415.length co13] rfl zm ?_; (with_reducible refine (spec_IsShape.calls k _ _ t415 false _ ?side1 ?side2 A5.out).mono ?_); (case side1 => exact zc HO417.out); (case side2 => exact (Kd.R_reads' HO417.out).2.1); rintro e w14 ⟨rfl, hb⟩; refine ⟨_, rfl, ?_⟩; have n0_ := aM (Kd.R_below (mR_ HO417.out) hb); have n1_ := aM (below_step zb hb); clear HO417 HB; have HO417 := n0_; have HB := n1_; clear n0_ n1_; (try clear hb); (try clear hb2); (try clear hk); (try clear hi)))
 go_ret
 exact ⟨zw, zb⟩
def spec_l06Code.f (k : Nat) (l0 : List (S44)) : Option (Int) := (spec_l03Code.f k l0).bind fun t419 => (some t419)
theorem spec_l06Code.calls (k : Nat) (A0 : Option Addr) (c0 : Nat) (l0 : List (S44)) (r : Int) (w : World) (hr0 : Kd.C k44 w A0 l0.length l0) (hc0 : l0.length ≤ c0) (h : spec_l06Code.f k l0 = some r) :
  Calls Try.prog 43 #[.slice A0 l0.length c0] w fun e w' => e = .returned (.int .i64 r) ∧ Below w.heap.size w w' := by
 have HR0 := aM hr0
 have HC0 := aM hc0
 clear hr0 hc0
 have HB := aM (Below.refl w.heap.size w)
 have H : ((spec_l03Code.f k l0).bind fun t419 => (some t419)) = some r := h
 clear h
 replace H := Option.bind_eq_some_iff.mp H
 obtain ⟨t419, A20, H⟩ := H
 replace H : (some t419) = some r := H
 have A2 := aM A20
 clear A20
 obtain rfl := Option.some.inj H
 go_enter Try.func43, Try.ntmps43
 go_wp2_with (first | ((with_reducible refine gate_callee (f := 61) rfl ?_); refine goesL_ (some 4) rfl rfl Try.func61 (by kernel_rfl) rfl #[.slice A0 l0.length c0] rfl zm ?_; (with_reducible refine (spec_l03Code.calls k _ _ l0 t419 _ ?side1 ?side2 A2.out).mono ?_); (case side1 => repeat (first | exact HR0.out | (with_reducible refine Kd.C_alloc ?_ _) | (with_reducible refine Kd.C_drewN ?_ _) | (with_reducible refine Kd.C_drew ?_))); (case side2 => exact HC0.out); rintro e w3 ⟨rfl, hb⟩; refine ⟨_, rfl, ?_⟩; have n0_ := aM (below_step zb hb); clear HB; have HB := n0_; clear n0_; (try clear hb); (try clear hb2); (try clear hk); (try clear hi)))
 go_ret
 exact ⟨zw, zb⟩
def spec_l04Size.l0 : Nat → List (S44) → Int → Int → Int → Int → Int → Option (Int × Int)
 | 0, _, _, _, _, _, _ => none
 | k + 1, x0, x4, x5, x6, x7, x8 => if x8 < (x0.length : Int) then (if 0 ≤ x8 then (spec_l04Size.l0 k x0 x4 x5 (mx x6 (wrap64 ((wrap64 (((rd_T44 x0 x8).f0) - x4)) + 1))) (mx x7 (wrap64 ((wrap64 (((rd_T44 x0 x8).f1) - x5)) + 1))) (wrap64 (x8 + 1))) else (none)) else (some (x6, x7))
def spec_l04Size.f (k : Nat) (l0 : List (S44)) : Option (Int × Int) := (spec_l02Least.f k l0).bind fun bt420 => (spec_l04Size.l0 k l0 bt420.1 bt420.2 0 0 0)
theorem spec_l04Size.calls (k : Nat) (A0 : Option Addr) (c0 : Nat) (l0 : List (S44)) (r1 : Int) (r2 : Int) (w : World) (hr0 : Kd.C k44 w A0 l0.length l0) (hc0 : l0.length ≤ c0) (h : spec_l04Size.f k l0 = some (r1, r2)) :
  Calls Try.prog 63 #[.slice A0 l0.length c0] w fun e w' => e = .returned (.tuple #[.int .i64 r1, .int .i64 r2]) ∧ Below w.heap.size w w' := by
 have HR0 := aM hr0
 have HC0 := aM hc0
 clear hr0 hc0
 have HB := aM (Below.refl w.heap.size w)
 have H : ((spec_l02Least.f k l0).bind fun bt420 => (spec_l04Size.l0 k l0 bt420.1 bt420.2 0 0 0)) = some (r1, r2) := h
 clear h
 replace H := Option.bind_eq_some_iff.mp H
 obtain ⟨⟨t420, t421⟩, A20, H⟩ := H
 replace H : (spec_l04Size.l0 k l0 t420 t421 0 0 0) = some (r1, r2) := H
 have A2 := aM A20
 clear A20
 have H' := aM H
 clear H
 go_enter Try.func63, Try.ntmps63
 go_wp2_with (first | ((with_reducible refine gate_callee (f := 62) rfl ?_); refine goesL_ (some 11) rfl rfl Try.func62 (by kernel_rfl) rfl #[.slice A0 l0.length c0] rfl zm ?_; (with_reducible refine (spec_l02Least.calls k _ _ l0 t420 t421 _ ?side1 ?side2 A2.out).mono ?_); (case side1 => repeat (first | exact HR0.out | (with_reducible refine Kd.C_alloc ?_ _) | (with_reducible refine Kd.C_drewN ?_ _) | (with_reducible refine Kd.C_drew ?_))); (case side2 => exact HC0.out); rintro e w3 ⟨rfl, hb⟩; refine ⟨_, rfl, ?_⟩; have n0_ := aM (below_step zb hb); clear HB; have HB := n0_; clear n0_; (try clear hb); (try clear hb2); (try clear hk); (try clear hi)))
 go_loopg [6, 7, 8] k (fun kq v6 v7 v8 w' => ∃ (x6_1 : Int) (x7_1 : Int) (x8_1 : Int), v6 = .int .i64 x6_1 ∧ v7 = .int .i64 x7_1 ∧ v8 = .int .i64 x8_1 ∧ Aside0 (spec_l04Size.l0 kq l0 t420 t421 x6_1 x7_1 x8_1 = some (r1, r2)) ∧ Aside0 (kq ≤ k) ∧ Aside0 (Below w.heap.size w w'))
 case atStart => exact ⟨(0), (0), (0), zr, zr, zr, H', ⟨Nat.le_refl _⟩, ⟨zb⟩⟩
 case round =>
  clear H'
  try clear p2
  obtain ⟨x6_1, x7_1, x8_1, rfl, rfl, rfl, HA, HK1, HB⟩ := hrel
  cases gk with
  | zero => exact absurd HA.out (by simp [spec_l04Size.l0])
  | succ k1 =>
   have H := HA.out
   clear HA
   simp only [spec_l04Size.l0] at H
   by_cases c4 : x8_1 < (l0.length : Int)
   rotate_left
   ·rw [if_neg c4] at H
    have c4b0 : decide (x8_1 < (l0.length : Int)) = false := decide_eq_false c4
    clear c4
    simp only [Option.some.injEq, Prod.mk.injEq] at H
    obtain ⟨rfl, rfl⟩ := H
    go_wp2
    go_ret2
    exact ⟨zw, zb⟩
   rw [if_pos c4] at H
   have c4b0 : decide (x8_1 < (l0.length : Int)) = true := decide_eq_true c4
   clear c4
   by_cases c5 : 0 ≤ x8_1
   rotate_left
   ·rw [if_neg c5] at H
    exact absurd H (by simp)
   rw [if_pos c5] at H
   have c5b0 : decide (0 ≤ x8_1) = true := decide_eq_true c5
   clear c5
   obtain ⟨ji6, hji6⟩ : ∃ j_ : Int, (mx x6_1 (wrap64 ((wrap64 (((rd_T44 l0 x8_1).f0) - t420)) + 1))) = j_ := ⟨_, rfl⟩
   replace H : (spec_l04Size.l0 k1 l0 t420 t421 ji6 (mx x7_1 (wrap64 ((wrap64 (((rd_T44 l0 x8_1).f1) - t421)) + 1))) (wrap64 (x8_1 + 1))) = some (r1, r2) := by first | (rw [hji6] at H; exact H) | (simp only [hji6] at H ⊢; exact H)
   have hji6_ : (if x6_1 < (wrap64 ((wrap64 (((rd_T44 l0 x8_1).f0) - t420)) + 1)) then (wrap64 ((wrap64 (((rd_T44 l0 x8_1).f0) - t420)) + 1)) else x6_1) = ji6 := hji6
   obtain ⟨ji7, hji7⟩ : ∃ j_ : Int, (mx x7_1 (wrap64 ((wrap64 (((rd_T44 l0 x8_1).f1) - t421)) + 1))) = j_ := ⟨_, rfl⟩
   replace H : (spec_l04Size.l0 k1 l0 t420 t421 ji6 ji7 (wrap64 (x8_1 + 1))) = some (r1, r2) := by first | (rw [hji7] at H; exact H) | (simp only [hji7] at H ⊢; exact H)
   have hji7_ : (if x7_1 < (wrap64 ((wrap64 (((rd_T44 l0 x8_1).f1) - t421)) + 1)) then (wrap64 ((wrap64 (((rd_T44 l0 x8_1).f1) - t421)) + 1)) else x7_1) = ji7 := hji7
   have H' := aM H
   clear H
   have p422 : 0 ≤ (x8_1 : Int) := of_decide_eq_true za
   have q422 : x8_1 < (l0.length : Int) := of_decide_eq_true za
   obtain ⟨ad422, e422, hx422_0, hx422_1⟩ := at_T44 HR0.out x8_1 p422 q422
   cases e422
   replace hx422_0 := zk HB.out hx422_0
   replace hx422_1 := zk HB.out hx422_1
   replace p422 := eq_true p422
   replace q422 := eq_true q422
   have p423 : 0 ≤ (x8_1 : Int) := of_decide_eq_true za
   have q423 : x8_1 < (l0.length : Int) := of_decide_eq_true za
   obtain ⟨ad423, e423, hx423_0, hx423_1⟩ := at_T44 HR0.out x8_1 p423 q423
   obtain rfl : ad422 = ad423 := (by injection e423)
   replace hx423_0 := zk HB.out hx423_0
   replace hx423_1 := zk HB.out hx423_1
   replace p423 := eq_true p423
   replace q423 := eq_true q423
   go_wp2
   go_roundg k1
   case measure => have := HK1.out; omega
   case rel => exact ⟨(ji6), (ji7), (wrap64 (x8_1 + 1)), (by first | rfl | (simp; done) | (simp only [← hji6] <;> (first | rfl | simp)) | (simp [*]; done)), (by first | rfl | (simp; done) | (simp only [← hji7] <;> (first | rfl | simp)) | (simp [*]; done)), zr, H', ⟨by have := HK1.out; omega⟩, ⟨zb⟩⟩
mutual
def spec_l02Parts.l0 : Nat → List (S44) → List Int → Int → Option (List Int)
 | 0, _, _, _ => none
 | k + 1, x0, x3, x4 => if x4 < (x0.length : Int) then (if x3.length < 17592186044416 then (spec_l02Parts.l0 k x0 (x3 ++ [(-1)]) (wrap64 (x4 + 1))) else (none)) else (spec_l02Parts.l1 k x0 x3 0)
def spec_l02Parts.l1 : Nat → List (S44) → List Int → Int → Option (List Int)
 | 0, _, _, _ => none
 | k + 1, x0, x3, x5 => if x5 < (x0.length : Int) then (if 0 ≤ x5 then (if x5 < (x3.length : Int) then (if (rd x3 x5) ≥ 0 then (spec_l02Parts.l1 k x0 x3 (wrap64 (x5 + 1))) else (spec_l02Parts.l2 k x0 (x3.set (x5 : Int).toNat x5) x5 (([x5] : List Int)))) else (none)) else (none)) else (some x3)
def spec_l02Parts.l2 : Nat → List (S44) → List Int → Int → List Int → Option (List Int)
 | 0, _, _, _, _ => none
 | k + 1, x0, x3, x5, x6 => if (x6.length : Int) > 0 then (if 0 < (x6.length : Int) then (if 0 ≤ (rd x6 0) then (if (rd x6 0) < (x0.length : Int) then ((spec_l02Around.f ((rd_T44 x0 (rd x6 0)).f0) ((rd_T44 x0 (rd x6 0)).f1)).bind fun t437 => (if 1 ≤ (x6.length : Int) then (spec_l02Parts.l3 k x0 x3 x5 (x6.drop (1 : Int).toNat) t437 0) else (none))) else (none)) else (none)) else (none)) else (spec_l02Parts.l1 k x0 x3 (wrap64 (x5 + 1)))
def spec_l02Parts.l3 : Nat → List (S44) → List Int → Int → List Int → List (S44) → Int → Option (List Int)
 | 0, _, _, _, _, _, _ => none
 | k + 1, x0, x3, x5, x6, x7, x8 => if x8 < 4 then (if 0 ≤ x8 then (if x8 < (x7.length : Int) then ((spec_l02Index.f k x0 ((rd_T44 x7 x8).f0) ((rd_T44 x7 x8).f1)).bind fun t444 => (if t444 ≥ 0 then (if 0 ≤ t444 then (if t444 < (x3.length : Int) then (if (rd x3 t444) < 0 then (if x6.length < 17592186044416 then (spec_l02Parts.l3 k x0 (x3.set (t444 : Int).toNat x5) x5 (x6 ++ [t444]) x7 (wrap64 (x8 + 1))) else (none)) else (spec_l02Parts.l3 k x0 x3 x5 x6 x7 (wrap64 (x8 + 1)))) else (none)) else (none)) else (spec_l02Parts.l3 k x0 x3 x5 x6 x7 (wrap64 (x8 + 1))))) else (none)) else (none)) else (spec_l02Parts.l2 k x0 x3 x5 x6)
end
def spec_l02Parts.f (k : Nat) (l0 : List (S44)) : Option (List Int) := spec_l02Parts.l0 k l0 (([] : List Int)) 0
theorem spec_l02Parts.calls (k : Nat) (A0 : Option Addr) (c0 : Nat) (l0 : List (S44)) (r : List Int) (w : World) (hr0 : Kd.C k44 w A0 l0.length l0) (hc0 : l0.length ≤ c0) (h : spec_l02Parts.f k l0 = some r) :
  Calls Try.prog 64 #[.slice A0 l0.length c0] w fun e w' => ∃ v0_ : Value, e = .returned (v0_) ∧ Kd.R (Kd.int .i64) 2 w' w.heap.size (fun _ => True) v0_ r ∧ Below w.heap.size w w' := by
 have hu44 := Try.underlying44
 have HR0 := aM hr0
 have HC0 := aM hc0
 clear hr0 hc0
 have HB := aM (Below.refl w.heap.size w)
 have H : (spec_l02Parts.l0 k l0 (([] : List Int)) 0) = some r := h
 clear h
 obtain ⟨y424, hy424⟩ : ∃ y_ : List Int, y_ = (([] : List Int)) := ⟨_, rfl⟩
 replace H : (spec_l02Parts.l0 k l0 y424 0) = some r := zy H hy424
 have Ny424 := aM hy424
 clear hy424
 have H' := aM H
 clear H
 go_enter Try.func64, Try.ntmps64
 go_wp2_with (first | ((with_reducible refine gate_dst (N := 10) rfl ?_); refine Kd.R_lit (Kd.int .i64) _ 2 ?hg (N := 10) ?hd (xs := ([] : List Int)) (inner := []) (ok := fun _ => True) (okp := fun _ => True) ?hr ?hp (fun _ hk => hk) trivial (Below.refl _ _) (Nat.le_refl _) (by simp) ?_; (case hd => rfl); (case hg => rfl); (case hr => first | (go_simp; done) | (go_simp; rfl)); (case hp => exact (Reps.none _ _)); intro v425 w2 ho3 hb hg_ hnew_; clear hg_ hnew_; (first | rw [← Ny424.out] at ho3 | (simp only [Int.reduceToNat] at ho3; rw [← Ny424.out] at ho3)); have n0_ := aM (Kd.R_lower ho3 (below_size zb)); have n1_ := aM (below_step zb hb); clear HB; have HO426 := n0_; have HB := n1_; clear n0_ n1_; clear hb ho3))
 go_loopg [3, 4] k (fun kq v3 v4 w' => ∃ (x3_1 : List Int) (x4_1 : Int), v4 = .int .i64 x4_1 ∧ Aside0 (spec_l02Parts.l0 kq l0 x3_1 x4_1 = some r) ∧ Aside0 (kq ≤ k) ∧ Aside0 (Kd.R (Kd.int .i64) 2 w' w.heap.size (fun _ => True) v3 x3_1) ∧ Aside0 (Below w.heap.size w w'))
 case atStart => exact ⟨(y424), (0), zr, H', ⟨Nat.le_refl _⟩, ⟨mR_ HO426.out⟩, ⟨zb⟩⟩
 case round =>
  clear H'
  try clear p2
  obtain ⟨x3_1, x4_1, rfl, HA, HK1, HO_3, HB⟩ := hrel
  cases gk with
  | zero => exact absurd HA.out (by simp [spec_l02Parts.l0])
  | succ k1 =>
   have H := HA.out
   clear HA
   simp only [spec_l02Parts.l0] at H
   by_cases c4 : x4_1 < (l0.length : Int)
   ·rw [if_pos c4] at H
    have c4b0 : decide (x4_1 < (l0.length : Int)) = true := decide_eq_true c4
    clear c4
    by_cases c5 : x3_1.length < 17592186044416
    rotate_left
    ·rw [if_neg c5] at H
     exact absurd H (by simp)
    rw [if_pos c5] at H
    have LMc5 := aM c5
    clear c5
    obtain ⟨y427, hy427⟩ : ∃ y_ : List Int, y_ = (x3_1 ++ [(-1)]) := ⟨_, rfl⟩
    replace H : (spec_l02Parts.l0 k1 l0 y427 (wrap64 (x4_1 + 1))) = some r := zy H hy427
    have Ny427 := aM hy427
    clear hy427
    have H' := aM H
    clear H
    go_wp2_with (first | ((with_reducible refine gate_builtin (b := .append) (xs := #[.tmp 17, .tmp 18]) rfl ?_); at_builtin; refine Kd.R_append (Kd.int .i64) (w0 := w) w.heap.size rfl (.tmp 17) (.tmp 18) 33 2 (.int .i64 0) 8 rfl Try.underlying33 info2 rfl (by decide) (by omega) u3 x3_1 (-1) [.int .i64 (-1)] (fun _ => True) (fun _ => False) rfl rfl ?aP (fun _ hk => hk.elim) ?aF ?aO ?aB ?aS ?aL ?_; (case aP => exact rfl); (case aB => exact zb); (case aF => exact (fun _ _ => trivial)); (case aO => exact (mR_ HO_3.out)); (case aS => exact (below_size zb)); (case aL => have := LMc5.out; omega); intro v428 w6 ho hb hg hat; rw [← Ny427.out] at ho; have n0_ := aM (hb); have n1_ := aM (ho); clear HB HO_3; have HB := n0_; have HO429 := n1_; clear n0_ n1_; clear ho hb hg hat))
    go_roundg k1
    case measure => have := HK1.out; omega
    case rel => exact ⟨(y427), (wrap64 (x4_1 + 1)), zr, H', ⟨by have := HK1.out; omega⟩, ⟨mR_ HO429.out⟩, ⟨zb⟩⟩
   rw [if_neg c4] at H
   have c4b0 : decide (x4_1 < (l0.length : Int)) = false := decide_eq_false c4
   clear c4
   have H' := aM H
   clear H
   go_wp2
   go_loopg [5] k1 (fun kq v5 w' => ∃ (x3_2 : List Int) (x5_2 : Int), v5 = .int .i64 x5_2 ∧ Aside0 (spec_l02Parts.l1 kq l0 x3_2 x5_2 = some r) ∧ Aside0 (kq ≤ k1) ∧ Aside0 (Kd.R (Kd.int .i64) 2 w' w.heap.size (fun _ => True) u3 x3_2) ∧ Aside0 (Below w.heap.size w w'))
   case atStart => exact ⟨(x3_1), (0), zr, H', ⟨Nat.le_refl _⟩, ⟨mR_ HO_3.out⟩, ⟨zb⟩⟩
   case round =>
    clear H'
    try clear p2
    try clear c4
    try clear c4b0
    try clear c5
    try clear c6
    try clear p6
    try clear p2
    obtain ⟨x3_2, x5_2, rfl, HA, HK2, HO_3, HB⟩ := hrel
    cases gk with
    | zero => exact absurd HA.out (by simp [spec_l02Parts.l1])
    | succ k2 =>
     have H := HA.out
     clear HA
     simp only [spec_l02Parts.l1] at H
     by_cases c7 : x5_2 < (l0.length : Int)
     rotate_left
     ·rw [if_neg c7] at H
      have c7b0 : decide (x5_2 < (l0.length : Int)) = false := decide_eq_false c7
      clear c7
      obtain rfl := Option.some.inj H
      go_wp2
      go_ret
      exact ⟨_, zw, mR_ HO_3.out, zb⟩
     rw [if_pos c7] at H
     have c7b0 : decide (x5_2 < (l0.length : Int)) = true := decide_eq_true c7
     clear c7
     by_cases c8 : 0 ≤ x5_2
     rotate_left
     ·rw [if_neg c8] at H
      exact absurd H (by simp)
     rw [if_pos c8] at H
     have c8b0 : decide (0 ≤ x5_2) = true := decide_eq_true c8
     clear c8
     by_cases c9 : x5_2 < (x3_2.length : Int)
     rotate_left
     ·rw [if_neg c9] at H
      exact absurd H (by simp)
     rw [if_pos c9] at H
     have c9b0 : decide (x5_2 < (x3_2.length : Int)) = true := decide_eq_true c9
     clear c9
     by_cases c10 : (rd x3_2 x5_2) ≥ 0
     ·rw [if_pos c10] at H
      have c10b0 : decide (0 ≤ (rd x3_2 x5_2)) = true := decide_eq_true c10
      clear c10
      have H' := aM H
      clear H
      obtain ⟨Ao11, co11, eo11⟩ := Kd.R_slice HO_3.out
      subst eo11
      have p430 : 0 ≤ (x5_2 : Int) := of_decide_eq_true za
      have q430 : x5_2 < (x3_2.length : Int) := of_decide_eq_true za
      obtain ⟨ad430, e430, hx430_0⟩ := Kd.at_int (Kd.R_reads' HO_3.out).2.2 x5_2 p430 q430
      cases e430
      replace p430 := eq_true p430
      replace q430 := eq_true q430
      go_wp2
      go_roundg k2
      case measure => have := HK1.out; have := HK2.out; omega
      case rel => exact ⟨(x3_2), (wrap64 (x5_2 + 1)), zr, H', ⟨by have := HK1.out; have := HK2.out; omega⟩, ⟨mR_ HO_3.out⟩, ⟨zb⟩⟩
     rw [if_neg c10] at H
     have c10b0 : decide (0 ≤ (rd x3_2 x5_2)) = false := decide_eq_false c10
     clear c10
     obtain ⟨y431, hy431⟩ : ∃ y_ : List Int, y_ = (x3_2.set (x5_2 : Int).toNat x5_2) := ⟨_, rfl⟩
     replace H : (spec_l02Parts.l2 k2 l0 y431 x5_2 (([x5_2] : List Int))) = some r := zy H hy431
     have Ny431 := aM hy431
     clear hy431
     obtain ⟨y432, hy432⟩ : ∃ y_ : List Int, y_ = (([x5_2] : List Int)) := ⟨_, rfl⟩
     replace H : (spec_l02Parts.l2 k2 l0 y431 x5_2 y432) = some r := zy H hy432
     have Ny432 := aM hy432
     clear hy432
     have H' := aM H
     clear H
     obtain ⟨Ao13, co13, eo13⟩ := Kd.R_slice HO_3.out
     subst eo13
     have p430 : 0 ≤ (x5_2 : Int) := of_decide_eq_true za
     have q430 : x5_2 < (x3_2.length : Int) := of_decide_eq_true za
     obtain ⟨ad430, e430, hx430_0⟩ := Kd.at_int (Kd.R_reads' HO_3.out).2.2 x5_2 p430 q430
     cases e430
     replace p430 := eq_true p430
     replace q430 := eq_true q430
     have p12 : 0 ≤ (x5_2 : Int) := of_decide_eq_true za
     have q12 : (x5_2 : Int) < ((x3_2.length : Int) : Int) := of_decide_eq_true za
     obtain ⟨go12, co12, eo12, gb12, gl12, cl12, HG12⟩ := Kd.R_form HO_3.out (by omega)
     (first | cases eo12 | (injection eo12 with ea_ en_ ec_; (first | subst ea_ | (injection ea_ with ea_; subst ea_)); subst ec_; clear en_))
     have GB12 := aM gb12
     have GG12 := aM HG12
     clear gb12 gl12 HG12
     (first | simp only [add_plain] at hx430_0 | skip)
     obtain ⟨hx12_0, hf12_0⟩ := Kd.R_celln 0 HO_3.out (x5_2 : Int) p12 q12
     replace p12 := eq_true p12
     replace q12 := eq_true q12
     have HP14 := Kd.R_putg HO_3.out (x5_2 : Int) x5_2
     go_wp2_with (first | ((with_reducible refine gate_store (t := 2) (p := 34) rfl ?_); refine store_event (t := 2) (p := 34) (v := ?vo_w15) (w1 := (wr.setCell ⟨go12, (x5_2 : Int).toNat, none⟩ (.int .i64 x5_2))) ?hg ?ho ?hn ?hr ?_; (case ho => rfl); (case hg => rfl); (case hn => rfl); (case hr => first | (go_simp; done) | (go_simp; rfl)); intro w15 hw; have hg : wr.grownBy w15 (some go12) := (by rw [hw]; exact HP14.2); have hp_ : Kd.R (Kd.int .i64) 2 w15 w.heap.size (fun _ => True) (.slice (some ⟨go12, 0, none⟩) x3_2.length co13) y431 := (by rw [hw, Ny431.out]; exact HP14.1); clear HP14; have n0_ := aM (hp_); have n1_ := aM ((by rw [hw]; exact below_set (HB.out) GB12.out : Below w.heap.size w w15)); clear HO_3 HB; have HO_3 := n0_; have HB := n1_; clear n0_ n1_; clear hg hw hp_) | ((with_reducible refine gate_dst (N := 36) rfl ?_); refine Kd.R_lit (Kd.int .i64) _ 2 ?hg (N := 36) ?hd (xs := ([x5_2] : List Int)) (inner := [.int .i64 x5_2]) (ok := fun _ => True) (okp := fun _ => True) ?hr ?hp (fun _ hk => hk) trivial (Below.refl _ _) (Nat.le_refl _) (by simp) ?_; (case hd => rfl); (case hg => rfl); (case hr => first | (go_simp; done) | (go_simp; rfl)); (case hp => exact (Reps.one (show Kd.M (Kd.int .i64) _ _ _ x5_2 [.int .i64 x5_2] from rfl) (Reps.none _ _))); intro v433 w16 ho17 hb hg_ hnew_; clear hg_ hnew_; (first | rw [← Ny432.out] at ho17 | (simp only [Int.reduceToNat] at ho17; rw [← Ny432.out] at ho17)); have n0_ := aM (Kd.R_elder' (mR_ HO_3.out) (Kd.R_base ho17) hb); have n1_ := aM (Kd.R_lower (Kd.R_new' ho17 (Kd.R_lt (mR_ HO_3.out))) (below_size zb)); have n2_ := aM (below_step zb hb); clear HO_3 HB; have HO_3 := n0_; have HO434 := n1_; have HB := n2_; clear n0_ n1_ n2_; clear hb ho17))
     go_loopg [6] k2 (fun kq v6 w' => ∃ (x3_3 : List Int) (x6_3 : List Int), Aside0 (spec_l02Parts.l2 kq l0 x3_3 x5_2 x6_3 = some r) ∧ Aside0 (kq ≤ k2) ∧ Aside0 (Kd.R (Kd.int .i64) 2 w' w.heap.size (fun k_ => some k_ ≠ (v6 : Value).ownBlock) (.slice (some ⟨go12, 0, none⟩) x3_2.length co13) x3_3) ∧ Aside0 (Kd.Q (Kd.int .i64) 2 w' w.heap.size (fun k_ => some k_ ≠ ((.slice (some ⟨go12, 0, none⟩) x3_2.length co13) : Value).ownBlock) v6 x6_3) ∧ Aside0 (Below w.heap.size w w'))
     case atStart => exact ⟨(y431), (y432), H', ⟨Nat.le_refl _⟩, ⟨zd0 HO_3.out⟩, ⟨Kd.Q_of_R (zd0 HO434.out)⟩, ⟨zb⟩⟩
     case round =>
      clear H'
      try clear c1
      try clear p1
      try clear q1
      try clear hx1
      try clear hf1
      try clear p2
      try clear c4
      try clear c4b0
      try clear p4
      try clear q4
      try clear hx4
      try clear c5
      try clear c6
      try clear p6
      try clear c7
      try clear c7b0
      try clear c8
      try clear c8b0
      try clear c9
      try clear c9b0
      try clear c10
      try clear c10b0
      try clear p12
      try clear q12
      try clear hx12
      try clear hf12
      try clear hx12_0
      try clear hx430_0
      try clear p12
      try clear p2
      try clear p430
      try clear p6
      try clear q12
      try clear q430
      obtain ⟨x3_3, x6_3, HA, HK3, HO_3, HO_6, HB⟩ := hrel
      have hl3_3 := (Kd.R_reads' HO_3.out).1
      rw [hl3_3] at HO_3
      (try simp only [hl3_3])
      (try simp only [hl3_3] at HO_6)
      cases gk with
      | zero => exact absurd HA.out (by simp [spec_l02Parts.l2])
      | succ k3 =>
       have H := HA.out
       clear HA
       simp only [spec_l02Parts.l2] at H
       by_cases c18 : (x6_3.length : Int) > 0
       rotate_left
       ·rw [if_neg c18] at H
        have c18b0 : decide (0 < (x6_3.length : Int)) = false := decide_eq_false c18
        have c18b1 : decide (0 < x6_3.length) = false := decide_eq_false (by omega)
        clear c18
        have H' := aM H
        clear H
        obtain ⟨Ao46, co46, eo46, _⟩ := Kd.Q_slice HO_6.out
        subst eo46
        go_wp2
        (try simp only [← hl3_3])
        go_roundg k3
        case measure => have := HK1.out; have := HK2.out; have := HK3.out; omega
        case rel => exact ⟨(x3_3), (wrap64 (x5_2 + 1)), zr, H', ⟨by have := HK1.out; have := HK2.out; have := HK3.out; omega⟩, ⟨by (try simp only [hl3_3]); (with_reducible repeat (first | apply Kd.R_alloc | apply Kd.R_drewN | apply Kd.R_drew)); exact Kd.R_mono HO_3.out (fun _ hk => trivial)⟩, ⟨zb⟩⟩
       rw [if_pos c18] at H
       have c18b0 : decide (0 < (x6_3.length : Int)) = true := decide_eq_true c18
       have c18b1 : decide (0 < x6_3.length) = true := decide_eq_true (by omega)
       clear c18
       by_cases c19 : 0 < (x6_3.length : Int)
       rotate_left
       ·rw [if_neg c19] at H
        exact absurd H (by simp)
       rw [if_pos c19] at H
       have c19b0 : decide (0 < (x6_3.length : Int)) = true := decide_eq_true c19
       have c19b1 : decide (0 < x6_3.length) = true := decide_eq_true (by omega)
       clear c19
       by_cases c20 : 0 ≤ (rd x6_3 0)
       rotate_left
       ·rw [if_neg c20] at H
        exact absurd H (by simp)
       rw [if_pos c20] at H
       have c20b0 : decide (0 ≤ (rd x6_3 0)) = true := decide_eq_true c20
       clear c20
       by_cases c21 : (rd x6_3 0) < (l0.length : Int)
       rotate_left
       ·rw [if_neg c21] at H
        exact absurd H (by simp)
       rw [if_pos c21] at H
       have c21b0 : decide ((rd x6_3 0) < (l0.length : Int)) = true := decide_eq_true c21
       clear c21
       replace H := Option.bind_eq_some_iff.mp H
       obtain ⟨t437, A220, H⟩ := H
       replace H : (if 1 ≤ (x6_3.length : Int) then (spec_l02Parts.l3 k3 l0 x3_3 x5_2 (x6_3.drop (1 : Int).toNat) t437 0) else (none)) = some r := H
       have A22 := aM A220
       clear A220
       by_cases c23 : 1 ≤ (x6_3.length : Int)
       rotate_left
       ·rw [if_neg c23] at H
        exact absurd H (by simp)
       rw [if_pos c23] at H
       have c23b0 := eq_true c23
       have c23b1 : decide (1 ≤ (x6_3.length : Int)) = true := decide_eq_true c23
       clear c23
       obtain ⟨y440, hy440⟩ : ∃ y_ : List Int, y_ = (x6_3.drop (1 : Int).toNat) := ⟨_, rfl⟩
       replace H : (spec_l02Parts.l3 k3 l0 x3_3 x5_2 y440 t437 0) = some r := zy H hy440
       have Ny440 := aM hy440
       clear hy440
       have H' := aM H
       clear H
       obtain ⟨Ao24, co24, eo24, _⟩ := Kd.Q_slice HO_6.out
       subst eo24
       have p435 : 0 ≤ (0 : Int) := (by omega)
       have q435 : 0 < (x6_3.length : Int) := of_decide_eq_true za
       obtain ⟨ad435, e435, hx435_0⟩ := Kd.at_int (Kd.Q_reads' HO_6.out).2.2 0 p435 q435
       cases e435
       have qi435 : (0 < x6_3.length) = True := eq_true (by omega)
       (try rw [show ((0 : Int)).toNat = 0 from rfl] at hx435_0)
       (try rw [Addr.add_zero'] at hx435_0)
       replace p435 := eq_true p435
       replace q435 := eq_true q435
       have p436 : 0 ≤ ((rd x6_3 0) : Int) := of_decide_eq_true za
       have q436 : (rd x6_3 0) < (l0.length : Int) := of_decide_eq_true za
       obtain ⟨ad436, e436, hx436_0, hx436_1⟩ := at_T44 HR0.out (rd x6_3 0) p436 q436
       cases e436
       replace hx436_0 := zk HB.out hx436_0
       replace hx436_1 := zk HB.out hx436_1
       replace p436 := eq_true p436
       replace q436 := eq_true q436
       go_wp2_with (first | ((with_reducible refine gate_callee (f := 60) rfl ?_); refine goesL_ (some 46) rfl rfl Try.func60 (by kernel_rfl) rfl #[.agg #[.int .i64 ((rd_T44 l0 (rd x6_3 0)).f0), .int .i64 ((rd_T44 l0 (rd x6_3 0)).f1)]] rfl zm ?_; (with_reducible refine (spec_l02Around.calls ((rd_T44 l0 (rd x6_3 0)).f0) ((rd_T44 l0 (rd x6_3 0)).f1) t437 _ A22.out).mono ?_); rintro e w25 ⟨v438, rfl, ho0, hb⟩; refine ⟨_, rfl, ?_⟩; have n0_ := aM (Kd.R_below (mR_ HO_3.out) hb); have n1_ := aM (Kd.Q_below (by (with_reducible repeat (first | apply Kd.Q_alloc | apply Kd.Q_drewN | apply Kd.Q_drew)); exact HO_6.out) hb); have n2_ := aM (Kd.R_lower ho0 (below_size zb)); have n3_ := aM (below_step zb hb); clear HO_3 HO_6 HB; have HO_3 := n0_; have HO_6 := n1_; have HO439 := n2_; have HB := n3_; clear n0_ n1_ n2_ n3_; (try clear hb); (try clear hb2); (try clear hk); (try clear hi); (try clear ho0); have q26 : (1 : Int) ≤ ((x6_3.length : Int) : Int) := of_decide_eq_true za; obtain ⟨i026, hi026, _, hsz26, _⟩ := info_parts info2; have hcut26 := cut_from (P := Try.prog) 33 2 .i64 Try.underlying33 hi026 1 hsz26 (some ad435) x6_3.length co24 1 (by omega) q26; have hr26 := Kd.Q_drop (k := (1 : Int).toNat) HO_6.out (by omega); obtain ⟨A26, hA26⟩ : ∃ A1, A1 = (if co24 = (1 : Int).toNat then (some ad435) else ((some ad435) : Option Addr).map (·.add ((1 : Int).toNat * 1))) := ⟨_, rfl⟩; obtain ⟨c26, hc26⟩ : ∃ c1, c1 = co24 - (1 : Int).toNat := ⟨_, rfl⟩; have hy26 : y440.length = x6_3.length - (1 : Int).toNat := (by rw [Ny440.out, List.length_drop]); rw [← Ny440.out] at hr26; rw [← hy26, ← hA26, ← hc26] at hcut26; replace hr26 : Kd.Q (Kd.int .i64) 2 w25 w.heap.size (fun k_ => some k_ ≠ (.slice (some ⟨go12, 0, none⟩) x3_3.length co13 : Value).ownBlock) (.slice A26 y440.length c26) y440 := (by rw [hA26, hc26, hy26]; exact hr26); have HE26 : Aside0 ((Value.slice A26 y440.length c26).ownBlock = (.slice (some ad435) x6_3.length co24 : Value).ownBlock) := ⟨by rw [hA26]; split <;> (cases ((some ad435) : Option Addr) <;> rfl)⟩; clear hy26 hi026 hsz26 HO_6 hA26 hc26; have HO442 := aM hr26; clear hr26; replace q26 := eq_true q26; have n_ := aM (Kd.R_mono (ok' := fun k_ => some k_ ≠ (.slice A26 y440.length c26 : Value).ownBlock) HO_3.out (fun k_ hk => (by rw [HE26.out]; exact hk))); clear HO_3; have HO_3 := n_; clear n_))
       go_loopg [6, 8] k3 (fun kq v6 v8 w' => ∃ (x3_4 : List Int) (x6_4 : List Int) (x8_4 : Int), v8 = .int .i64 x8_4 ∧ Aside0 (spec_l02Parts.l3 kq l0 x3_4 x5_2 x6_4 t437 x8_4 = some r) ∧ Aside0 (kq ≤ k3) ∧ Aside0 (Kd.R (Kd.int .i64) 2 w' w.heap.size (fun k_ => some k_ ≠ (v6 : Value).ownBlock) (.slice (some ⟨go12, 0, none⟩) x3_3.length co13) x3_4) ∧ Aside0 (Kd.Q (Kd.int .i64) 2 w' w.heap.size (fun k_ => some k_ ≠ ((.slice (some ⟨go12, 0, none⟩) x3_3.length co13) : Value).ownBlock) v6 x6_4) ∧ Aside0 (Kd.R k44 44 w' w.heap.size (fun _ => True) v438 t437) ∧ Aside0 (Below w.heap.size w w'))
       case atStart => exact ⟨(x3_3), (y440), (0), zr, H', ⟨Nat.le_refl _⟩, ⟨by (try simp only [hl3_3]); (with_reducible repeat (first | apply Kd.R_alloc | apply Kd.R_drewN | apply Kd.R_drew)); exact HO_3.out⟩, ⟨by (try simp only [hl3_3]); (with_reducible repeat (first | apply Kd.Q_alloc | apply Kd.Q_drewN | apply Kd.Q_drew)); exact HO442.out⟩, ⟨by (try simp only [hl3_3]); (with_reducible repeat (first | apply Kd.R_alloc | apply Kd.R_drewN | apply Kd.R_drew)); exact HO439.out⟩, ⟨zb⟩⟩
       case round =>
        clear H'
        try clear c1
        try clear p1
        try clear q1
        try clear hx1
        try clear hf1
        try clear c2
        try clear p2
        try clear q2
        try clear c4
        try clear c4b0
        try clear p4
        try clear q4
        try clear hx4
        try clear qi4
        try clear c5
        try clear c6
        try clear p6
        try clear c7
        try clear c7b0
        try clear c8
        try clear c8b0
        try clear c9
        try clear c9b0
        try clear c10
        try clear c10b0
        try clear p12
        try clear q12
        try clear hx12
        try clear hf12
        try clear c18
        try clear c18b0
        try clear c18b1
        try clear c19
        try clear c19b0
        try clear c19b1
        try clear c20
        try clear c20b0
        try clear c21
        try clear c21b0
        try clear c23
        try clear c23b0
        try clear c23b1
        try clear c26
        try clear q26
        try clear hx12_0
        try clear hx430_0
        try clear hx435_0
        try clear hx436_0
        try clear hx436_1
        try clear p1
        try clear p12
        try clear p2
        try clear p4
        try clear p430
        try clear p435
        try clear p436
        try clear p6
        try clear q1
        try clear q12
        try clear q26
        try clear q4
        try clear q430
        try clear q435
        try clear q436
        obtain ⟨x3_4, x6_4, x8_4, rfl, HA, HK4, HO_3, HO_6, HO_7, HB⟩ := hrel
        have hl3_4 := (Kd.R_reads' HO_3.out).1
        rw [hl3_4] at HO_3
        (try simp only [hl3_4])
        (try simp only [hl3_4] at HO_6)
        (try simp only [hl3_4] at HO_7)
        cases gk with
        | zero => exact absurd HA.out (by simp [spec_l02Parts.l3])
        | succ k4 =>
         have H := HA.out
         clear HA
         simp only [spec_l02Parts.l3] at H
         by_cases c27 : x8_4 < 4
         rotate_left
         ·rw [if_neg c27] at H
          have c27b0 : decide (x8_4 < 4) = false := decide_eq_false c27
          clear c27
          have H' := aM H
          clear H
          go_wp2
          (try simp only [← hl3_3, ← hl3_4])
          go_roundg k4
          case measure => have := HK1.out; have := HK2.out; have := HK3.out; have := HK4.out; omega
          case rel => exact ⟨(x3_4), (x6_4), H', ⟨by have := HK1.out; have := HK2.out; have := HK3.out; have := HK4.out; omega⟩, ⟨by (try simp only [hl3_3]); (try simp only [hl3_4]); (with_reducible repeat (first | apply Kd.R_alloc | apply Kd.R_drewN | apply Kd.R_drew)); exact HO_3.out⟩, ⟨by (try simp only [hl3_3]); (try simp only [hl3_4]); (with_reducible repeat (first | apply Kd.Q_alloc | apply Kd.Q_drewN | apply Kd.Q_drew)); exact HO_6.out⟩, ⟨zb⟩⟩
         rw [if_pos c27] at H
         have c27b0 : decide (x8_4 < 4) = true := decide_eq_true c27
         clear c27
         by_cases c28 : 0 ≤ x8_4
         rotate_left
         ·rw [if_neg c28] at H
          exact absurd H (by simp)
         rw [if_pos c28] at H
         have c28b0 : decide (0 ≤ x8_4) = true := decide_eq_true c28
         clear c28
         by_cases c29 : x8_4 < (t437.length : Int)
         rotate_left
         ·rw [if_neg c29] at H
          exact absurd H (by simp)
         rw [if_pos c29] at H
         have c29b0 : decide (x8_4 < (t437.length : Int)) = true := decide_eq_true c29
         clear c29
         replace H := Option.bind_eq_some_iff.mp H
         obtain ⟨t444, A300, H⟩ := H
         replace H : (if t444 ≥ 0 then (if 0 ≤ t444 then (if t444 < (x3_4.length : Int) then (if (rd x3_4 t444) < 0 then (if x6_4.length < 17592186044416 then (spec_l02Parts.l3 k4 l0 (x3_4.set (t444 : Int).toNat x5_2) x5_2 (x6_4 ++ [t444]) t437 (wrap64 (x8_4 + 1))) else (none)) else (spec_l02Parts.l3 k4 l0 x3_4 x5_2 x6_4 t437 (wrap64 (x8_4 + 1)))) else (none)) else (none)) else (spec_l02Parts.l3 k4 l0 x3_4 x5_2 x6_4 t437 (wrap64 (x8_4 + 1)))) = some r := H
         have A30 := aM A300
         clear A300
         by_cases c31 : t444 ≥ 0
         rotate_left
         ·rw [if_neg c31] at H
          have c31b0 : decide (0 ≤ t444) = false := decide_eq_false c31
          clear c31
          have H' := aM H
          clear H
          obtain ⟨Ao44, co44, eo44⟩ := Kd.R_slice HO_7.out
          subst eo44
          have p443 : 0 ≤ (x8_4 : Int) := of_decide_eq_true za
          have q443 : x8_4 < (t437.length : Int) := of_decide_eq_true za
          obtain ⟨ad443, e443, hx443_0, hx443_1⟩ := at_T44 (Kd.R_reads' HO_7.out).2.2 x8_4 p443 q443
          cases e443
          replace p443 := eq_true p443
          replace q443 := eq_true q443
          go_wp2_with (first | ((with_reducible refine gate_callee (f := 33) rfl ?_); refine goesL_ (some 58) rfl rfl Try.func33 (by kernel_rfl) rfl #[.slice (some ad436) l0.length c0, .agg #[.int .i64 ((rd_T44 t437 x8_4).f0), .int .i64 ((rd_T44 t437 x8_4).f1)]] rfl zm ?_; (with_reducible refine (spec_l02Index.calls k4 _ _ l0 ((rd_T44 t437 x8_4).f0) ((rd_T44 t437 x8_4).f1) t444 _ ?side1 ?side2 A30.out).mono ?_); (case side1 => repeat (first | exact (Kd.C_below HR0.out HB.out) | (with_reducible refine Kd.C_alloc ?_ _) | (with_reducible refine Kd.C_drewN ?_ _) | (with_reducible refine Kd.C_drew ?_))); (case side2 => exact HC0.out); rintro e w45 ⟨rfl, hb⟩; refine ⟨_, rfl, ?_⟩; have n0_ := aM (Kd.R_below (mR_ HO_3.out) hb); have n1_ := aM (Kd.Q_below (by (with_reducible repeat (first | apply Kd.Q_alloc | apply Kd.Q_drewN | apply Kd.Q_drew)); exact HO_6.out) hb); have n2_ := aM (Kd.R_below (mR_ HO_7.out) hb); have n3_ := aM (below_step zb hb); clear HO_3 HO_6 HO_7 HB; have HO_3 := n0_; have HO_6 := n1_; have HO_7 := n2_; have HB := n3_; clear n0_ n1_ n2_ n3_; (try clear hb); (try clear hb2); (try clear hk); (try clear hi)))
          (try simp only [← hl3_4])
          go_roundg k4
          case measure => have := HK1.out; have := HK2.out; have := HK3.out; have := HK4.out; omega
          case rel => exact ⟨(x3_4), (x6_4), (wrap64 (x8_4 + 1)), zr, H', ⟨by have := HK1.out; have := HK2.out; have := HK3.out; have := HK4.out; omega⟩, ⟨by (try simp only [hl3_3]); (try simp only [hl3_4]); (with_reducible repeat (first | apply Kd.R_alloc | apply Kd.R_drewN | apply Kd.R_drew)); exact HO_3.out⟩, ⟨by (try simp only [hl3_3]); (try simp only [hl3_4]); (with_reducible repeat (first | apply Kd.Q_alloc | apply Kd.Q_drewN | apply Kd.Q_drew)); exact HO_6.out⟩, ⟨by (try simp only [hl3_3]); (try simp only [hl3_4]); (with_reducible repeat (first | apply Kd.R_alloc | apply Kd.R_drewN | apply Kd.R_drew)); exact HO_7.out⟩, ⟨zb⟩⟩
         rw [if_pos c31] at H
         have c31b0 : decide (0 ≤ t444) = true := decide_eq_true c31
         clear c31
         by_cases c32 : 0 ≤ t444
         rotate_left
         ·rw [if_neg c32] at H
          exact absurd H (by simp)
         rw [if_pos c32] at H
         have c32b0 : decide (0 ≤ t444) = true := decide_eq_true c32
         clear c32
         by_cases c33 : t444 < (x3_4.length : Int)
         rotate_left
         ·rw [if_neg c33] at H
          exact absurd H (by simp)
         rw [if_pos c33] at H
         have c33b0 : decide (t444 < (x3_4.length : Int)) = true := decide_eq_true c33
         clear c33
         by_cases c34 : (rd x3_4 t444) < 0
         rotate_left
         ·rw [if_neg c34] at H
          have c34b0 : decide ((rd x3_4 t444) < 0) = false := decide_eq_false c34
          clear c34
          have H' := aM H
          clear H
          obtain ⟨Ao42, co42, eo42⟩ := Kd.R_slice HO_7.out
          subst eo42
          have p443 : 0 ≤ (x8_4 : Int) := of_decide_eq_true za
          have q443 : x8_4 < (t437.length : Int) := of_decide_eq_true za
          obtain ⟨ad443, e443, hx443_0, hx443_1⟩ := at_T44 (Kd.R_reads' HO_7.out).2.2 x8_4 p443 q443
          cases e443
          replace p443 := eq_true p443
          replace q443 := eq_true q443
          go_wp2_with (first | ((with_reducible refine gate_callee (f := 33) rfl ?_); refine goesL_ (some 58) rfl rfl Try.func33 (by kernel_rfl) rfl #[.slice (some ad436) l0.length c0, .agg #[.int .i64 ((rd_T44 t437 x8_4).f0), .int .i64 ((rd_T44 t437 x8_4).f1)]] rfl zm ?_; (with_reducible refine (spec_l02Index.calls k4 _ _ l0 ((rd_T44 t437 x8_4).f0) ((rd_T44 t437 x8_4).f1) t444 _ ?side1 ?side2 A30.out).mono ?_); (case side1 => repeat (first | exact (Kd.C_below HR0.out HB.out) | (with_reducible refine Kd.C_alloc ?_ _) | (with_reducible refine Kd.C_drewN ?_ _) | (with_reducible refine Kd.C_drew ?_))); (case side2 => exact HC0.out); rintro e w43 ⟨rfl, hb⟩; refine ⟨_, rfl, ?_⟩; have n0_ := aM (Kd.R_below (mR_ HO_3.out) hb); have n1_ := aM (Kd.Q_below (by (with_reducible repeat (first | apply Kd.Q_alloc | apply Kd.Q_drewN | apply Kd.Q_drew)); exact HO_6.out) hb); have n2_ := aM (Kd.R_below (mR_ HO_7.out) hb); have n3_ := aM (below_step zb hb); clear HO_3 HO_6 HO_7 HB; have HO_3 := n0_; have HO_6 := n1_; have HO_7 := n2_; have HB := n3_; clear n0_ n1_ n2_ n3_; (try clear hb); (try clear hb2); (try clear hk); (try clear hi); have p445 : 0 ≤ (t444 : Int) := of_decide_eq_true za; have q445 : t444 < (x3_4.length : Int) := of_decide_eq_true za; obtain ⟨ad445, e445, hx445_0⟩ := Kd.at_int (Kd.R_reads' HO_3.out).2.2 t444 p445 q445; obtain rfl : (⟨go12, 0, none⟩ : Addr) = ad445 := (by injection e445); (first | simp only [add_plain] at hx445_0 | simp only [add_at] at hx445_0 | simp only [Addr.add, Nat.zero_add] at hx445_0 | skip); replace p445 := eq_true p445; replace q445 := eq_true q445))
          (try simp only [← hl3_4])
          go_roundg k4
          case measure => have := HK1.out; have := HK2.out; have := HK3.out; have := HK4.out; omega
          case rel => exact ⟨(x3_4), (x6_4), (wrap64 (x8_4 + 1)), zr, H', ⟨by have := HK1.out; have := HK2.out; have := HK3.out; have := HK4.out; omega⟩, ⟨by (try simp only [hl3_3]); (try simp only [hl3_4]); (with_reducible repeat (first | apply Kd.R_alloc | apply Kd.R_drewN | apply Kd.R_drew)); exact HO_3.out⟩, ⟨by (try simp only [hl3_3]); (try simp only [hl3_4]); (with_reducible repeat (first | apply Kd.Q_alloc | apply Kd.Q_drewN | apply Kd.Q_drew)); exact HO_6.out⟩, ⟨by (try simp only [hl3_3]); (try simp only [hl3_4]); (with_reducible repeat (first | apply Kd.R_alloc | apply Kd.R_drewN | apply Kd.R_drew)); exact HO_7.out⟩, ⟨zb⟩⟩
         rw [if_pos c34] at H
         have c34b0 : decide ((rd x3_4 t444) < 0) = true := decide_eq_true c34
         clear c34
         obtain ⟨y446, hy446⟩ : ∃ y_ : List Int, y_ = (x3_4.set (t444 : Int).toNat x5_2) := ⟨_, rfl⟩
         replace H : (if x6_4.length < 17592186044416 then (spec_l02Parts.l3 k4 l0 y446 x5_2 (x6_4 ++ [t444]) t437 (wrap64 (x8_4 + 1))) else (none)) = some r := zy H hy446
         have Ny446 := aM hy446
         clear hy446
         by_cases c36 : x6_4.length < 17592186044416
         rotate_left
         ·rw [if_neg c36] at H
          exact absurd H (by simp)
         rw [if_pos c36] at H
         have LMc36 := aM c36
         clear c36
         obtain ⟨y447, hy447⟩ : ∃ y_ : List Int, y_ = (x6_4 ++ [t444]) := ⟨_, rfl⟩
         replace H : (spec_l02Parts.l3 k4 l0 y446 x5_2 y447 t437 (wrap64 (x8_4 + 1))) = some r := zy H hy447
         have Ny447 := aM hy447
         clear hy447
         have H' := aM H
         clear H
         obtain ⟨Ao37, co37, eo37⟩ := Kd.R_slice HO_7.out
         subst eo37
         have p443 : 0 ≤ (x8_4 : Int) := of_decide_eq_true za
         have q443 : x8_4 < (t437.length : Int) := of_decide_eq_true za
         obtain ⟨ad443, e443, hx443_0, hx443_1⟩ := at_T44 (Kd.R_reads' HO_7.out).2.2 x8_4 p443 q443
         cases e443
         replace p443 := eq_true p443
         replace q443 := eq_true q443
         go_wp2_with (first | ((with_reducible refine gate_callee (f := 33) rfl ?_); refine goesL_ (some 58) rfl rfl Try.func33 (by kernel_rfl) rfl #[.slice (some ad436) l0.length c0, .agg #[.int .i64 ((rd_T44 t437 x8_4).f0), .int .i64 ((rd_T44 t437 x8_4).f1)]] rfl zm ?_; (with_reducible refine (spec_l02Index.calls k4 _ _ l0 ((rd_T44 t437 x8_4).f0) ((rd_T44 t437 x8_4).f1) t444 _ ?side1 ?side2 A30.out).mono ?_); (case side1 => repeat (first | exact (Kd.C_below HR0.out HB.out) | (with_reducible refine Kd.C_alloc ?_ _) | (with_reducible refine Kd.C_drewN ?_ _) | (with_reducible refine Kd.C_drew ?_))); (case side2 => exact HC0.out); rintro e w38 ⟨rfl, hb⟩; refine ⟨_, rfl, ?_⟩; have n0_ := aM (Kd.R_below (mR_ HO_3.out) hb); have n1_ := aM (Kd.Q_below (by (with_reducible repeat (first | apply Kd.Q_alloc | apply Kd.Q_drewN | apply Kd.Q_drew)); exact HO_6.out) hb); have n2_ := aM (Kd.R_below (mR_ HO_7.out) hb); have n3_ := aM (below_step zb hb); clear HO_3 HO_6 HO_7 HB; have HO_3 := n0_; have HO_6 := n1_; have HO_7 := n2_; have HB := n3_; clear n0_ n1_ n2_ n3_; (try clear hb); (try clear hb2); (try clear hk); (try clear hi); have p445 : 0 ≤ (t444 : Int) := of_decide_eq_true za; have q445 : t444 < (x3_4.length : Int) := of_decide_eq_true za; obtain ⟨ad445, e445, hx445_0⟩ := Kd.at_int (Kd.R_reads' HO_3.out).2.2 t444 p445 q445; obtain rfl : (⟨go12, 0, none⟩ : Addr) = ad445 := (by injection e445); (first | simp only [add_plain] at hx445_0 | simp only [add_at] at hx445_0 | simp only [Addr.add, Nat.zero_add] at hx445_0 | skip); replace p445 := eq_true p445; replace q445 := eq_true q445; have p35 : 0 ≤ (t444 : Int) := of_decide_eq_true za; have q35 : (t444 : Int) < ((x3_4.length : Int) : Int) := of_decide_eq_true za; obtain ⟨hx35_0, hf35_0⟩ := Kd.R_celln 0 HO_3.out (t444 : Int) p35 q35; replace p35 := eq_true p35; replace q35 := eq_true q35; obtain ⟨hy39_, hz39_⟩ := Kd.R_celln 0 HO_3.out (t444 : Int) (of_decide_eq_true za) (of_decide_eq_true za); have HP39 := Kd.R_putg HO_3.out (t444 : Int) x5_2) | ((with_reducible refine gate_store (t := 2) (p := 71) rfl ?_); refine store_event (t := 2) (p := 71) (v := ?vo_w40) (w1 := (w38.setCell ⟨go12, (t444 : Int).toNat, none⟩ (.int .i64 x5_2))) ?hg ?ho ?hn ?hr ?_; (case ho => rfl); (case hg => rfl); (case hn => rfl); (case hr => first | (go_simp; done) | (go_simp; rfl)); intro w40 hw; have hg : w38.grownBy w40 (some go12) := (by rw [hw]; exact HP39.2); have hp_ : Kd.R (Kd.int .i64) 2 w40 w.heap.size (fun k_ => some k_ ≠ (u6 : Value).ownBlock) (.slice (some ⟨go12, 0, none⟩) x3_4.length co13) y446 := (by rw [hw, Ny446.out]; exact HP39.1); clear HP39; have n0_ := aM (hp_); have n1_ := aM (Kd.Q_after (v := (.slice (some ⟨go12, 0, none⟩) x3_4.length co13)) (v1 := (.slice (some ⟨go12, 0, none⟩) x3_4.length co13)) (ok := (fun _ => True)) (by (with_reducible repeat (first | apply Kd.Q_alloc | apply Kd.Q_drewN | apply Kd.Q_drew)); exact Kd.Q_mono HO_6.out (fun _ hk => ⟨trivial, hk⟩)) hg (.inl rfl)); have n2_ := aM (Kd.R_over' (v := (.slice (some ⟨go12, 0, none⟩) x3_4.length co13)) (mR_ HO_7.out) (Kd.R_typed HO_3.out) (by decide) hg); have n3_ := aM ((by rw [hw]; exact below_set (HB.out) GB12.out : Below w.heap.size w w40)); clear HO_3 HO_6 HO_7 HB; have HO_3 := n0_; have HO_6 := n1_; have HO_7 := n2_; have HB := n3_; clear n0_ n1_ n2_ n3_; clear hg hw hp_) | ((with_reducible refine gate_builtin (b := .append) (xs := #[.tmp 72, .tmp 74]) rfl ?_); at_builtin; refine Kd.Q_append (Kd.int .i64) (w0 := w) w.heap.size rfl (.tmp 72) (.tmp 74) 33 2 (.int .i64 0) 8 rfl Try.underlying33 info2 rfl (by decide) (by omega) u6 x6_4 t444 [.int .i64 t444] (fun k_ => some k_ ≠ (.slice (some ⟨go12, 0, none⟩) x3_4.length co13 : Value).ownBlock) (fun _ => False) rfl rfl ?aP (fun _ hk => hk.elim) ?aF ?aO ?aB ?aS ?aL ?_; (case aP => exact rfl); (case aB => exact zb); (case aF => exact (fun k_ hk => Kd.fresh' (Kd.R_lt (mR_ HO_3.out)) k_ hk)); (case aO => exact (by (with_reducible repeat (first | apply Kd.Q_alloc | apply Kd.Q_drewN | apply Kd.Q_drew)); exact Kd.Q_mono HO_6.out (fun _ hk => hk.2))); (case aS => exact (below_size zb)); (case aL => have := LMc36.out; omega); intro v448 w41 ho hb hg hat; rw [← Ny447.out] at ho; have n0_ := aM (Kd.R_after (ok := (fun _ => True)) (zd2 HO_3.out) hg hat); have n1_ := aM (Kd.R_over' (mR_ HO_7.out) (Kd.Q_typed (by (with_reducible repeat (first | apply Kd.Q_alloc | apply Kd.Q_drewN | apply Kd.Q_drew)); exact HO_6.out)) (by decide) hg); have n2_ := aM (hb); have n3_ := aM (ho); clear HO_3 HO_7 HB HO_6; have HO_3 := n0_; have HO_7 := n1_; have HB := n2_; have HO449 := n3_; clear n0_ n1_ n2_ n3_; clear ho hb hg hat))
         (try simp only [← hl3_4])
         go_roundg k4
         case measure => have := HK1.out; have := HK2.out; have := HK3.out; have := HK4.out; omega
         case rel => exact ⟨(y446), (y447), (wrap64 (x8_4 + 1)), zr, H', ⟨by have := HK1.out; have := HK2.out; have := HK3.out; have := HK4.out; omega⟩, ⟨by (try simp only [hl3_3]); (try simp only [hl3_4]); (with_reducible repeat (first | apply Kd.R_alloc | apply Kd.R_drewN | apply Kd.R_drew)); exact Kd.R_mono HO_3.out (fun _ hk => hk.2)⟩, ⟨by (try simp only [hl3_3]); (try simp only [hl3_4]); (with_reducible repeat (first | apply Kd.Q_alloc | apply Kd.Q_drewN | apply Kd.Q_drew)); exact HO449.out⟩, ⟨by (try simp only [hl3_3]); (try simp only [hl3_4]); (with_reducible repeat (first | apply Kd.R_alloc | apply Kd.R_drewN | apply Kd.R_drew)); exact HO_7.out⟩, ⟨zb⟩⟩
end Go.Proofs.Ytaecheolnpofeaa.F
end
section
namespace Go.Proofs.Ytaecheolnpofeaa.F
open Go.RowKit Go.Proofs.YtaecheolnpofeaaW.PrintWords Go.Proofs.YtaecheolnpofeaaW.PrintLast Go.Proofs.YtaecheolnpofeaaW.PrintMore
attribute [local go_sem] max2_int min2_int max_two min_two max_three min_three max_four min_four
set_option linter.unusedVariables false
set_option linter.unusedSimpArgs false
def impl_IsShape.l0 : Nat → List (S44) → List (S44) → Int → Int → Option (Bool)
 | 0, _, _, _, _ => none
 | k + 1, x0, x5, x6, x7 => if x7 < x6 then (if 0 ≤ x7 then (if x7 < (x5.length : Int) then ((impl_isCoordinate.f ((rd_T44 x5 x7).f0)).bind fun t163 => (if t163 = true then ((impl_isCoordinate.f ((rd_T44 x5 x7).f1)).bind fun t164 => (if t164 = true then (if x7 > 0 then (if 0 ≤ (wrap64 (x7 - 1)) then (if (wrap64 (x7 - 1)) < (x0.length : Int) then ((impl_compareCells.f ((rd_T44 x0 (wrap64 (x7 - 1))).f0) ((rd_T44 x0 (wrap64 (x7 - 1))).f1) ((rd_T44 x5 x7).f0) ((rd_T44 x5 x7).f1)).bind fun t166 => (if t166 ≥ 0 then (some false) else (impl_IsShape.l0 k x0 x5 x6 (wrap64 (x7 + 1))))) else (none)) else (none)) else (impl_IsShape.l0 k x0 x5 x6 (wrap64 (x7 + 1)))) else (some false))) else (some false))) else (none)) else (none)) else (if (x0.length : Int) ≥ 1 then (some (decide ((x0.length : Int) ≤ 40))) else (some false))
def impl_IsShape.f (k : Nat) (l0 : List (S44)) : Option (Bool) := impl_IsShape.l0 k l0 l0 (l0.length : Int) 0
def impl_IsShape.T4 : Bool × List (List Nat × List Nat) := (true, [([], []), ([0], [0]), ([1], [1]), ([2], [2]), ([3, 2], [3]), ([4], [4]), ([5, 4], [4, 5]), ([6, 4, 4], [4, 6]), ([7, 4], [4, 7]), ([4, 8], [4, 8]), ([9, 7], [9]), ([10], [10]), ([11, 10], [10, 11]), ([12, 10, 10], [10, 12]), ([13], [13]), ([13], [13]), ([15, 13], [13, 15]), ([14, 16, 13], [13, 14, 16]), ([17, 13], [13, 17]), ([13], [13]), ([18, 19, 13, 13], [13, 18, 19]), ([20, 13], [13, 20]), ([13, 21, 10], [10, 13, 21]), ([10, 22], [10, 22])])
def impl_IsShape.B4 : List Nat := [0, 1, 3, 7, 15, 31, 63, 127, 255, 511, 1023, 2047, 4095, 8191, 16383, 16383, 49151, 131071, 262143, 16383, 1048575, 2097151, 4194303, 8388607]
theorem impl_IsShape.tab4 : rtab .any (opsOf Try.f35 4) = impl_IsShape.T4 := by kernel_rfl
theorem impl_IsShape.bits4 : waitsOk impl_IsShape.T4.2 impl_IsShape.B4 = true := by kernel_rfl
end Go.Proofs.Ytaecheolnpofeaa.F
end
