/- The row of FnExactFormsOfPiece, with what it needs: text 7 of 11. -/
import Derived.Test.YtfdfdifjkaaeoaaKFO5
set_option maxHeartbeats 8000000
set_option maxRecDepth 100000
section
namespace Go.Proofs.Ytfdfdifjkaaeoaa.F
open Go.RowKit Go.Proofs.YtfdfdifjkaaeoaaW.PrintWords Go.Proofs.YtfdfdifjkaaeoaaW.PrintLast Go.Proofs.YtfdfdifjkaaeoaaW.PrintMore
attribute [local go_sem] max2_int min2_int max_two min_two max_three min_three max_four min_four
set_option linter.unusedVariables false
set_option linter.unusedSimpArgs false
theorem spec_l03Add.calls (k : Nat) (P0_ : Nat → Prop) (A0 : Option Addr) (c0 : Nat) (l0 : List (List (S59))) (P1_ : Nat → Prop) (A1 : Option Addr) (c1 : Nat) (l1 : List (S59)) (r : List (List (S59))) (w : World) (hs0 : Kd.V (Kd.slice 59 k59) 24 w w.heap.size (fun k_ => P0_ k_) (.slice A0 l0.length c0) l0) (hs1 : Kd.V k59 59 w w.heap.size (fun k_ => P1_ k_) (.slice A1 l1.length c1) l1) (h : spec_l03Add.f k l0 l1 = some r) :
  Calls Try.prog 137 #[.slice A0 l0.length c0, .slice A1 l1.length c1] w fun e w' => ∃ v0_ : Value, e = .returned (v0_) ∧ Kd.V (Kd.slice 59 k59) 24 w' w.heap.size (fun k_ => ((P0_ k_ ∨ P1_ k_) ∨ w.heap.size ≤ k_)) v0_ r ∧ Below w.heap.size w w' := by
 have HO0 := aM (show Kd.V (Kd.slice 59 k59) 24 w w.heap.size (fun k_ => ((P0_ k_ ∨ P1_ k_) ∨ w.heap.size ≤ k_)) (.slice A0 l0.length c0) l0 from Kd.V_mono hs0 (fun k_ hk => .inl (.inl hk)))
 have HO1 := aM (show Kd.V k59 59 w w.heap.size (fun k_ => ((P0_ k_ ∨ P1_ k_) ∨ w.heap.size ≤ k_)) (.slice A1 l1.length c1) l1 from Kd.V_mono hs1 (fun k_ hk => .inl (.inr hk)))
 have HB := aM (Below.refl w.heap.size w)
 have H : (spec_l03Add.l0 k l0 l1 (([] : List (List (S59)))) false 0) = some r := h
 clear h
 obtain ⟨y725, hy725⟩ : ∃ y_ : List (List (S59)), y_ = (([] : List (List (S59)))) := ⟨_, rfl⟩
 replace H : (spec_l03Add.l0 k l0 l1 y725 false 0) = some r := zy H hy725
 have Ny725 := aM hy725
 clear hy725
 have H' := aM H
 clear H
 go_enter Try.func137, Try.ntmps137
 go_wp2_with (first | ((with_reducible refine gate_dst (N := 9) rfl ?_); refine Kd.N_lit (Kd.slice 59 k59) _ 24 ?hg (N' := 9) ?hd (xs := ([] : List (List (S59)))) (inner := []) (ok := (fun k_ => ((P0_ k_ ∨ P1_ k_) ∨ w.heap.size ≤ k_))) (okp := (fun k_ => ((P0_ k_ ∨ P1_ k_) ∨ w.heap.size ≤ k_))) ?hr ?hp (fun _ hk => hk) ((show ∀ k_, w.heap.size ≤ k_ → (fun k_ => ((P0_ k_ ∨ P1_ k_) ∨ w.heap.size ≤ k_)) k_ from fun k_ hk => (.inr (Nat.le_trans (below_size zb) hk))) _ (Nat.le_refl _)) (Below.refl _ _) (Nat.le_refl _) (by simp) ?_; (case hd => rfl); (case hg => rfl); (case hr => first | (go_simp; done) | (go_simp; rfl)); (case hp => exact (Reps.none _ _)); intro v726 w3 ho4 hb hg_ hnew_; clear hg_ hnew_; (first | rw [← Ny725.out] at ho4 | (simp only [Int.reduceToNat] at ho4; rw [← Ny725.out] at ho4)); have n0_ := aM (Kd.V_elder' (mV_ HO0.out) (by first | exact Kd.N_base ho4 | exact Kd.S_base ho4 | exact Kd.R_base ho4) hb); have n1_ := aM (Kd.V_elder' (mV_ HO1.out) (by first | exact Kd.N_base ho4 | exact Kd.S_base ho4 | exact Kd.R_base ho4) hb); have n2_ := aM (Kd.N_lower ho4 (below_size zb)); have n3_ := aM (below_step zb hb); clear HO0 HO1 HB; have HO0 := n0_; have HO1 := n1_; have HO727 := n2_; have HB := n3_; clear n0_ n1_ n2_ n3_; clear hb ho4))
 go_loopg [5, 6, 7] k (fun kq v5 v6 v7 w' => ∃ (x5_1 : List (List (S59))) (x6_1 : Bool) (x7_1 : Int), v6 = .bool x6_1 ∧ v7 = .int .i64 x7_1 ∧ Aside0 (spec_l03Add.l0 kq l0 l1 x5_1 x6_1 x7_1 = some r) ∧ Aside0 (kq ≤ k) ∧ Aside0 (Kd.V (Kd.slice 59 k59) 24 w' w.heap.size (fun k_ => ((P0_ k_ ∨ P1_ k_) ∨ w.heap.size ≤ k_) ∧ some k_ ≠ (v5 : Value).ownBlock) (.slice A0 l0.length c0) l0) ∧ Aside0 (Kd.V k59 59 w' w.heap.size (fun k_ => ((P0_ k_ ∨ P1_ k_) ∨ w.heap.size ≤ k_) ∧ some k_ ≠ (v5 : Value).ownBlock) (.slice A1 l1.length c1) l1) ∧ Aside0 (Kd.N (Kd.slice 59 k59) 24 w' w.heap.size (fun k_ => ((P0_ k_ ∨ P1_ k_) ∨ w.heap.size ≤ k_)) v5 x5_1) ∧ Aside0 (Below w.heap.size w w'))
 case atStart => exact ⟨(y725), (false), (0), zr, zr, H', ⟨Nat.le_refl _⟩, ⟨mV_ HO0.out⟩, ⟨mV_ HO1.out⟩, ⟨mN_ HO727.out⟩, ⟨zb⟩⟩
 case round =>
  clear H'
  try clear c1
  try clear p2
  obtain ⟨x5_1, x6_1, x7_1, rfl, rfl, HA, HK1, HO_0, HO_1, HO_5, HB⟩ := hrel
  cases gk with
  | zero => exact absurd HA.out (by simp [spec_l03Add.l0])
  | succ k1 =>
   have H := HA.out
   clear HA
   simp only [spec_l03Add.l0] at H
   by_cases c5 : x7_1 < (l0.length : Int)
   rotate_left
   ·rw [if_neg c5] at H
    have c5b0 : decide (x7_1 < (l0.length : Int)) = false := decide_eq_false c5
    clear c5
    by_cases c23 : x6_1 = true
    ·subst c23
     have H1 : (some x5_1) = some r := by rw [if_pos rfl] at H; exact H
     clear H
     have H := H1
     clear H1
     obtain rfl := Option.some.inj H
     go_wp2
     go_ret
     exact ⟨_, zw, Kd.N_V (mN_ HO_5.out), zb⟩
    replace c23 := Bool.eq_false_iff.mpr c23
    subst c23
    have H1 : (if x5_1.length < 5864062014805 then (some (x5_1 ++ [l1])) else (none)) = some r := by rw [if_neg (show ¬ (false = true) by decide)] at H; exact H
    clear H
    have H := H1
    clear H1
    by_cases c24 : x5_1.length < 5864062014805
    rotate_left
    ·rw [if_neg c24] at H
     exact absurd H (by simp)
    rw [if_pos c24] at H
    have LMc24 := aM c24
    clear c24
    obtain ⟨y728, hy728⟩ : ∃ y_ : List (List (S59)), y_ = (x5_1 ++ [l1]) := ⟨_, rfl⟩
    replace H : (some y728) = some r := zy H hy728
    have Ny728 := aM hy728
    clear hy728
    obtain rfl := Option.some.inj H
    go_wp2_with (first | ((with_reducible refine gate_builtin (b := .append) (xs := #[.tmp 44, .tmp 46]) rfl ?_); at_builtin; refine Kd.N_append (Kd.slice 59 k59) (w0 := w) w.heap.size rfl (.tmp 44) (.tmp 46) 61 24 (.slice none 0 0) 24 rfl Try.underlying61 info24 rfl (by decide) (by omega) u5 x5_1 l1 [.slice A1 l1.length c1] (fun k_ => ((P0_ k_ ∨ P1_ k_) ∨ w.heap.size ≤ k_)) (fun k_ => ((fun k_ => ((P0_ k_ ∨ P1_ k_) ∨ w.heap.size ≤ k_))) k_ ∧ some k_ ≠ (u5 : Value).ownBlock) rfl rfl ?aP (fun _ hk => hk) ?aF ?aO ?aB ?aS ?aL ?_; (case aP => first | exact (Kd.FK_slice_mk (Kd.V_reads' (Kd.V_mono (ok' := (fun k_ => ((fun k_ => ((P0_ k_ ∨ P1_ k_) ∨ w.heap.size ≤ k_))) k_ ∧ some k_ ≠ (u5 : Value).ownBlock)) (Kd.V_drewN HO_1.out _) (fun k_ hk => ⟨hk.1, hk.2⟩))).2.1 (Kd.V_F (Kd.V_mono (ok' := (fun k_ => ((fun k_ => ((P0_ k_ ∨ P1_ k_) ∨ w.heap.size ≤ k_))) k_ ∧ some k_ ≠ (u5 : Value).ownBlock)) (Kd.V_drewN HO_1.out _) (fun k_ hk => ⟨hk.1, hk.2⟩)))) | exact (Kd.FK_slice_mk (Kd.V_reads' (Kd.V_mono (ok' := (fun k_ => ((fun k_ => ((P0_ k_ ∨ P1_ k_) ∨ w.heap.size ≤ k_))) k_ ∧ some k_ ≠ (u5 : Value).ownBlock)) (HO_1.out) (fun k_ hk => ⟨hk.1, hk.2⟩))).2.1 (Kd.V_F (Kd.V_mono (ok' := (fun k_ => ((fun k_ => ((P0_ k_ ∨ P1_ k_) ∨ w.heap.size ≤ k_))) k_ ∧ some k_ ≠ (u5 : Value).ownBlock)) (HO_1.out) (fun k_ hk => ⟨hk.1, hk.2⟩)))) | exact (Kd.FK_slice_mk (Kd.V_reads' (Kd.V_mono (ok' := (fun k_ => ((fun k_ => ((P0_ k_ ∨ P1_ k_) ∨ w.heap.size ≤ k_))) k_ ∧ some k_ ≠ (u5 : Value).ownBlock)) (Kd.V_alloc (Kd.V_drewN HO_1.out _) _) (fun k_ hk => ⟨hk.1, hk.2⟩))).2.1 (Kd.V_F (Kd.V_mono (ok' := (fun k_ => ((fun k_ => ((P0_ k_ ∨ P1_ k_) ∨ w.heap.size ≤ k_))) k_ ∧ some k_ ≠ (u5 : Value).ownBlock)) (Kd.V_alloc (Kd.V_drewN HO_1.out _) _) (fun k_ hk => ⟨hk.1, hk.2⟩)))) | (have h2_ := Kd.V_mono (ok' := (fun k_ => ((fun k_ => ((P0_ k_ ∨ P1_ k_) ∨ w.heap.size ≤ k_))) k_ ∧ some k_ ≠ (u5 : Value).ownBlock)) (Kd.V_drewN HO_1.out nd) (fun k_ hk => ⟨hk.1, hk.2⟩); exact Kd.FK_slice_mk (Kd.V_reads' h2_).2.1 (Kd.V_F h2_))); (case aB => exact zb); (case aF => exact (fun k_ hk => (.inr (Nat.le_trans (below_size zb) hk)))); (case aO => exact (mN_ HO_5.out)); (case aS => exact (below_size zb)); (case aL => have := LMc24.out; omega); intro v729 w25 ho hb hg hat; rw [← Ny728.out] at ho; have n0_ := aM (Kd.V_afterv (ok := (fun k_ => ((P0_ k_ ∨ P1_ k_) ∨ w.heap.size ≤ k_))) (mV_ HO_0.out) hg hat); have n1_ := aM (Kd.V_afterv (ok := (fun k_ => ((P0_ k_ ∨ P1_ k_) ∨ w.heap.size ≤ k_))) (mV_ HO_1.out) hg hat); have n2_ := aM (hb); have n3_ := aM (ho); clear HO_0 HO_1 HB HO_5; have HO_0 := n0_; have HO_1 := n1_; have HB := n2_; have HO730 := n3_; clear n0_ n1_ n2_ n3_; clear ho hb hg hat))
    go_ret
    exact ⟨_, zw, Kd.N_V (mN_ HO730.out), zb⟩
   rw [if_pos c5] at H
   have c5b0 : decide (x7_1 < (l0.length : Int)) = true := decide_eq_true c5
   clear c5
   by_cases c6 : 0 ≤ x7_1
   rotate_left
   ·rw [if_neg c6] at H
    exact absurd H (by simp)
   rw [if_pos c6] at H
   have c6b0 : decide (0 ≤ x7_1) = true := decide_eq_true c6
   clear c6
   replace H := Option.bind_eq_some_iff.mp H
   obtain ⟨t732, A70, H⟩ := H
   replace H : (if t732 = 0 then (some l0) else (if t732 < 0 then (if x6_1 = true then (if x5_1.length < 5864062014805 then (spec_l03Add.l0 k1 l0 l1 (x5_1 ++ [rd_L2 l0 x7_1]) x6_1 (wrap64 (x7_1 + 1))) else (none)) else (if x5_1.length < 5864062014805 then ((some (x5_1 ++ [l1] : List (List (S59)))).bind fun y737 => (if y737.length < 5864062014805 then (spec_l03Add.l0 k1 l0 l1 (y737 ++ [rd_L2 l0 x7_1]) true (wrap64 (x7_1 + 1))) else (none))) else (none))) else (if x5_1.length < 5864062014805 then (spec_l03Add.l0 k1 l0 l1 (x5_1 ++ [rd_L2 l0 x7_1]) x6_1 (wrap64 (x7_1 + 1))) else (none)))) = some r := H
   have A7 := aM A70
   clear A70
   by_cases c8 : t732 = 0
   ·rw [if_pos c8] at H
    have c8b0 : (t732 == 0) = true := beq_iff_eq.mpr c8
    have c8b1 : (t732 != 0) = false := bne_eq_false_iff_eq.mpr c8
    clear c8
    obtain rfl := Option.some.inj H
    have p731 : 0 ≤ (x7_1 : Int) := of_decide_eq_true za
    have q731 : x7_1 < (l0.length : Int) := of_decide_eq_true za
    obtain ⟨ad731, A731_0, c731_0, e731, hx731_0, hl731_0, hi731_0⟩ := at_L2 (Kd.V_reads' HO_0.out).2.2 x7_1 p731 q731
    cases e731
    obtain ⟨ce731, hce731, hMe731, hcc731⟩ := Kd.V_get HO_0.out [] x7_1 p731 (by first | exact q731 | exact of_decide_eq_true za | (have e_ := (Kd.V_reads' HO_0.out).1; omega))
    obtain ⟨ua731_0, uc731_0, rfl, ul731_0, ge731_0⟩ := Kd.FK_slice_open hMe731
    have hv731_0 := hcc731 0 _ rfl
    rw [Nat.add_zero, show ((Kd.slice 59 k59)).sz = 1 from rfl, Nat.mul_one] at hv731_0
    replace hv731_0 := Option.some.inj (hv731_0.symm.trans hx731_0)
    injection hv731_0 with hva_ hvn_ hvc_
    rw [hva_] at ge731_0
    rw [hvc_] at ul731_0
    have HL731_0 := aM (show Kd.V k59 59 _ w.heap.size _ _ (rd_L2 l0 x7_1) from Kd.V_mk ul731_0 ge731_0)
    clear hva_ hvn_ hvc_ ge731_0 ul731_0
    clear hcc731 hce731
    have HR731_0 := aM hi731_0
    have HC731_0 := aM hl731_0
    clear hi731_0 hl731_0
    replace p731 := eq_true p731
    replace q731 := eq_true q731
    go_wp2_with (first | ((with_reducible refine gate_callee (f := 111) rfl ?_); refine goesL_ (some 21) rfl rfl Try.func111 (by kernel_rfl) rfl #[.slice A1 l1.length c1, .slice A731_0 (rd_L2 l0 x7_1).length c731_0] rfl zm ?_; (with_reducible refine (spec_CompareShapes.calls k1 _ _ l1 _ _ (rd_L2 l0 x7_1) t732 _ ?side1 ?side2 ?side3 ?side4 A7.out).mono ?_); (case side1 => repeat (first | exact (Kd.V_reads' HO_1.out).2.2 | (with_reducible refine Kd.C_alloc ?_ _) | (with_reducible refine Kd.C_drewN ?_ _) | (with_reducible refine Kd.C_drew ?_))); (case side2 => exact (Kd.V_reads' HO_1.out).2.1); (case side3 => repeat (first | exact (mQ_ HR731_0.out) | (with_reducible refine Kd.C_alloc ?_ _) | (with_reducible refine Kd.C_drewN ?_ _) | (with_reducible refine Kd.C_drew ?_))); (case side4 => exact HC731_0.out); rintro e w9 ⟨rfl, hb⟩; refine ⟨_, rfl, ?_⟩; have n0_ := aM (Kd.V_below (mV_ HO_0.out) hb); have n1_ := aM (Kd.V_below (mV_ HO_1.out) hb); have n2_ := aM (Kd.N_below (mN_ HO_5.out) hb); have n3_ := aM (Kd.V_below (mV_ HL731_0.out) hb); have n4_ := aM (Kd.C_below (mQ_ HR731_0.out) hb); have n5_ := aM (below_step zb hb); clear HO_0 HO_1 HO_5 HL731_0 HR731_0 HB; have HO_0 := n0_; have HO_1 := n1_; have HO_5 := n2_; have HL731_0 := n3_; have HR731_0 := n4_; have HB := n5_; clear n0_ n1_ n2_ n3_ n4_ n5_; (try clear hb); (try clear hb2); (try clear hk); (try clear hi)))
    go_ret
    exact ⟨_, zw, zd3 HO_0.out, zb⟩
   rw [if_neg c8] at H
   have c8b0 : (t732 == 0) = false := beq_eq_false_iff_ne.mpr c8
   have c8b1 : (t732 != 0) = true := bne_iff_ne.mpr c8
   by_cases c10 : t732 < 0
   rotate_left
   ·rw [if_neg c10] at H
    have c10b0 : decide (t732 < 0) = false := decide_eq_false c10
    clear c10
    by_cases c20 : x5_1.length < 5864062014805
    rotate_left
    ·rw [if_neg c20] at H
     exact absurd H (by simp)
    rw [if_pos c20] at H
    have LMc20 := aM c20
    clear c20
    obtain ⟨y745, hy745⟩ : ∃ y_ : List (List (S59)), y_ = (x5_1 ++ [rd_L2 l0 x7_1]) := ⟨_, rfl⟩
    replace H : (spec_l03Add.l0 k1 l0 l1 y745 x6_1 (wrap64 (x7_1 + 1))) = some r := zy H hy745
    have Ny745 := aM hy745
    clear hy745
    have H' := aM H
    clear H
    have p731 : 0 ≤ (x7_1 : Int) := of_decide_eq_true za
    have q731 : x7_1 < (l0.length : Int) := of_decide_eq_true za
    obtain ⟨ad731, A731_0, c731_0, e731, hx731_0, hl731_0, hi731_0⟩ := at_L2 (Kd.V_reads' HO_0.out).2.2 x7_1 p731 q731
    cases e731
    obtain ⟨ce731, hce731, hMe731, hcc731⟩ := Kd.V_get HO_0.out [] x7_1 p731 (by first | exact q731 | exact of_decide_eq_true za | (have e_ := (Kd.V_reads' HO_0.out).1; omega))
    obtain ⟨ua731_0, uc731_0, rfl, ul731_0, ge731_0⟩ := Kd.FK_slice_open hMe731
    have hv731_0 := hcc731 0 _ rfl
    rw [Nat.add_zero, show ((Kd.slice 59 k59)).sz = 1 from rfl, Nat.mul_one] at hv731_0
    replace hv731_0 := Option.some.inj (hv731_0.symm.trans hx731_0)
    injection hv731_0 with hva_ hvn_ hvc_
    rw [hva_] at ge731_0
    rw [hvc_] at ul731_0
    have HL731_0 := aM (show Kd.V k59 59 _ w.heap.size _ _ (rd_L2 l0 x7_1) from Kd.V_mk ul731_0 ge731_0)
    clear hva_ hvn_ hvc_ ge731_0 ul731_0
    clear hcc731 hce731
    have HR731_0 := aM hi731_0
    have HC731_0 := aM hl731_0
    clear hi731_0 hl731_0
    replace p731 := eq_true p731
    replace q731 := eq_true q731
    go_wp2_with (first | ((with_reducible refine gate_callee (f := 111) rfl ?_); refine goesL_ (some 21) rfl rfl Try.func111 (by kernel_rfl) rfl #[.slice A1 l1.length c1, .slice A731_0 (rd_L2 l0 x7_1).length c731_0] rfl zm ?_; (with_reducible refine (spec_CompareShapes.calls k1 _ _ l1 _ _ (rd_L2 l0 x7_1) t732 _ ?side1 ?side2 ?side3 ?side4 A7.out).mono ?_); (case side1 => repeat (first | exact (Kd.V_reads' HO_1.out).2.2 | (with_reducible refine Kd.C_alloc ?_ _) | (with_reducible refine Kd.C_drewN ?_ _) | (with_reducible refine Kd.C_drew ?_))); (case side2 => exact (Kd.V_reads' HO_1.out).2.1); (case side3 => repeat (first | exact (mQ_ HR731_0.out) | (with_reducible refine Kd.C_alloc ?_ _) | (with_reducible refine Kd.C_drewN ?_ _) | (with_reducible refine Kd.C_drew ?_))); (case side4 => exact HC731_0.out); rintro e w21 ⟨rfl, hb⟩; refine ⟨_, rfl, ?_⟩; have n0_ := aM (Kd.V_below (mV_ HO_0.out) hb); have n1_ := aM (Kd.V_below (mV_ HO_1.out) hb); have n2_ := aM (Kd.N_below (mN_ HO_5.out) hb); have n3_ := aM (Kd.V_below (mV_ HL731_0.out) hb); have n4_ := aM (Kd.C_below (mQ_ HR731_0.out) hb); have n5_ := aM (below_step zb hb); clear HO_0 HO_1 HO_5 HL731_0 HR731_0 HB; have HO_0 := n0_; have HO_1 := n1_; have HO_5 := n2_; have HL731_0 := n3_; have HR731_0 := n4_; have HB := n5_; clear n0_ n1_ n2_ n3_ n4_ n5_; (try clear hb); (try clear hb2); (try clear hk); (try clear hi); have p744 : 0 ≤ (x7_1 : Int) := of_decide_eq_true za; have q744 : x7_1 < (l0.length : Int) := of_decide_eq_true za; obtain ⟨ad744, A744_0, c744_0, e744, hx744_0, hl744_0, hi744_0⟩ := at_L2 (Kd.V_reads' HO_0.out).2.2 x7_1 p744 q744; obtain rfl : ad731 = ad744 := (by injection e744); obtain ⟨ce744, hce744, hMe744, hcc744⟩ := Kd.V_get HO_0.out [] x7_1 p744 (by first | exact q744 | exact of_decide_eq_true za | (have e_ := (Kd.V_reads' HO_0.out).1; omega)); obtain ⟨ua744_0, uc744_0, rfl, ul744_0, ge744_0⟩ := Kd.FK_slice_open hMe744; have hv744_0 := hcc744 0 _ rfl; rw [Nat.add_zero, show ((Kd.slice 59 k59)).sz = 1 from rfl, Nat.mul_one] at hv744_0; replace hv744_0 := Option.some.inj (hv744_0.symm.trans hx744_0); injection hv744_0 with hva_ hvn_ hvc_; rw [hva_] at ge744_0; rw [hvc_] at ul744_0; have HL744_0 := aM (show Kd.V k59 59 _ w.heap.size _ _ (rd_L2 l0 x7_1) from Kd.V_mk ul744_0 ge744_0); clear hva_ hvn_ hvc_ ge744_0 ul744_0 hcc744 hce744; have HR744_0 := aM hi744_0; have HC744_0 := aM hl744_0; clear hi744_0 hl744_0; replace p744 := eq_true p744; replace q744 := eq_true q744) | ((with_reducible refine gate_builtin (b := .append) (xs := #[.tmp 35, .tmp 40]) rfl ?_); at_builtin; refine Kd.N_append (Kd.slice 59 k59) (w0 := w) w.heap.size rfl (.tmp 35) (.tmp 40) 61 24 (.slice none 0 0) 24 rfl Try.underlying61 info24 rfl (by decide) (by omega) u5 x5_1 (rd_L2 l0 x7_1) [.slice A744_0 (rd_L2 l0 x7_1).length c744_0] (fun k_ => ((P0_ k_ ∨ P1_ k_) ∨ w.heap.size ≤ k_)) (fun k_ => ((fun k_ => ((P0_ k_ ∨ P1_ k_) ∨ w.heap.size ≤ k_))) k_ ∧ some k_ ≠ (u5 : Value).ownBlock) rfl rfl ?aP (fun _ hk => hk) ?aF ?aO ?aB ?aS ?aL ?_; (case aP => first | exact (Kd.FK_slice_mk (Kd.V_reads' (Kd.V_mono (ok' := (fun k_ => ((fun k_ => ((P0_ k_ ∨ P1_ k_) ∨ w.heap.size ≤ k_))) k_ ∧ some k_ ≠ (u5 : Value).ownBlock)) (Kd.V_drewN HL744_0.out _) (fun k_ hk => ⟨hk.1, hk.2⟩))).2.1 (Kd.V_F (Kd.V_mono (ok' := (fun k_ => ((fun k_ => ((P0_ k_ ∨ P1_ k_) ∨ w.heap.size ≤ k_))) k_ ∧ some k_ ≠ (u5 : Value).ownBlock)) (Kd.V_drewN HL744_0.out _) (fun k_ hk => ⟨hk.1, hk.2⟩)))) | exact (Kd.FK_slice_mk (Kd.V_reads' (Kd.V_mono (ok' := (fun k_ => ((fun k_ => ((P0_ k_ ∨ P1_ k_) ∨ w.heap.size ≤ k_))) k_ ∧ some k_ ≠ (u5 : Value).ownBlock)) (HL744_0.out) (fun k_ hk => ⟨hk.1, hk.2⟩))).2.1 (Kd.V_F (Kd.V_mono (ok' := (fun k_ => ((fun k_ => ((P0_ k_ ∨ P1_ k_) ∨ w.heap.size ≤ k_))) k_ ∧ some k_ ≠ (u5 : Value).ownBlock)) (HL744_0.out) (fun k_ hk => ⟨hk.1, hk.2⟩)))) | exact (Kd.FK_slice_mk (Kd.V_reads' (Kd.V_mono (ok' := (fun k_ => ((fun k_ => ((P0_ k_ ∨ P1_ k_) ∨ w.heap.size ≤ k_))) k_ ∧ some k_ ≠ (u5 : Value).ownBlock)) (Kd.V_alloc (Kd.V_drewN HL744_0.out _) _) (fun k_ hk => ⟨hk.1, hk.2⟩))).2.1 (Kd.V_F (Kd.V_mono (ok' := (fun k_ => ((fun k_ => ((P0_ k_ ∨ P1_ k_) ∨ w.heap.size ≤ k_))) k_ ∧ some k_ ≠ (u5 : Value).ownBlock)) (Kd.V_alloc (Kd.V_drewN HL744_0.out _) _) (fun k_ hk => ⟨hk.1, hk.2⟩)))) | (have h2_ := Kd.V_mono (ok' := (fun k_ => ((fun k_ => ((P0_ k_ ∨ P1_ k_) ∨ w.heap.size ≤ k_))) k_ ∧ some k_ ≠ (u5 : Value).ownBlock)) (Kd.V_drewN HL744_0.out nd) (fun k_ hk => ⟨hk.1, hk.2⟩); exact Kd.FK_slice_mk (Kd.V_reads' h2_).2.1 (Kd.V_F h2_))); (case aB => exact zb); (case aF => exact (fun k_ hk => (.inr (Nat.le_trans (below_size zb) hk)))); (case aO => exact (mN_ HO_5.out)); (case aS => exact (below_size zb)); (case aL => have := LMc20.out; omega); intro v746 w22 ho hb hg hat; rw [← Ny745.out] at ho; have n0_ := aM (Kd.V_afterv (ok := (fun k_ => ((P0_ k_ ∨ P1_ k_) ∨ w.heap.size ≤ k_))) (mV_ HO_0.out) hg hat); have n1_ := aM (Kd.V_afterv (ok := (fun k_ => ((P0_ k_ ∨ P1_ k_) ∨ w.heap.size ≤ k_))) (mV_ HO_1.out) hg hat); have n2_ := aM (Kd.V_afterv (ok := (fun k_ => ((P0_ k_ ∨ P1_ k_) ∨ w.heap.size ≤ k_))) (mV_ HL731_0.out) hg hat); have n3_ := aM (Kd.V_afterv (ok := (fun k_ => ((P0_ k_ ∨ P1_ k_) ∨ w.heap.size ≤ k_))) (mV_ HL744_0.out) hg hat); have n4_ := aM (hb); have n5_ := aM (ho); clear HO_0 HO_1 HL731_0 HL744_0 HB HO_5; have HO_0 := n0_; have HO_1 := n1_; have HL731_0 := n2_; have HL744_0 := n3_; have HB := n4_; have HO747 := n5_; clear n0_ n1_ n2_ n3_ n4_ n5_; clear ho hb hg hat))
    go_roundg k1
    case measure => have := HK1.out; omega
    case rel => exact ⟨(y745), (x6_1), (wrap64 (x7_1 + 1)), zr, zr, H', ⟨by have := HK1.out; omega⟩, ⟨mV_ HO_0.out⟩, ⟨mV_ HO_1.out⟩, ⟨mN_ HO747.out⟩, ⟨zb⟩⟩
   rw [if_pos c10] at H
   have c10b0 : decide (t732 < 0) = true := decide_eq_true c10
   clear c10
   by_cases c11 : x6_1 = true
   ·subst c11
    have H1 : (if x5_1.length < 5864062014805 then (spec_l03Add.l0 k1 l0 l1 (x5_1 ++ [rd_L2 l0 x7_1]) true (wrap64 (x7_1 + 1))) else (none)) = some r := by rw [if_pos rfl] at H; exact H
    clear H
    have H := H1
    clear H1
    by_cases c12 : x5_1.length < 5864062014805
    rotate_left
    ·rw [if_neg c12] at H
     exact absurd H (by simp)
    rw [if_pos c12] at H
    have LMc12 := aM c12
    clear c12
    obtain ⟨y734, hy734⟩ : ∃ y_ : List (List (S59)), y_ = (x5_1 ++ [rd_L2 l0 x7_1]) := ⟨_, rfl⟩
    replace H : (spec_l03Add.l0 k1 l0 l1 y734 true (wrap64 (x7_1 + 1))) = some r := zy H hy734
    have Ny734 := aM hy734
    clear hy734
    have H' := aM H
    clear H
    have p731 : 0 ≤ (x7_1 : Int) := of_decide_eq_true za
    have q731 : x7_1 < (l0.length : Int) := of_decide_eq_true za
    obtain ⟨ad731, A731_0, c731_0, e731, hx731_0, hl731_0, hi731_0⟩ := at_L2 (Kd.V_reads' HO_0.out).2.2 x7_1 p731 q731
    cases e731
    obtain ⟨ce731, hce731, hMe731, hcc731⟩ := Kd.V_get HO_0.out [] x7_1 p731 (by first | exact q731 | exact of_decide_eq_true za | (have e_ := (Kd.V_reads' HO_0.out).1; omega))
    obtain ⟨ua731_0, uc731_0, rfl, ul731_0, ge731_0⟩ := Kd.FK_slice_open hMe731
    have hv731_0 := hcc731 0 _ rfl
    rw [Nat.add_zero, show ((Kd.slice 59 k59)).sz = 1 from rfl, Nat.mul_one] at hv731_0
    replace hv731_0 := Option.some.inj (hv731_0.symm.trans hx731_0)
    injection hv731_0 with hva_ hvn_ hvc_
    rw [hva_] at ge731_0
    rw [hvc_] at ul731_0
    have HL731_0 := aM (show Kd.V k59 59 _ w.heap.size _ _ (rd_L2 l0 x7_1) from Kd.V_mk ul731_0 ge731_0)
    clear hva_ hvn_ hvc_ ge731_0 ul731_0
    clear hcc731 hce731
    have HR731_0 := aM hi731_0
    have HC731_0 := aM hl731_0
    clear hi731_0 hl731_0
    replace p731 := eq_true p731
    replace q731 := eq_true q731
    go_wp2_with (first | ((with_reducible refine gate_callee (f := 111) rfl ?_); refine goesL_ (some 21) rfl rfl Try.func111 (by kernel_rfl) rfl #[.slice A1 l1.length c1, .slice A731_0 (rd_L2 l0 x7_1).length c731_0] rfl zm ?_; (with_reducible refine (spec_CompareShapes.calls k1 _ _ l1 _ _ (rd_L2 l0 x7_1) t732 _ ?side1 ?side2 ?side3 ?side4 A7.out).mono ?_); (case side1 => repeat (first | exact (Kd.V_reads' HO_1.out).2.2 | (with_reducible refine Kd.C_alloc ?_ _) | (with_reducible refine Kd.C_drewN ?_ _) | (with_reducible refine Kd.C_drew ?_))); (case side2 => exact (Kd.V_reads' HO_1.out).2.1); (case side3 => repeat (first | exact (mQ_ HR731_0.out) | (with_reducible refine Kd.C_alloc ?_ _) | (with_reducible refine Kd.C_drewN ?_ _) | (with_reducible refine Kd.C_drew ?_))); (case side4 => exact HC731_0.out); rintro e w13 ⟨rfl, hb⟩; refine ⟨_, rfl, ?_⟩; have n0_ := aM (Kd.V_below (mV_ HO_0.out) hb); have n1_ := aM (Kd.V_below (mV_ HO_1.out) hb); have n2_ := aM (Kd.N_below (mN_ HO_5.out) hb); have n3_ := aM (Kd.V_below (mV_ HL731_0.out) hb); have n4_ := aM (Kd.C_below (mQ_ HR731_0.out) hb); have n5_ := aM (below_step zb hb); clear HO_0 HO_1 HO_5 HL731_0 HR731_0 HB; have HO_0 := n0_; have HO_1 := n1_; have HO_5 := n2_; have HL731_0 := n3_; have HR731_0 := n4_; have HB := n5_; clear n0_ n1_ n2_ n3_ n4_ n5_; (try clear hb); (try clear hb2); (try clear hk); (try clear hi); have p733 : 0 ≤ (x7_1 : Int) := of_decide_eq_true za; have q733 : x7_1 < (l0.length : Int) := of_decide_eq_true za; obtain ⟨ad733, A733_0, c733_0, e733, hx733_0, hl733_0, hi733_0⟩ := at_L2 (Kd.V_reads' HO_0.out).2.2 x7_1 p733 q733; obtain rfl : ad731 = ad733 := (by injection e733); obtain ⟨ce733, hce733, hMe733, hcc733⟩ := Kd.V_get HO_0.out [] x7_1 p733 (by first | exact q733 | exact of_decide_eq_true za | (have e_ := (Kd.V_reads' HO_0.out).1; omega)); obtain ⟨ua733_0, uc733_0, rfl, ul733_0, ge733_0⟩ := Kd.FK_slice_open hMe733; have hv733_0 := hcc733 0 _ rfl; rw [Nat.add_zero, show ((Kd.slice 59 k59)).sz = 1 from rfl, Nat.mul_one] at hv733_0; replace hv733_0 := Option.some.inj (hv733_0.symm.trans hx733_0); injection hv733_0 with hva_ hvn_ hvc_; rw [hva_] at ge733_0; rw [hvc_] at ul733_0; have HL733_0 := aM (show Kd.V k59 59 _ w.heap.size _ _ (rd_L2 l0 x7_1) from Kd.V_mk ul733_0 ge733_0); clear hva_ hvn_ hvc_ ge733_0 ul733_0 hcc733 hce733; have HR733_0 := aM hi733_0; have HC733_0 := aM hl733_0; clear hi733_0 hl733_0; replace p733 := eq_true p733; replace q733 := eq_true q733) | ((with_reducible refine gate_builtin (b := .append) (xs := #[.tmp 35, .tmp 40]) rfl ?_); at_builtin; refine Kd.N_append (Kd.slice 59 k59) (w0 := w) w.heap.size rfl (.tmp 35) (.tmp 40) 61 24 (.slice none 0 0) 24 rfl Try.underlying61 info24 rfl (by decide) (by omega) u5 x5_1 (rd_L2 l0 x7_1) [.slice A733_0 (rd_L2 l0 x7_1).length c733_0] (fun k_ => ((P0_ k_ ∨ P1_ k_) ∨ w.heap.size ≤ k_)) (fun k_ => ((fun k_ => ((P0_ k_ ∨ P1_ k_) ∨ w.heap.size ≤ k_))) k_ ∧ some k_ ≠ (u5 : Value).ownBlock) rfl rfl ?aP (fun _ hk => hk) ?aF ?aO ?aB ?aS ?aL ?_; (case aP => first | exact (Kd.FK_slice_mk (Kd.V_reads' (Kd.V_mono (ok' := (fun k_ => ((fun k_ => ((P0_ k_ ∨ P1_ k_) ∨ w.heap.size ≤ k_))) k_ ∧ some k_ ≠ (u5 : Value).ownBlock)) (Kd.V_drewN HL733_0.out _) (fun k_ hk => ⟨hk.1, hk.2⟩))).2.1 (Kd.V_F (Kd.V_mono (ok' := (fun k_ => ((fun k_ => ((P0_ k_ ∨ P1_ k_) ∨ w.heap.size ≤ k_))) k_ ∧ some k_ ≠ (u5 : Value).ownBlock)) (Kd.V_drewN HL733_0.out _) (fun k_ hk => ⟨hk.1, hk.2⟩)))) | exact (Kd.FK_slice_mk (Kd.V_reads' (Kd.V_mono (ok' := (fun k_ => ((fun k_ => ((P0_ k_ ∨ P1_ k_) ∨ w.heap.size ≤ k_))) k_ ∧ some k_ ≠ (u5 : Value).ownBlock)) (HL733_0.out) (fun k_ hk => ⟨hk.1, hk.2⟩))).2.1 (Kd.V_F (Kd.V_mono (ok' := (fun k_ => ((fun k_ => ((P0_ k_ ∨ P1_ k_) ∨ w.heap.size ≤ k_))) k_ ∧ some k_ ≠ (u5 : Value).ownBlock)) (HL733_0.out) (fun k_ hk => ⟨hk.1, hk.2⟩)))) | exact (Kd.FK_slice_mk (Kd.V_reads' (Kd.V_mono (ok' := (fun k_ => ((fun k_ => ((P0_ k_ ∨ P1_ k_) ∨ w.heap.size ≤ k_))) k_ ∧ some k_ ≠ (u5 : Value).ownBlock)) (Kd.V_alloc (Kd.V_drewN HL733_0.out _) _) (fun k_ hk => ⟨hk.1, hk.2⟩))).2.1 (Kd.V_F (Kd.V_mono (ok' := (fun k_ => ((fun k_ => ((P0_ k_ ∨ P1_ k_) ∨ w.heap.size ≤ k_))) k_ ∧ some k_ ≠ (u5 : Value).ownBlock)) (Kd.V_alloc (Kd.V_drewN HL733_0.out _) _) (fun k_ hk => ⟨hk.1, hk.2⟩)))) | (have h2_ := Kd.V_mono (ok' := (fun k_ => ((fun k_ => ((P0_ k_ ∨ P1_ k_) ∨ w.heap.size ≤ k_))) k_ ∧ some k_ ≠ (u5 : Value).ownBlock)) (Kd.V_drewN HL733_0.out nd) (fun k_ hk => ⟨hk.1, hk.2⟩); exact Kd.FK_slice_mk (Kd.V_reads' h2_).2.1 (Kd.V_F h2_))); (case aB => exact zb); (case aF => exact (fun k_ hk => (.inr (Nat.le_trans (below_size zb) hk)))); (case aO => exact (mN_ HO_5.out)); (case aS => exact (below_size zb)); (case aL => have := LMc12.out; omega); intro v735 w14 ho hb hg hat; rw [← Ny734.out] at ho; have n0_ := aM (Kd.V_afterv (ok := (fun k_ => ((P0_ k_ ∨ P1_ k_) ∨ w.heap.size ≤ k_))) (mV_ HO_0.out) hg hat); have n1_ := aM (Kd.V_afterv (ok := (fun k_ => ((P0_ k_ ∨ P1_ k_) ∨ w.heap.size ≤ k_))) (mV_ HO_1.out) hg hat); have n2_ := aM (Kd.V_afterv (ok := (fun k_ => ((P0_ k_ ∨ P1_ k_) ∨ w.heap.size ≤ k_))) (mV_ HL731_0.out) hg hat); have n3_ := aM (Kd.V_afterv (ok := (fun k_ => ((P0_ k_ ∨ P1_ k_) ∨ w.heap.size ≤ k_))) (mV_ HL733_0.out) hg hat); have n4_ := aM (hb); have n5_ := aM (ho); clear HO_0 HO_1 HL731_0 HL733_0 HB HO_5; have HO_0 := n0_; have HO_1 := n1_; have HL731_0 := n2_; have HL733_0 := n3_; have HB := n4_; have HO736 := n5_; clear n0_ n1_ n2_ n3_ n4_ n5_; clear ho hb hg hat))
    go_roundg k1
    case measure => have := HK1.out; omega
    case rel => exact ⟨(y734), (true), (wrap64 (x7_1 + 1)), zr, zr, H', ⟨by have := HK1.out; omega⟩, ⟨mV_ HO_0.out⟩, ⟨mV_ HO_1.out⟩, ⟨mN_ HO736.out⟩, ⟨zb⟩⟩
   replace c11 := Bool.eq_false_iff.mpr c11
   subst c11
   have H1 : (if x5_1.length < 5864062014805 then ((some (x5_1 ++ [l1] : List (List (S59)))).bind fun y737 => (if y737.length < 5864062014805 then (spec_l03Add.l0 k1 l0 l1 (y737 ++ [rd_L2 l0 x7_1]) true (wrap64 (x7_1 + 1))) else (none))) else (none)) = some r := by rw [if_neg (show ¬ (false = true) by decide)] at H; exact H
   clear H
   have H := H1
   clear H1
   by_cases c15 : x5_1.length < 5864062014805
   rotate_left
   ·rw [if_neg c15] at H
    exact absurd H (by simp)
   rw [if_pos c15] at H
   have LMc15 := aM c15
   clear c15
   obtain ⟨y737, hy737⟩ : ∃ y_ : List (List (S59)), y_ = (x5_1 ++ [l1]) := ⟨_, rfl⟩
   replace H : (if y737.length < 5864062014805 then (spec_l03Add.l0 k1 l0 l1 (y737 ++ [rd_L2 l0 x7_1]) true (wrap64 (x7_1 + 1))) else (none)) = some r := zy H hy737
   have Ny737 := aM hy737
   clear hy737
   by_cases c16 : y737.length < 5864062014805
   rotate_left
   ·rw [if_neg c16] at H
    exact absurd H (by simp)
   rw [if_pos c16] at H
   have LMc16 := aM c16
   clear c16
   obtain ⟨y741, hy741⟩ : ∃ y_ : List (List (S59)), y_ = (y737 ++ [rd_L2 l0 x7_1]) := ⟨_, rfl⟩
   replace H : (spec_l03Add.l0 k1 l0 l1 y741 true (wrap64 (x7_1 + 1))) = some r := zy H hy741
   have Ny741 := aM hy741
   clear hy741
   have H' := aM H
   clear H
   have p731 : 0 ≤ (x7_1 : Int) := of_decide_eq_true za
   have q731 : x7_1 < (l0.length : Int) := of_decide_eq_true za
   obtain ⟨ad731, A731_0, c731_0, e731, hx731_0, hl731_0, hi731_0⟩ := at_L2 (Kd.V_reads' HO_0.out).2.2 x7_1 p731 q731
   cases e731
   obtain ⟨ce731, hce731, hMe731, hcc731⟩ := Kd.V_get HO_0.out [] x7_1 p731 (by first | exact q731 | exact of_decide_eq_true za | (have e_ := (Kd.V_reads' HO_0.out).1; omega))
   obtain ⟨ua731_0, uc731_0, rfl, ul731_0, ge731_0⟩ := Kd.FK_slice_open hMe731
   have hv731_0 := hcc731 0 _ rfl
   rw [Nat.add_zero, show ((Kd.slice 59 k59)).sz = 1 from rfl, Nat.mul_one] at hv731_0
   replace hv731_0 := Option.some.inj (hv731_0.symm.trans hx731_0)
   injection hv731_0 with hva_ hvn_ hvc_
   rw [hva_] at ge731_0
   rw [hvc_] at ul731_0
   have HL731_0 := aM (show Kd.V k59 59 _ w.heap.size _ _ (rd_L2 l0 x7_1) from Kd.V_mk ul731_0 ge731_0)
   clear hva_ hvn_ hvc_ ge731_0 ul731_0
   clear hcc731 hce731
   have HR731_0 := aM hi731_0
   have HC731_0 := aM hl731_0
   clear hi731_0 hl731_0
   replace p731 := eq_true p731
   replace q731 := eq_true q731
   go_wp2_with (first | ((with_reducible refine gate_callee (f := 111) rfl ?_); refine goesL_ (some 21) rfl rfl Try.func111 (by kernel_rfl) rfl #[.slice A1 l1.length c1, .slice A731_0 (rd_L2 l0 x7_1).length c731_0] rfl zm ?_; (with_reducible refine (spec_CompareShapes.calls k1 _ _ l1 _ _ (rd_L2 l0 x7_1) t732 _ ?side1 ?side2 ?side3 ?side4 A7.out).mono ?_); (case side1 => repeat (first | exact (Kd.V_reads' HO_1.out).2.2 | (with_reducible refine Kd.C_alloc ?_ _) | (with_reducible refine Kd.C_drewN ?_ _) | (with_reducible refine Kd.C_drew ?_))); (case side2 => exact (Kd.V_reads' HO_1.out).2.1); (case side3 => repeat (first | exact (mQ_ HR731_0.out) | (with_reducible refine Kd.C_alloc ?_ _) | (with_reducible refine Kd.C_drewN ?_ _) | (with_reducible refine Kd.C_drew ?_))); (case side4 => exact HC731_0.out); rintro e w17 ⟨rfl, hb⟩; refine ⟨_, rfl, ?_⟩; have n0_ := aM (Kd.V_below (mV_ HO_0.out) hb); have n1_ := aM (Kd.V_below (mV_ HO_1.out) hb); have n2_ := aM (Kd.N_below (mN_ HO_5.out) hb); have n3_ := aM (Kd.V_below (mV_ HL731_0.out) hb); have n4_ := aM (Kd.C_below (mQ_ HR731_0.out) hb); have n5_ := aM (below_step zb hb); clear HO_0 HO_1 HO_5 HL731_0 HR731_0 HB; have HO_0 := n0_; have HO_1 := n1_; have HO_5 := n2_; have HL731_0 := n3_; have HR731_0 := n4_; have HB := n5_; clear n0_ n1_ n2_ n3_ n4_ n5_; (try clear hb); (try clear hb2); (try clear hk); (try clear hi)) | ((with_reducible refine gate_builtin (b := .append) (xs := #[.tmp 31, .tmp 33]) rfl ?_); at_builtin; refine Kd.N_append (Kd.slice 59 k59) (w0 := w) w.heap.size rfl (.tmp 31) (.tmp 33) 61 24 (.slice none 0 0) 24 rfl Try.underlying61 info24 rfl (by decide) (by omega) u5 x5_1 l1 [.slice A1 l1.length c1] (fun k_ => ((P0_ k_ ∨ P1_ k_) ∨ w.heap.size ≤ k_)) (fun k_ => ((fun k_ => ((P0_ k_ ∨ P1_ k_) ∨ w.heap.size ≤ k_))) k_ ∧ some k_ ≠ (u5 : Value).ownBlock) rfl rfl ?aP (fun _ hk => hk) ?aF ?aO ?aB ?aS ?aL ?_; (case aP => first | exact (Kd.FK_slice_mk (Kd.V_reads' (Kd.V_mono (ok' := (fun k_ => ((fun k_ => ((P0_ k_ ∨ P1_ k_) ∨ w.heap.size ≤ k_))) k_ ∧ some k_ ≠ (u5 : Value).ownBlock)) (Kd.V_drewN HO_1.out _) (fun k_ hk => ⟨hk.1, hk.2⟩))).2.1 (Kd.V_F (Kd.V_mono (ok' := (fun k_ => ((fun k_ => ((P0_ k_ ∨ P1_ k_) ∨ w.heap.size ≤ k_))) k_ ∧ some k_ ≠ (u5 : Value).ownBlock)) (Kd.V_drewN HO_1.out _) (fun k_ hk => ⟨hk.1, hk.2⟩)))) | exact (Kd.FK_slice_mk (Kd.V_reads' (Kd.V_mono (ok' := (fun k_ => ((fun k_ => ((P0_ k_ ∨ P1_ k_) ∨ w.heap.size ≤ k_))) k_ ∧ some k_ ≠ (u5 : Value).ownBlock)) (HO_1.out) (fun k_ hk => ⟨hk.1, hk.2⟩))).2.1 (Kd.V_F (Kd.V_mono (ok' := (fun k_ => ((fun k_ => ((P0_ k_ ∨ P1_ k_) ∨ w.heap.size ≤ k_))) k_ ∧ some k_ ≠ (u5 : Value).ownBlock)) (HO_1.out) (fun k_ hk => ⟨hk.1, hk.2⟩)))) | exact (Kd.FK_slice_mk (Kd.V_reads' (Kd.V_mono (ok' := (fun k_ => ((fun k_ => ((P0_ k_ ∨ P1_ k_) ∨ w.heap.size ≤ k_))) k_ ∧ some k_ ≠ (u5 : Value).ownBlock)) (Kd.V_alloc (Kd.V_drewN HO_1.out _) _) (fun k_ hk => ⟨hk.1, hk.2⟩))).2.1 (Kd.V_F (Kd.V_mono (ok' := (fun k_ => ((fun k_ => ((P0_ k_ ∨ P1_ k_) ∨ w.heap.size ≤ k_))) k_ ∧ some k_ ≠ (u5 : Value).ownBlock)) (Kd.V_alloc (Kd.V_drewN HO_1.out _) _) (fun k_ hk => ⟨hk.1, hk.2⟩)))) | (have h2_ := Kd.V_mono (ok' := (fun k_ => ((fun k_ => ((P0_ k_ ∨ P1_ k_) ∨ w.heap.size ≤ k_))) k_ ∧ some k_ ≠ (u5 : Value).ownBlock)) (Kd.V_drewN HO_1.out nd) (fun k_ hk => ⟨hk.1, hk.2⟩); exact Kd.FK_slice_mk (Kd.V_reads' h2_).2.1 (Kd.V_F h2_))); (case aB => exact zb); (case aF => exact (fun k_ hk => (.inr (Nat.le_trans (below_size zb) hk)))); (case aO => exact (mN_ HO_5.out)); (case aS => exact (below_size zb)); (case aL => have := LMc15.out; omega); intro v738 w18 ho hb hg hat; rw [← Ny737.out] at ho; have n0_ := aM (Kd.V_afterv (ok := (fun k_ => ((P0_ k_ ∨ P1_ k_) ∨ w.heap.size ≤ k_))) (mV_ HO_0.out) hg hat); have n1_ := aM (Kd.V_afterv (ok := (fun k_ => ((P0_ k_ ∨ P1_ k_) ∨ w.heap.size ≤ k_))) (mV_ HO_1.out) hg hat); have n2_ := aM (Kd.V_afterv (ok := (fun k_ => ((P0_ k_ ∨ P1_ k_) ∨ w.heap.size ≤ k_))) (mV_ HL731_0.out) hg hat); have n3_ := aM (hb); have n4_ := aM (ho); clear HO_0 HO_1 HL731_0 HB HO_5; have HO_0 := n0_; have HO_1 := n1_; have HL731_0 := n2_; have HB := n3_; have HO739 := n4_; clear n0_ n1_ n2_ n3_ n4_ ho hb hg hat; have p740 : 0 ≤ (x7_1 : Int) := of_decide_eq_true za; have q740 : x7_1 < (l0.length : Int) := of_decide_eq_true za; obtain ⟨ad740, A740_0, c740_0, e740, hx740_0, hl740_0, hi740_0⟩ := at_L2 (Kd.V_reads' HO_0.out).2.2 x7_1 p740 q740; obtain rfl : ad731 = ad740 := (by injection e740); obtain ⟨ce740, hce740, hMe740, hcc740⟩ := Kd.V_get HO_0.out [] x7_1 p740 (by first | exact q740 | exact of_decide_eq_true za | (have e_ := (Kd.V_reads' HO_0.out).1; omega)); obtain ⟨ua740_0, uc740_0, rfl, ul740_0, ge740_0⟩ := Kd.FK_slice_open hMe740; have hv740_0 := hcc740 0 _ rfl; rw [Nat.add_zero, show ((Kd.slice 59 k59)).sz = 1 from rfl, Nat.mul_one] at hv740_0; replace hv740_0 := Option.some.inj (hv740_0.symm.trans hx740_0); injection hv740_0 with hva_ hvn_ hvc_; rw [hva_] at ge740_0; rw [hvc_] at ul740_0; have HL740_0 := aM (show Kd.V k59 59 _ w.heap.size _ _ (rd_L2 l0 x7_1) from Kd.V_mk ul740_0 ge740_0); clear hva_ hvn_ hvc_ ge740_0 ul740_0 hcc740 hce740; have HR740_0 := aM hi740_0; have HC740_0 := aM hl740_0; clear hi740_0 hl740_0; replace p740 := eq_true p740; replace q740 := eq_true q740) | ((with_reducible refine gate_builtin (b := .append) (xs := #[.tmp 35, .tmp 40]) rfl ?_); at_builtin; refine Kd.N_append (Kd.slice 59 k59) (w0 := w) w.heap.size rfl (.tmp 35) (.tmp 40) 61 24 (.slice none 0 0) 24 rfl Try.underlying61 info24 rfl (by decide) (by omega) v738 y737 (rd_L2 l0 x7_1) [.slice A740_0 (rd_L2 l0 x7_1).length c740_0] (fun k_ => ((P0_ k_ ∨ P1_ k_) ∨ w.heap.size ≤ k_)) (fun k_ => ((fun k_ => ((P0_ k_ ∨ P1_ k_) ∨ w.heap.size ≤ k_))) k_ ∧ some k_ ≠ (v738 : Value).ownBlock) rfl rfl ?aP (fun _ hk => hk) ?aF ?aO ?aB ?aS ?aL ?_; (case aP => first | exact (Kd.FK_slice_mk (Kd.V_reads' (Kd.V_mono (ok' := (fun k_ => ((fun k_ => ((P0_ k_ ∨ P1_ k_) ∨ w.heap.size ≤ k_))) k_ ∧ some k_ ≠ (v738 : Value).ownBlock)) (Kd.V_drewN HL740_0.out _) (fun k_ hk => ⟨hk.1, hk.2⟩))).2.1 (Kd.V_F (Kd.V_mono (ok' := (fun k_ => ((fun k_ => ((P0_ k_ ∨ P1_ k_) ∨ w.heap.size ≤ k_))) k_ ∧ some k_ ≠ (v738 : Value).ownBlock)) (Kd.V_drewN HL740_0.out _) (fun k_ hk => ⟨hk.1, hk.2⟩)))) | exact (Kd.FK_slice_mk (Kd.V_reads' (Kd.V_mono (ok' := (fun k_ => ((fun k_ => ((P0_ k_ ∨ P1_ k_) ∨ w.heap.size ≤ k_))) k_ ∧ some k_ ≠ (v738 : Value).ownBlock)) (HL740_0.out) (fun k_ hk => ⟨hk.1, hk.2⟩))).2.1 (Kd.V_F (Kd.V_mono (ok' := (fun k_ => ((fun k_ => ((P0_ k_ ∨ P1_ k_) ∨ w.heap.size ≤ k_))) k_ ∧ some k_ ≠ (v738 : Value).ownBlock)) (HL740_0.out) (fun k_ hk => ⟨hk.1, hk.2⟩)))) | exact (Kd.FK_slice_mk (Kd.V_reads' (Kd.V_mono (ok' := (fun k_ => ((fun k_ => ((P0_ k_ ∨ P1_ k_) ∨ w.heap.size ≤ k_))) k_ ∧ some k_ ≠ (v738 : Value).ownBlock)) (Kd.V_alloc (Kd.V_drewN HL740_0.out _) _) (fun k_ hk => ⟨hk.1, hk.2⟩))).2.1 (Kd.V_F (Kd.V_mono (ok' := (fun k_ => ((fun k_ => ((P0_ k_ ∨ P1_ k_) ∨ w.heap.size ≤ k_))) k_ ∧ some k_ ≠ (v738 : Value).ownBlock)) (Kd.V_alloc (Kd.V_drewN HL740_0.out _) _) (fun k_ hk => ⟨hk.1, hk.2⟩)))) | (have h2_ := Kd.V_mono (ok' := (fun k_ => ((fun k_ => ((P0_ k_ ∨ P1_ k_) ∨ w.heap.size ≤ k_))) k_ ∧ some k_ ≠ (v738 : Value).ownBlock)) (Kd.V_drewN HL740_0.out nd) (fun k_ hk => ⟨hk.1, hk.2⟩); exact Kd.FK_slice_mk (Kd.V_reads' h2_).2.1 (Kd.V_F h2_))); (case aB => exact zb); (case aF => exact (fun k_ hk => (.inr (Nat.le_trans (below_size zb) hk)))); (case aO => exact (mN_ HO739.out)); (case aS => exact (below_size zb)); (case aL => have := LMc16.out; omega); intro v742 w19 ho hb hg hat; rw [← Ny741.out] at ho; have n0_ := aM (Kd.V_afterv (ok := (fun k_ => ((P0_ k_ ∨ P1_ k_) ∨ w.heap.size ≤ k_))) (mV_ HO_0.out) hg hat); have n1_ := aM (Kd.V_afterv (ok := (fun k_ => ((P0_ k_ ∨ P1_ k_) ∨ w.heap.size ≤ k_))) (mV_ HO_1.out) hg hat); have n2_ := aM (Kd.V_afterv (ok := (fun k_ => ((P0_ k_ ∨ P1_ k_) ∨ w.heap.size ≤ k_))) (mV_ HL731_0.out) hg hat); have n3_ := aM (Kd.V_afterv (ok := (fun k_ => ((P0_ k_ ∨ P1_ k_) ∨ w.heap.size ≤ k_))) (mV_ HL740_0.out) hg hat); have n4_ := aM (hb); have n5_ := aM (ho); clear HO_0 HO_1 HL731_0 HL740_0 HB HO739; have HO_0 := n0_; have HO_1 := n1_; have HL731_0 := n2_; have HL740_0 := n3_; have HB := n4_; have HO743 := n5_; clear n0_ n1_ n2_ n3_ n4_ n5_; clear ho hb hg hat))
   go_roundg k1
   case measure => have := HK1.out; omega
   case rel => exact ⟨(y741), (true), (wrap64 (x7_1 + 1)), zr, zr, H', ⟨by have := HK1.out; omega⟩, ⟨mV_ HO_0.out⟩, ⟨mV_ HO_1.out⟩, ⟨mN_ HO743.out⟩, ⟨zb⟩⟩
def spec_l03Form.l0 : Nat → List (S59) → Int → List (S59) → Int → Option ((List (S59)))
 | 0, _, _, _, _ => none
 | k + 1, x0, x1, x5, x6 => if x6 < (x0.length : Int) then (if 0 ≤ x6 then ((spec_l03Turn.f k ((rd_T59 x0 x6).f0) ((rd_T59 x0 x6).f1) x1).bind fun bt754 => (if x5.length < 8796093022208 then (spec_l03Form.l0 k x0 x1 (x5 ++ [(⟨bt754.1, bt754.2⟩ : S59)]) (wrap64 (x6 + 1))) else (none))) else (none)) else ((spec_l02Sort.f k x5).bind fun t759 => ((spec_l02Normal.f k t759).bind fun t762 => (some t762)))
def spec_l03Form.f (k : Nat) (l0 : List (S59)) (a1 : Int) : Option ((List (S59))) := spec_l03Form.l0 k l0 a1 (([] : List (S59))) 0
theorem spec_l03Form.calls (k : Nat) (A0 : Option Addr) (c0 : Nat) (l0 : List (S59)) (a1 : Int) (r : List (S59)) (w : World) (hr0 : Kd.C k59 w A0 l0.length l0) (hc0 : l0.length ≤ c0) (h : spec_l03Form.f k l0 a1 = some r) :
  Calls Try.prog 138 #[.slice A0 l0.length c0, .int .i64 a1] w fun e w' => ∃ v0_ : Value, e = .returned (v0_) ∧ Kd.R k59 59 w' w.heap.size (fun _ => True) v0_ r ∧ Below w.heap.size w w' := by
 have hu59 := Try.underlying59
 have HR0 := aM hr0
 have HC0 := aM hc0
 clear hr0 hc0
 have HB := aM (Below.refl w.heap.size w)
 have H : (spec_l03Form.l0 k l0 a1 (([] : List (S59))) 0) = some r := h
 clear h
 obtain ⟨y750, hy750⟩ : ∃ y_ : List (S59), y_ = (([] : List (S59))) := ⟨_, rfl⟩
 replace H : (spec_l03Form.l0 k l0 a1 y750 0) = some r := zy H hy750
 have Ny750 := aM hy750
 clear hy750
 have H' := aM H
 clear H
 go_enter Try.func138, Try.ntmps138
 go_wp2_with (first | ((with_reducible refine gate_dst (N := 7) rfl ?_); refine Kd.R_lit k59 _ 59 ?hg (N := 7) ?hd (xs := ([] : List (S59))) (inner := []) (ok := fun _ => True) (okp := fun _ => True) ?hr ?hp (fun _ hk => hk) trivial (Below.refl _ _) (Nat.le_refl _) (by simp) ?_; (case hd => rfl); (case hg => rfl); (case hr => first | (go_simp; done) | (go_simp; rfl)); (case hp => exact (Reps.none _ _)); intro v751 w3 ho4 hb hg_ hnew_; clear hg_ hnew_; (first | rw [← Ny750.out] at ho4 | (simp only [Int.reduceToNat] at ho4; rw [← Ny750.out] at ho4)); have n0_ := aM (Kd.R_lower ho4 (below_size zb)); have n1_ := aM (below_step zb hb); clear HB; have HO752 := n0_; have HB := n1_; clear n0_ n1_; clear hb ho4))
 go_loopg [5, 6] k (fun kq v5 v6 w' => ∃ (x5_1 : List (S59)) (x6_1 : Int), v6 = .int .i64 x6_1 ∧ Aside0 (spec_l03Form.l0 kq l0 a1 x5_1 x6_1 = some r) ∧ Aside0 (kq ≤ k) ∧ Aside0 (Kd.R k59 59 w' w.heap.size (fun _ => True) v5 x5_1) ∧ Aside0 (Below w.heap.size w w'))
 case atStart => exact ⟨(y750), (0), zr, H', ⟨Nat.le_refl _⟩, ⟨mR_ HO752.out⟩, ⟨zb⟩⟩
 case round =>
  clear H'
  try clear c1
  try clear p2
  obtain ⟨x5_1, x6_1, rfl, HA, HK1, HO_5, HB⟩ := hrel
  cases gk with
  | zero => exact absurd HA.out (by simp [spec_l03Form.l0])
  | succ k1 =>
   have H := HA.out
   clear HA
   simp only [spec_l03Form.l0] at H
   by_cases c5 : x6_1 < (l0.length : Int)
   rotate_left
   ·rw [if_neg c5] at H
    have c5b0 : decide (x6_1 < (l0.length : Int)) = false := decide_eq_false c5
    clear c5
    replace H := Option.bind_eq_some_iff.mp H
    obtain ⟨t759, A110, H⟩ := H
    replace H : ((spec_l02Normal.f k1 t759).bind fun t762 => (some t762)) = some r := H
    have A11 := aM A110
    clear A110
    replace H := Option.bind_eq_some_iff.mp H
    obtain ⟨t762, A120, H⟩ := H
    replace H : (some t762) = some r := H
    have A12 := aM A120
    clear A120
    obtain rfl := Option.some.inj H
    obtain ⟨Ao13, co13, eo13⟩ := Kd.R_slice HO_5.out
    subst eo13
    go_wp2_with (first | ((with_reducible refine gate_callee (f := 55) rfl ?_); refine goesL_ (some 24) rfl rfl Try.func55 (by kernel_rfl) rfl #[.slice Ao13 x5_1.length co13] rfl zm ?_; (with_reducible refine (spec_l02Sort.calls k1 _ _ x5_1 t759 _ ?side1 ?side2 A11.out).mono ?_); (case side1 => exact zc HO_5.out); (case side2 => exact (Kd.R_reads' HO_5.out).2.1); rintro e w14 ⟨v760, rfl, ho0, hb⟩; refine ⟨_, rfl, ?_⟩; have n0_ := aM (Kd.R_elder' (mR_ HO_5.out) (Kd.R_base ho0) hb); have n1_ := aM (Kd.R_lower (Kd.R_new' ho0 (Kd.R_lt (mR_ HO_5.out))) (below_size zb)); have n2_ := aM (below_step zb hb); clear HO_5 HB; have HO_5 := n0_; have HO761 := n1_; have HB := n2_; clear n0_ n1_ n2_; (try clear hb); (try clear hb2); (try clear hk); (try clear hi); (try clear ho0); obtain ⟨Ao15, co15, eo15⟩ := Kd.R_slice HO761.out; subst eo15) | ((with_reducible refine gate_callee (f := 126) rfl ?_); refine goesL_ (some 25) rfl rfl Try.func126 (by kernel_rfl) rfl #[.slice Ao15 t759.length co15] rfl zm ?_; (with_reducible refine (spec_l02Normal.calls k1 _ _ t759 t762 _ ?side1 ?side2 A12.out).mono ?_); (case side1 => exact zc HO761.out); (case side2 => exact (Kd.R_reads' HO761.out).2.1); rintro e w16 ⟨v763, rfl, ho0, hb⟩; refine ⟨_, rfl, ?_⟩; have n0_ := aM (Kd.R_elder' (mR_ HO_5.out) (Kd.R_base ho0) hb); have n1_ := aM (Kd.R_elder' (mR_ HO761.out) (Kd.R_base ho0) hb); have n2_ := aM (Kd.R_lower (Kd.R_new' (Kd.R_new' ho0 (Kd.R_lt (mR_ HO_5.out))) (Kd.R_lt (mR_ HO761.out))) (below_size zb)); have n3_ := aM (below_step zb hb); clear HO_5 HO761 HB; have HO_5 := n0_; have HO761 := n1_; have HO764 := n2_; have HB := n3_; clear n0_ n1_ n2_ n3_; (try clear hb); (try clear hb2); (try clear hk); (try clear hi); (try clear ho0)))
    go_ret
    exact ⟨_, zw, zd0 HO764.out, zb⟩
   rw [if_pos c5] at H
   have c5b0 : decide (x6_1 < (l0.length : Int)) = true := decide_eq_true c5
   clear c5
   by_cases c6 : 0 ≤ x6_1
   rotate_left
   ·rw [if_neg c6] at H
    exact absurd H (by simp)
   rw [if_pos c6] at H
   have c6b0 : decide (0 ≤ x6_1) = true := decide_eq_true c6
   clear c6
   replace H := Option.bind_eq_some_iff.mp H
   obtain ⟨⟨t754, t755⟩, A70, H⟩ := H
   replace H : (if x5_1.length < 8796093022208 then (spec_l03Form.l0 k1 l0 a1 (x5_1 ++ [(⟨t754, t755⟩ : S59)]) (wrap64 (x6_1 + 1))) else (none)) = some r := H
   have A7 := aM A70
   clear A70
   by_cases c8 : x5_1.length < 8796093022208
   rotate_left
   ·rw [if_neg c8] at H
    exact absurd H (by simp)
   rw [if_pos c8] at H
   have LMc8 := aM c8
   clear c8
   obtain ⟨y756, hy756⟩ : ∃ y_ : List (S59), y_ = (x5_1 ++ [(⟨t754, t755⟩ : S59)]) := ⟨_, rfl⟩
   replace H : (spec_l03Form.l0 k1 l0 a1 y756 (wrap64 (x6_1 + 1))) = some r := zy H hy756
   have Ny756 := aM hy756
   clear hy756
   have H' := aM H
   clear H
   have p753 : 0 ≤ (x6_1 : Int) := of_decide_eq_true za
   have q753 : x6_1 < (l0.length : Int) := of_decide_eq_true za
   obtain ⟨ad753, e753, hx753_0, hx753_1⟩ := at_T59 HR0.out x6_1 p753 q753
   cases e753
   replace hx753_0 := zk HB.out hx753_0
   replace hx753_1 := zk HB.out hx753_1
   replace p753 := eq_true p753
   replace q753 := eq_true q753
   go_wp2_with (first | ((with_reducible refine gate_callee (f := 121) rfl ?_); refine goesL_ (some 20) rfl rfl Try.func121 (by kernel_rfl) rfl #[.agg #[.int .i64 ((rd_T59 l0 x6_1).f0), .int .i64 ((rd_T59 l0 x6_1).f1)], .int .i64 a1] rfl zm ?_; (with_reducible refine (spec_l03Turn.calls k1 ((rd_T59 l0 x6_1).f0) ((rd_T59 l0 x6_1).f1) a1 t754 t755 _ A7.out).mono ?_); rintro e w9 ⟨rfl, hb⟩; refine ⟨_, rfl, ?_⟩; have n0_ := aM (Kd.R_below (mR_ HO_5.out) hb); have n1_ := aM (below_step zb hb); clear HO_5 HB; have HO_5 := n0_; have HB := n1_; clear n0_ n1_; (try clear hb); (try clear hb2); (try clear hk); (try clear hi)) | ((with_reducible refine gate_builtin (b := .append) (xs := #[.tmp 14, .tmp 21]) rfl ?_); at_builtin; refine Kd.R_append k59 (w0 := w) w.heap.size rfl (.tmp 14) (.tmp 21) 24 59 (.agg #[(.int .i64 0), (.int .i64 0)]) 16 rfl Try.underlying24 info59 rfl (by decide) (by omega) u5 x5_1 (⟨t754, t755⟩ : S59) [.int .i64 t754, .int .i64 t755] (fun _ => True) (fun _ => False) rfl rfl ?aP (fun _ hk => hk.elim) ?aF ?aO ?aB ?aS ?aL ?_; (case aP => exact k59_mkM _ _ _ (⟨t754, t755⟩ : S59)); (case aB => exact zb); (case aF => exact (fun _ _ => trivial)); (case aO => exact (mR_ HO_5.out)); (case aS => exact (below_size zb)); (case aL => have := LMc8.out; omega); intro v757 w10 ho hb hg hat; rw [← Ny756.out] at ho; have n0_ := aM (hb); have n1_ := aM (ho); clear HB HO_5; have HB := n0_; have HO758 := n1_; clear n0_ n1_; clear ho hb hg hat))
   go_roundg k1
   case measure => have := HK1.out; omega
   case rel => exact ⟨(y756), (wrap64 (x6_1 + 1)), zr, H', ⟨by have := HK1.out; omega⟩, ⟨mR_ HO758.out⟩, ⟨zb⟩⟩
def spec_l03Forms.l0 : Nat → List (S59) → Int → List (List (S59)) → Int → Option ((List (List (S59))))
 | 0, _, _, _, _ => none
 | k + 1, x0, x1, x5, x6 => if x6 < x1 then ((spec_l03Form.f k x0 x6).bind fun t768 => ((spec_l03Add.f k x5 t768).bind fun t771 => (spec_l03Forms.l0 k x0 x1 t771 (wrap64 (x6 + 1))))) else (some x5)
def spec_l03Forms.f (k : Nat) (l0 : List (S59)) (a1 : Int) : Option ((List (List (S59)))) := spec_l03Forms.l0 k l0 a1 (([] : List (List (S59)))) 0
theorem spec_l03Forms.calls (k : Nat) (A0 : Option Addr) (c0 : Nat) (l0 : List (S59)) (a1 : Int) (r : List (List (S59))) (w : World) (hr0 : Kd.C k59 w A0 l0.length l0) (hc0 : l0.length ≤ c0) (h : spec_l03Forms.f k l0 a1 = some r) :
  Calls Try.prog 123 #[.slice A0 l0.length c0, .int .i64 a1] w fun e w' => ∃ v0_ : Value, e = .returned (v0_) ∧ Kd.V (Kd.slice 59 k59) 24 w' w.heap.size (fun k_ => (w.heap.size ≤ k_)) v0_ r ∧ Below w.heap.size w w' := by
 have HR0 := aM hr0
 have HC0 := aM hc0
 clear hr0 hc0
 have HB := aM (Below.refl w.heap.size w)
 have H : (spec_l03Forms.l0 k l0 a1 (([] : List (List (S59)))) 0) = some r := h
 clear h
 obtain ⟨y765, hy765⟩ : ∃ y_ : List (List (S59)), y_ = (([] : List (List (S59)))) := ⟨_, rfl⟩
 replace H : (spec_l03Forms.l0 k l0 a1 y765 0) = some r := zy H hy765
 have Ny765 := aM hy765
 clear hy765
 have H' := aM H
 clear H
 go_enter Try.func123, Try.ntmps123
 go_wp2_with (first | ((with_reducible refine gate_dst (N := 7) rfl ?_); refine Kd.S_lit (Kd.slice 59 k59) _ 24 ?hg (N := 7) ?hd (xs := ([] : List (List (S59)))) (inner := []) (ok := fun _ => True) (okp := fun _ => True) ?hr ?hp (fun _ hk => hk) trivial (Below.refl _ _) (Nat.le_refl _) (by simp) ?_; (case hd => rfl); (case hg => rfl); (case hr => first | (go_simp; done) | (go_simp; rfl)); (case hp => exact (Reps.none _ _)); intro v766 w3 ho4 hb hg_ hnew_; clear hg_ hnew_; (first | rw [← Ny765.out] at ho4 | (simp only [Int.reduceToNat] at ho4; rw [← Ny765.out] at ho4)); have n0_ := aM (Kd.S_lower (Kd.S_newM (M := fun k_ => (w.heap.size ≤ k_)) ho4 (below_size zb) (fun k_ h_ => h_)) (below_size zb)); have n1_ := aM (below_step zb hb); clear HB; have HO767 := n0_; have HB := n1_; clear n0_ n1_; clear hb ho4))
 go_loopg [5, 6] k (fun kq v5 v6 w' => ∃ (x5_1 : List (List (S59))) (x6_1 : Int), v6 = .int .i64 x6_1 ∧ Aside0 (spec_l03Forms.l0 kq l0 a1 x5_1 x6_1 = some r) ∧ Aside0 (kq ≤ k) ∧ Aside0 (Kd.V (Kd.slice 59 k59) 24 w' w.heap.size (fun k_ => (w.heap.size ≤ k_)) v5 x5_1) ∧ Aside0 (Below w.heap.size w w'))
 case atStart => exact ⟨(y765), (0), zr, H', ⟨Nat.le_refl _⟩, ⟨Kd.S_V (zd4 HO767.out)⟩, ⟨zb⟩⟩
 case round =>
  clear H'
  try clear c1
  try clear p2
  obtain ⟨x5_1, x6_1, rfl, HA, HK1, HO_5, HB⟩ := hrel
  cases gk with
  | zero => exact absurd HA.out (by simp [spec_l03Forms.l0])
  | succ k1 =>
   have H := HA.out
   clear HA
   simp only [spec_l03Forms.l0] at H
   by_cases c5 : x6_1 < a1
   rotate_left
   ·rw [if_neg c5] at H
    have c5b0 : decide (x6_1 < a1) = false := decide_eq_false c5
    clear c5
    obtain rfl := Option.some.inj H
    go_wp2
    go_ret
    exact ⟨_, zw, mV_ HO_5.out, zb⟩
   rw [if_pos c5] at H
   have c5b0 : decide (x6_1 < a1) = true := decide_eq_true c5
   clear c5
   replace H := Option.bind_eq_some_iff.mp H
   obtain ⟨t768, A60, H⟩ := H
   replace H : ((spec_l03Add.f k1 x5_1 t768).bind fun t771 => (spec_l03Forms.l0 k1 l0 a1 t771 (wrap64 (x6_1 + 1)))) = some r := H
   have A6 := aM A60
   clear A60
   replace H := Option.bind_eq_some_iff.mp H
   obtain ⟨t771, A70, H⟩ := H
   replace H : (spec_l03Forms.l0 k1 l0 a1 t771 (wrap64 (x6_1 + 1))) = some r := H
   have A7 := aM A70
   clear A70
   have H' := aM H
   clear H
   go_wp2_with (first | ((with_reducible refine gate_callee (f := 138) rfl ?_); refine goesL_ (some 16) rfl rfl Try.func138 (by kernel_rfl) rfl #[.slice A0 l0.length c0, .int .i64 x6_1] rfl zm ?_; (with_reducible refine (spec_l03Form.calls k1 _ _ l0 x6_1 t768 _ ?side1 ?side2 A6.out).mono ?_); (case side1 => repeat (first | exact (Kd.C_below HR0.out HB.out) | (with_reducible refine Kd.C_alloc ?_ _) | (with_reducible refine Kd.C_drewN ?_ _) | (with_reducible refine Kd.C_drew ?_))); (case side2 => exact HC0.out); rintro e w8 ⟨v769, rfl, ho0, hb⟩; refine ⟨_, rfl, ?_⟩; have n0_ := aM (Kd.V_elder' (mV_ HO_5.out) (Kd.R_base ho0) hb); have n1_ := aM (Kd.R_lower (Kd.R_newM (M := fun k_ => (w.heap.size ≤ k_)) ho0 (below_size zb) (fun k_ h_ => h_)) (below_size zb)); have n2_ := aM (below_step zb hb); clear HO_5 HB; have HO_5 := n0_; have HO770 := n1_; have HB := n2_; clear n0_ n1_ n2_; (try clear hb); (try clear hb2); (try clear hk); (try clear hi); (try clear ho0); obtain ⟨Ao9, co9, eo9⟩ := Kd.V_slice HO_5.out; subst eo9; obtain ⟨Ao10, co10, eo10⟩ := Kd.R_slice HO770.out; subst eo10) | ((with_reducible refine gate_callee (f := 137) rfl ?_); refine goesL_ (some 17) rfl rfl Try.func137 (by kernel_rfl) rfl #[.slice Ao9 x5_1.length co9, .slice Ao10 t768.length co10] rfl zm ?_; (with_reducible refine (spec_l03Add.calls k1 (fun k_ => ((w.heap.size ≤ k_) ∧ some k_ ≠ (.slice Ao10 t768.length co10 : Value).ownBlock)) _ _ x5_1 (fun k_ => some k_ = (.slice Ao10 t768.length co10 : Value).ownBlock) _ _ t768 t771 _ ?side1 ?side2 A7.out).mono ?_); (case side1 => exact HO_5.out); (case side2 => exact Kd.R_V (Kd.R_tight rfl (HO770.out))); rintro e w11 ⟨v772, rfl, ho0, hb⟩; refine ⟨_, rfl, ?_⟩; have n0_ := aM (Kd.V_below (mV_ HO_5.out) hb); have n1_ := aM (Kd.R_below (mR_ HO770.out) hb); have n2_ := aM (Kd.V_lower (Kd.V_mono (ok' := fun k_ => (w.heap.size ≤ k_)) ho0 (fun k_ hk_ => Or.elim hk_ (fun hs_ => Or.elim hs_ (fun hs_ => hs_.1) (fun hs_ => ((HO770.out).1 k_ hs_.symm).1)) (fun hn_ => (Nat.le_trans (below_size zb) hn_)))) (below_size zb)); have n3_ := aM (below_step zb hb); clear HO_5 HO770 HB; have HO_5 := n0_; have HO770 := n1_; have HO773 := n2_; have HB := n3_; clear n0_ n1_ n2_ n3_; (try clear hb); (try clear hb2); (try clear hk); (try clear hi); (try clear ho0)))
   go_roundg k1
   case measure => have := HK1.out; omega
   case rel => exact ⟨(t771), (wrap64 (x6_1 + 1)), zr, H', ⟨by have := HK1.out; omega⟩, ⟨mV_ HO773.out⟩, ⟨zb⟩⟩
def spec_l11Forms.f (k : Nat) (l0_0 : List (S59)) (a0_1 : Int) (a0_2 : Bool) : Option ((List (List (S59)))) := if a0_2 = true then ((spec_l03Forms.f k l0_0 8).bind fun t775 => (some t775)) else ((spec_l03Forms.f k l0_0 4).bind fun t778 => (some t778))
theorem spec_l11Forms.calls (k : Nat) (A0_0 : Option Addr) (c0_0 : Nat) (l0_0 : List (S59)) (a0_1 : Int) (a0_2 : Bool) (r : List (List (S59))) (w : World) (hr0_0 : Kd.C k59 w A0_0 l0_0.length l0_0) (hc0_0 : l0_0.length ≤ c0_0) (h : spec_l11Forms.f k l0_0 a0_1 a0_2 = some r) :
  Calls Try.prog 89 #[.agg #[.slice A0_0 l0_0.length c0_0, .int .i64 a0_1, .bool a0_2]] w fun e w' => ∃ v0_ : Value, e = .returned (v0_) ∧ Kd.V (Kd.slice 59 k59) 24 w' w.heap.size (fun k_ => (w.heap.size ≤ k_)) v0_ r ∧ Below w.heap.size w w' := by
 have hu51 := Try.underlying51
 have HR0_0 := aM hr0_0
 have HC0_0 := aM hc0_0
 clear hr0_0 hc0_0
 have HB := aM (Below.refl w.heap.size w)
 have H : (if a0_2 = true then ((spec_l03Forms.f k l0_0 8).bind fun t775 => (some t775)) else ((spec_l03Forms.f k l0_0 4).bind fun t778 => (some t778))) = some r := h
 clear h
 by_cases c2 : a0_2 = true
 ·subst c2
  have H1 : ((spec_l03Forms.f k l0_0 8).bind fun t775 => (some t775)) = some r := by rw [if_pos rfl] at H; exact H
  clear H
  have H := H1
  clear H1
  replace H := Option.bind_eq_some_iff.mp H
  obtain ⟨t775, A30, H⟩ := H
  replace H : (some t775) = some r := H
  have A3 := aM A30
  clear A30
  obtain rfl := Option.some.inj H
  go_enter Try.func89, Try.ntmps89
  go_wp2_with (first | ((with_reducible refine gate_dst (N := 1) rfl ?_); refine zx 1 #[.slice A0_0 l0_0.length c0_0, .int .i64 a0_1, .bool true] 51 ?_; intro gb774 hg w4 hbox hb; have n0_ := aM (below_step zb hb); have n1_ := aM (hbox); have n2_ := aM ((ze : w.heap.size ≤ gb774)); have n3_ := aM ((ze : w.heap.size ≤ gb774)); clear HB; have HB := n0_; have BK774 := n1_; have GW774 := n2_; have GE774 := n3_; clear n0_ n1_ n2_ n3_ hb hbox hg; have hcz5_0 : w4.cell? ⟨gb774, 0, none⟩ = some (.slice A0_0 l0_0.length c0_0) := (blk_cell BK774.out 0).trans rfl; have hcz5_1 : w4.cell? ⟨gb774, 1, none⟩ = some (.int .i64 a0_1) := (blk_cell BK774.out 1).trans rfl; have hcz5_2 : w4.cell? ⟨gb774, 2, none⟩ = some (.bool true) := (blk_cell BK774.out 2).trans rfl; have hfz5_0 := blk_frozen BK774.out 0; have hfz5_1 := blk_frozen BK774.out 1; have hfz5_2 := blk_frozen BK774.out 2) | ((with_reducible refine gate_callee (f := 123) rfl ?_); refine goesL_ (some 7) rfl rfl Try.func123 (by kernel_rfl) rfl #[.slice A0_0 l0_0.length c0_0, .int .i64 8] rfl zm ?_; (with_reducible refine (spec_l03Forms.calls k _ _ l0_0 8 t775 _ ?side1 ?side2 A3.out).mono ?_); (case side1 => repeat (first | exact (Kd.C_below HR0_0.out HB.out) | (with_reducible refine Kd.C_alloc ?_ _) | (with_reducible refine Kd.C_drewN ?_ _) | (with_reducible refine Kd.C_drew ?_))); (case side2 => exact HC0_0.out); rintro e w6 ⟨v776, rfl, ho0, hb⟩; refine ⟨_, rfl, ?_⟩; have n0_ := aM (Kd.V_lower (Kd.V_mono (ok' := fun k_ => (w.heap.size ≤ k_) ∧ k_ ≠ gb774) ho0 (fun k_ hk_ => ⟨(Nat.le_trans (below_size (zs GE774.out)) hk_), (Kd.freshB (g := gb774) (o := .cells #[.slice A0_0 l0_0.length c0_0, .int .i64 a0_1, .bool true] 51 (0, 0)) (mB_ BK774.out) k_ hk_)⟩)) (below_size (zs GE774.out))); have n1_ := aM (blk_below (g := gb774) (o := .cells #[.slice A0_0 l0_0.length c0_0, .int .i64 a0_1, .bool true] 51 (0, 0)) (mB_ BK774.out) hb); have n2_ := aM (below_step (zs GE774.out) hb); clear BK774 HB; have HO777 := n0_; have BK774 := n1_; have HB := n2_; clear n0_ n1_ n2_; (try clear hb); (try clear hb2); (try clear hk); (try clear hi); (try clear ho0)))
  go_ret
  exact ⟨_, zw, zd3 HO777.out, zs GE774.out⟩
 replace c2 := Bool.eq_false_iff.mpr c2
 subst c2
 have H1 : ((spec_l03Forms.f k l0_0 4).bind fun t778 => (some t778)) = some r := by rw [if_neg (show ¬ (false = true) by decide)] at H; exact H
 clear H
 have H := H1
 clear H1
 replace H := Option.bind_eq_some_iff.mp H
 obtain ⟨t778, A70, H⟩ := H
 replace H : (some t778) = some r := H
 have A7 := aM A70
 clear A70
 obtain rfl := Option.some.inj H
 go_enter Try.func89, Try.ntmps89
 go_wp2_with (first | ((with_reducible refine gate_dst (N := 1) rfl ?_); refine zx 1 #[.slice A0_0 l0_0.length c0_0, .int .i64 a0_1, .bool false] 51 ?_; intro gb774 hg w8 hbox hb; have n0_ := aM (below_step zb hb); have n1_ := aM (hbox); have n2_ := aM ((ze : w.heap.size ≤ gb774)); have n3_ := aM ((ze : w.heap.size ≤ gb774)); clear HB; have HB := n0_; have BK774 := n1_; have GW774 := n2_; have GE774 := n3_; clear n0_ n1_ n2_ n3_ hb hbox hg; have hcz9_0 : w8.cell? ⟨gb774, 0, none⟩ = some (.slice A0_0 l0_0.length c0_0) := (blk_cell BK774.out 0).trans rfl; have hcz9_1 : w8.cell? ⟨gb774, 1, none⟩ = some (.int .i64 a0_1) := (blk_cell BK774.out 1).trans rfl; have hcz9_2 : w8.cell? ⟨gb774, 2, none⟩ = some (.bool false) := (blk_cell BK774.out 2).trans rfl; have hfz9_0 := blk_frozen BK774.out 0; have hfz9_1 := blk_frozen BK774.out 1; have hfz9_2 := blk_frozen BK774.out 2) | ((with_reducible refine gate_callee (f := 123) rfl ?_); refine goesL_ (some 10) rfl rfl Try.func123 (by kernel_rfl) rfl #[.slice A0_0 l0_0.length c0_0, .int .i64 4] rfl zm ?_; (with_reducible refine (spec_l03Forms.calls k _ _ l0_0 4 t778 _ ?side1 ?side2 A7.out).mono ?_); (case side1 => repeat (first | exact (Kd.C_below HR0_0.out HB.out) | (with_reducible refine Kd.C_alloc ?_ _) | (with_reducible refine Kd.C_drewN ?_ _) | (with_reducible refine Kd.C_drew ?_))); (case side2 => exact HC0_0.out); rintro e w10 ⟨v779, rfl, ho0, hb⟩; refine ⟨_, rfl, ?_⟩; have n0_ := aM (Kd.V_lower (Kd.V_mono (ok' := fun k_ => (w.heap.size ≤ k_) ∧ k_ ≠ gb774) ho0 (fun k_ hk_ => ⟨(Nat.le_trans (below_size (zs GE774.out)) hk_), (Kd.freshB (g := gb774) (o := .cells #[.slice A0_0 l0_0.length c0_0, .int .i64 a0_1, .bool false] 51 (0, 0)) (mB_ BK774.out) k_ hk_)⟩)) (below_size (zs GE774.out))); have n1_ := aM (blk_below (g := gb774) (o := .cells #[.slice A0_0 l0_0.length c0_0, .int .i64 a0_1, .bool false] 51 (0, 0)) (mB_ BK774.out) hb); have n2_ := aM (below_step (zs GE774.out) hb); clear BK774 HB; have HO780 := n0_; have BK774 := n1_; have HB := n2_; clear n0_ n1_ n2_; (try clear hb); (try clear hb2); (try clear hk); (try clear hi); (try clear ho0)))
 go_ret
 exact ⟨_, zw, zd3 HO780.out, zs GE774.out⟩
def laws_toPiece.f (k : Nat) (l0_0 : List (S72)) (a0_1 : Int) (a0_2 : Bool) : Option ((List (S59)) × Int × Bool) := (laws_toCellS.f k l0_0).bind fun t800 => (some (t800, a0_1, a0_2))
theorem laws_toPiece.calls (k : Nat) (A0_0 : Option Addr) (c0_0 : Nat) (l0_0 : List (S72)) (a0_1 : Int) (a0_2 : Bool) (r1 : List (S59)) (r2 : Int) (r3 : Bool) (w : World) (hr0_0 : Kd.C k72 w A0_0 l0_0.length l0_0) (hc0_0 : l0_0.length ≤ c0_0) (h : laws_toPiece.f k l0_0 a0_1 a0_2 = some (r1, r2, r3)) :
  Calls Try.prog 34 #[.agg #[.slice A0_0 l0_0.length c0_0, .int .i64 a0_1, .bool a0_2]] w fun e w' => ∃ v0_ : Value, e = .returned (.agg #[v0_, .int .i64 r2, .bool r3]) ∧ Kd.R k59 59 w' w.heap.size (fun _ => True) v0_ r1 ∧ Below w.heap.size w w' := by
 have hu47 := Try.underlying47
 have hu51 := Try.underlying51
 have HR0_0 := aM hr0_0
 have HC0_0 := aM hc0_0
 clear hr0_0 hc0_0
 have HB := aM (Below.refl w.heap.size w)
 have H : ((laws_toCellS.f k l0_0).bind fun t800 => (some (t800, a0_1, a0_2))) = some (r1, r2, r3) := h
 clear h
 replace H := Option.bind_eq_some_iff.mp H
 obtain ⟨t800, A20, H⟩ := H
 replace H : (some (t800, a0_1, a0_2)) = some (r1, r2, r3) := H
 have A2 := aM A20
 clear A20
 simp only [Option.some.injEq, Prod.mk.injEq] at H
 obtain ⟨rfl, rfl, rfl⟩ := H
 go_enter Try.func34, Try.ntmps34
 go_wp2_with (first | ((with_reducible refine gate_dst (N := 1) rfl ?_); refine zx 1 #[.slice A0_0 l0_0.length c0_0, .int .i64 a0_1, .bool a0_2] 47 ?_; intro gb797 hg w3 hbox hb; have n0_ := aM (below_step zb hb); have n1_ := aM (hbox); have n2_ := aM ((ze : w.heap.size ≤ gb797)); have n3_ := aM ((ze : w.heap.size ≤ gb797)); clear HB; have HB := n0_; have BK797 := n1_; have GW797 := n2_; have GE797 := n3_; clear n0_ n1_ n2_ n3_; clear hb hbox hg) | ((with_reducible refine gate_dst (N := 2) rfl ?_); refine zx 2 #[.slice none 0 0, .int .i64 0, .bool false] 51 ?_; intro gb798 hg w4 hbox hb; have n0_ := aM (blk_below (g := gb797) (o := .cells #[.slice A0_0 l0_0.length c0_0, .int .i64 a0_1, .bool a0_2] 47 (0, 0)) (mB_ BK797.out) hb); have n1_ := aM (below_step (zs GE797.out) hb); have n2_ := aM (hbox); have n3_ := aM ((zf GE797.out : w.heap.size ≤ gb798)); have n4_ := aM ((zf GE797.out : w.heap.size ≤ gb798)); have n5_ := aM ((zl BK797.out : gb797 ≠ gb798)); have n6_ := aM ((zn BK797.out : gb798 ≠ gb797)); clear BK797 HB; have BK797 := n0_; have HB := n1_; have BK798 := n2_; have GW798 := n3_; have GE798 := n4_; have NB797_798 := n5_; have NB798_797 := n6_; clear n0_ n1_ n2_ n3_ n4_ n5_ n6_; clear hb hbox hg) | ((with_reducible refine gate_dst (N := 3) rfl ?_); refine zx 3 #[.slice none 0 0, .int .i64 0, .bool false] 51 ?_; intro gb799 hg w5 hbox hb; have n0_ := aM (blk_below (g := gb797) (o := .cells #[.slice A0_0 l0_0.length c0_0, .int .i64 a0_1, .bool a0_2] 47 (0, 0)) (mB_ BK797.out) hb); have n1_ := aM (blk_below (g := gb798) (o := .cells #[.slice none 0 0, .int .i64 0, .bool false] 51 (0, 0)) (mB_ BK798.out) hb); have n2_ := aM (below_step (zt GE797.out GE798.out) hb); have n3_ := aM (hbox); have n4_ := aM ((by rw [hg]; exact (below_size (zt GE797.out GE798.out)) : w.heap.size ≤ gb799)); have n5_ := aM ((by rw [hg]; exact (below_size (zt GE797.out GE798.out)) : w.heap.size ≤ gb799)); have n6_ := aM ((zl BK797.out : gb797 ≠ gb799)); have n7_ := aM ((zn BK797.out : gb799 ≠ gb797)); have n8_ := aM ((zl BK798.out : gb798 ≠ gb799)); have n9_ := aM ((zn BK798.out : gb799 ≠ gb798)); clear BK797 BK798 HB; have BK797 := n0_; have BK798 := n1_; have HB := n2_; have BK799 := n3_; have GW799 := n4_; have GE799 := n5_; have NB797_799 := n6_; have NB799_797 := n7_; have NB798_799 := n8_; have NB799_798 := n9_; clear n0_ n1_ n2_ n3_ n4_ n5_ n6_ n7_ n8_ n9_ hb hbox hg; have hnb6 := NB797_798.out; have hnc6 := NB798_797.out; have hnb7 := NB797_799.out; have hnc7 := NB799_797.out; have hcz8_0 : w5.cell? ⟨gb797, 0, none⟩ = some (.slice A0_0 l0_0.length c0_0) := (blk_cell BK797.out 0).trans rfl; have hcz8_1 : w5.cell? ⟨gb797, 1, none⟩ = some (.int .i64 a0_1) := (blk_cell BK797.out 1).trans rfl; have hcz8_2 : w5.cell? ⟨gb797, 2, none⟩ = some (.bool a0_2) := (blk_cell BK797.out 2).trans rfl; have hfz8_0 := blk_frozen BK797.out 0; have hfz8_1 := blk_frozen BK797.out 1; have hfz8_2 := blk_frozen BK797.out 2) | ((with_reducible refine gate_callee (f := 11) rfl ?_); refine goesL_ (some 6) rfl rfl Try.func11 (by kernel_rfl) rfl #[.slice A0_0 l0_0.length c0_0] rfl zm ?_; (with_reducible refine (laws_toCellS.calls k _ _ l0_0 t800 _ ?side1 ?side2 A2.out).mono ?_); (case side1 => repeat (first | exact (Kd.C_below HR0_0.out HB.out) | (with_reducible refine Kd.C_alloc ?_ _) | (with_reducible refine Kd.C_drewN ?_ _) | (with_reducible refine Kd.C_drew ?_))); (case side2 => exact HC0_0.out); rintro e w9 ⟨v801, rfl, ho0, hb⟩; refine ⟨_, rfl, ?_⟩; have n0_ := aM (Kd.R_lower ho0 (below_size (by repeat (first | (with_reducible first | exact HB.out | apply below_alloc | apply pw_below_drewN | apply below_drew1 | refine below_set ?_ GE797.out | refine below_set ?_ GE798.out | refine below_set ?_ GE799.out) | exact HB.out)))); have n1_ := aM (blk_below (g := gb797) (o := .cells #[.slice A0_0 l0_0.length c0_0, .int .i64 a0_1, .bool a0_2] 47 (0, 0)) (mB_ BK797.out) hb); have n2_ := aM (blk_below (g := gb798) (o := .cells #[.slice none 0 0, .int .i64 0, .bool false] 51 (0, 0)) (mB_ BK798.out) hb); have n3_ := aM (blk_below (g := gb799) (o := .cells #[.slice none 0 0, .int .i64 0, .bool false] 51 (0, 0)) (mB_ BK799.out) hb); have n4_ := aM (below_step (by repeat (first | (with_reducible first | exact HB.out | apply below_alloc | apply pw_below_drewN | apply below_drew1 | refine below_set ?_ GE797.out | refine below_set ?_ GE798.out | refine below_set ?_ GE799.out) | exact HB.out)) hb); clear BK797 BK798 BK799 HB; have HO802 := n0_; have BK797 := n1_; have BK798 := n2_; have BK799 := n3_; have HB := n4_; clear n0_ n1_ n2_ n3_ n4_; (try clear hb); (try clear hb2); (try clear hk); (try clear hi); (try clear ho0); obtain ⟨Ao10, co10, eo10⟩ := Kd.R_slice HO802.out; subst eo10; have hnb11 := NB799_798.out; have hnc11 := NB798_799.out; have hcz12_0 : w9.cell? ⟨gb799, 0, none⟩ = some (.slice none 0 0) := (blk_cell BK799.out 0).trans rfl; have hcz12_1 : w9.cell? ⟨gb799, 1, none⟩ = some (.int .i64 0) := (blk_cell BK799.out 1).trans rfl; have hcz12_2 : w9.cell? ⟨gb799, 2, none⟩ = some (.bool false) := (blk_cell BK799.out 2).trans rfl; have hfz12_0 := blk_frozen BK799.out 0; have hfz12_1 := blk_frozen BK799.out 1; have hfz12_2 := blk_frozen BK799.out 2; have hcz13_0 : w9.cell? ⟨gb797, 0, none⟩ = some (.slice A0_0 l0_0.length c0_0) := (blk_cell BK797.out 0).trans rfl; have hcz13_1 : w9.cell? ⟨gb797, 1, none⟩ = some (.int .i64 a0_1) := (blk_cell BK797.out 1).trans rfl; have hcz13_2 : w9.cell? ⟨gb797, 2, none⟩ = some (.bool a0_2) := (blk_cell BK797.out 2).trans rfl; have hfz13_0 := blk_frozen BK797.out 0; have hfz13_1 := blk_frozen BK797.out 1; have hfz13_2 := blk_frozen BK797.out 2; have hcz14_0 : w9.cell? ⟨gb798, 0, none⟩ = some (.slice none 0 0) := (blk_cell BK798.out 0).trans rfl; have hcz14_1 : w9.cell? ⟨gb798, 1, none⟩ = some (.int .i64 0) := (blk_cell BK798.out 1).trans rfl; have hcz14_2 : w9.cell? ⟨gb798, 2, none⟩ = some (.bool false) := (blk_cell BK798.out 2).trans rfl; have hfz14_0 := blk_frozen BK798.out 0; have hfz14_1 := blk_frozen BK798.out 1; have hfz14_2 := blk_frozen BK798.out 2))
 refine bodyPost_ret (results_cell_row rfl _ _ gb798 51 #[.slice Ao10 t800.length co10, .int .i64 a0_1, .bool a0_2] (0, 0) _ rfl (by (with_reducible repeat (first | refine blk_drewN ?_ _ | refine blk_drew ?_ | refine blk_alloc ?_ _)); refine blk_put (cs := #[.slice Ao10 t800.length co10, .int .i64 a0_1, .bool false]) ?_ 2 _ rfl; (with_reducible repeat (first | refine blk_drewN ?_ _ | refine blk_drew ?_ | refine blk_alloc ?_ _)); refine blk_put (cs := #[.slice Ao10 t800.length co10, .int .i64 0, .bool false]) ?_ 1 _ rfl; (with_reducible repeat (first | refine blk_drewN ?_ _ | refine blk_drew ?_ | refine blk_alloc ?_ _)); refine blk_put (cs := #[.slice none 0 0, .int .i64 0, .bool false]) ?_ 0 _ rfl; (with_reducible repeat (first | refine blk_drewN ?_ _ | refine blk_drew ?_ | refine blk_alloc ?_ _)); refine blk_far ?_ NB798_799.out _; (with_reducible repeat (first | refine blk_drewN ?_ _ | refine blk_drew ?_ | refine blk_alloc ?_ _)); refine blk_far ?_ NB798_799.out _; (with_reducible repeat (first | refine blk_drewN ?_ _ | refine blk_drew ?_ | refine blk_alloc ?_ _)); refine blk_far ?_ NB798_799.out _; (with_reducible repeat (first | refine blk_drewN ?_ _ | refine blk_drew ?_ | refine blk_alloc ?_ _)); exact BK798.out) Try.underlying51 rfl (by kernel_rfl)) rfl ?_
 exact ⟨_, zw, by (with_reducible repeat (first | apply Kd.R_alloc | apply Kd.R_drewN | apply Kd.R_drew)); exact Kd.R_mono (Kd.R_far (p := ⟨gb798, 2, none⟩) (Kd.R_far (p := ⟨gb798, 1, none⟩) (Kd.R_far (p := ⟨gb798, 0, none⟩) (Kd.R_far (p := ⟨gb799, 2, none⟩) (Kd.R_far (p := ⟨gb799, 1, none⟩) (Kd.R_far (p := ⟨gb799, 0, none⟩) (Kd.R_types (Kd.R_types HO802.out BK799.out (by decide)) BK798.out (by decide)) (fun _ hk => hk.1.2) (.slice Ao10 t800.length co10)) (fun _ hk => hk.1.2) (.int .i64 a0_1)) (fun _ hk => hk.1.2) (.bool a0_2)) (fun _ hk => hk.2) (.slice Ao10 t800.length co10)) (fun _ hk => hk.2) (.int .i64 a0_1)) (fun _ hk => hk.2) (.bool a0_2)) (fun _ hk => trivial), by repeat (first | (with_reducible first | exact HB.out | apply below_alloc | apply pw_below_drewN | apply below_drew1 | refine below_set ?_ GE797.out | refine below_set ?_ GE798.out | refine below_set ?_ GE799.out) | exact HB.out)⟩
def slices_Max_int64_int64.l0 : Nat → List Int → Int → Int → Option (Int)
 | 0, _, _, _ => none
 | k + 1, x0, x3, x4 => if x4 < (x0.length : Int) then (if 0 ≤ x4 then (slices_Max_int64_int64.l0 k x0 (mx x3 (rd x0 x4)) (wrap64 (x4 + 1))) else (none)) else (some x3)
def slices_Max_int64_int64.f (k : Nat) (l0 : List Int) : Option (Int) := if (l0.length : Int) < 1 then (none) else (if 0 < (l0.length : Int) then (slices_Max_int64_int64.l0 k l0 (rd l0 0) 1) else (none))
theorem slices_Max_int64_int64.calls (k : Nat) (A0 : Option Addr) (c0 : Nat) (l0 : List Int) (r : Int) (w : World) (hr0 : Kd.C (Kd.int .i64) w A0 l0.length l0) (hc0 : l0.length ≤ c0) (h : slices_Max_int64_int64.f k l0 = some r) :
  Calls Try.prog 132 #[.slice A0 l0.length c0] w fun e w' => e = .returned (.int .i64 r) ∧ Below w.heap.size w w' := by
 have HR0 := aM hr0
 have HC0 := aM hc0
 clear hr0 hc0
 have HB := aM (Below.refl w.heap.size w)
 have H : (if (l0.length : Int) < 1 then (none) else (if 0 < (l0.length : Int) then (slices_Max_int64_int64.l0 k l0 (rd l0 0) 1) else (none))) = some r := h
 clear h
 by_cases c2 : (l0.length : Int) < 1
 ·rw [if_pos c2] at H
  exact absurd H (by simp)
 rw [if_neg c2] at H
 have c2b0 : decide ((l0.length : Int) < 1) = false := decide_eq_false c2
 have c2b1 : decide (l0.length < 1) = false := decide_eq_false (by omega)
 clear c2
 by_cases c3 : 0 < (l0.length : Int)
 rotate_left
 ·rw [if_neg c3] at H
  exact absurd H (by simp)
 rw [if_pos c3] at H
 have c3b0 : decide (0 < (l0.length : Int)) = true := decide_eq_true c3
 have c3b1 : decide (0 < l0.length) = true := decide_eq_true (by omega)
 clear c3
 have H' := aM H
 clear H
 have p809 : 0 ≤ (0 : Int) := (by omega)
 have q809 : 0 < (l0.length : Int) := of_decide_eq_true za
 obtain ⟨ad809, e809, hx809_0⟩ := Kd.at_int HR0.out 0 p809 q809
 cases e809
 have qi809 : (0 < l0.length) = True := eq_true (by omega)
 (try rw [show ((0 : Int)).toNat = 0 from rfl] at hx809_0)
 (try rw [Addr.add_zero'] at hx809_0)
 replace p809 := eq_true p809
 replace q809 := eq_true q809
 go_enter Try.func132, Try.ntmps132
 go_wp2
 go_loopg [3, 4] k (fun kq v3 v4 w' => ∃ (x3_1 : Int) (x4_1 : Int), v3 = .int .i64 x3_1 ∧ v4 = .int .i64 x4_1 ∧ Aside0 (slices_Max_int64_int64.l0 kq l0 x3_1 x4_1 = some r) ∧ Aside0 (kq ≤ k) ∧ Aside0 (Below w.heap.size w w'))
 case atStart => exact ⟨(rd l0 0), (1), zr, zr, H', ⟨Nat.le_refl _⟩, ⟨zb⟩⟩
 case round =>
  clear H'
  try clear c1
  try clear c2
  try clear c2b0
  try clear c2b1
  try clear p2
  try clear c3
  try clear c3b0
  try clear c3b1
  try clear hx809_0
  try clear p809
  try clear q809
  obtain ⟨x3_1, x4_1, rfl, rfl, HA, HK1, HB⟩ := hrel
  cases gk with
  | zero => exact absurd HA.out (by simp [slices_Max_int64_int64.l0])
  | succ k1 =>
   have H := HA.out
   clear HA
   simp only [slices_Max_int64_int64.l0] at H
   by_cases c4 : x4_1 < (l0.length : Int)
   rotate_left
   ·rw [if_neg c4] at H
    have c4b0 : decide (x4_1 < (l0.length : Int)) = false := decide_eq_false c4
    clear c4
    obtain rfl := Option.some.inj H
    go_wp2
    go_ret
    exact ⟨zw, zb⟩
   rw [if_pos c4] at H
   have c4b0 : decide (x4_1 < (l0.length : Int)) = true := decide_eq_true c4
   clear c4
   by_cases c5 : 0 ≤ x4_1
   rotate_left
   ·rw [if_neg c5] at H
    exact absurd H (by simp)
   rw [if_pos c5] at H
   have c5b0 : decide (0 ≤ x4_1) = true := decide_eq_true c5
   clear c5
   obtain ⟨ji6, hji6⟩ : ∃ j_ : Int, (mx x3_1 (rd l0 x4_1)) = j_ := ⟨_, rfl⟩
   replace H : (slices_Max_int64_int64.l0 k1 l0 ji6 (wrap64 (x4_1 + 1))) = some r := by first | (rw [hji6] at H; exact H) | (simp only [hji6] at H ⊢; exact H)
   have hji6_ : (if x3_1 < (rd l0 x4_1) then (rd l0 x4_1) else x3_1) = ji6 := hji6
   have H' := aM H
   clear H
   have p810 : 0 ≤ (x4_1 : Int) := of_decide_eq_true za
   have q810 : x4_1 < (l0.length : Int) := of_decide_eq_true za
   obtain ⟨ad810, e810, hx810_0⟩ := Kd.at_int HR0.out x4_1 p810 q810
   obtain rfl : ad809 = ad810 := (by injection e810)
   replace hx810_0 := zk HB.out hx810_0
   replace p810 := eq_true p810
   replace q810 := eq_true q810
   go_wp2
   go_roundg k1
   case measure => have := HK1.out; omega
   case rel => exact ⟨(ji6), (wrap64 (x4_1 + 1)), (by first | rfl | (simp; done) | (simp only [← hji6] <;> (first | rfl | simp)) | (simp [*]; done)), zr, H', ⟨by have := HK1.out; omega⟩, ⟨zb⟩⟩
def impl_connected__impl_around.f (k : Nat) (l0 : List (S59))  : Option (Bool) := (impl_parts__impl_around.f k l0).bind fun t811 => ((slices_Max_int64_int64.f k t811).bind fun t814 => (some (t814 == 0)))
theorem impl_connected__impl_around.calls (k : Nat) (A0 : Option Addr) (c0 : Nat) (l0 : List (S59))  (r : Bool) (w : World) (hr0 : Kd.C k59 w A0 l0.length l0) (hc0 : l0.length ≤ c0) (h : impl_connected__impl_around.f k l0 = some r) :
  Calls Try.prog 112 #[.slice A0 l0.length c0, .func (.func 86) #[] #[]] w fun e w' => e = .returned (.bool r) ∧ Below w.heap.size w w' := by
 have HR0 := aM hr0
 have HC0 := aM hc0
 clear hr0 hc0
 have HB := aM (Below.refl w.heap.size w)
 have H : ((impl_parts__impl_around.f k l0).bind fun t811 => ((slices_Max_int64_int64.f k t811).bind fun t814 => (some (t814 == 0)))) = some r := h
 clear h
 replace H := Option.bind_eq_some_iff.mp H
 obtain ⟨t811, A30, H⟩ := H
 replace H : ((slices_Max_int64_int64.f k t811).bind fun t814 => (some (t814 == 0))) = some r := H
 have A3 := aM A30
 clear A30
 replace H := Option.bind_eq_some_iff.mp H
 obtain ⟨t814, A40, H⟩ := H
 replace H : (some (t814 == 0)) = some r := H
 have A4 := aM A40
 clear A40
 obtain rfl := Option.some.inj H
 go_enter Try.func112, Try.ntmps112
 go_wp2_with (first | ((with_reducible refine gate_callee (f := 99) rfl ?_); refine goesL_ (some 7) rfl rfl Try.func99 (by kernel_rfl) rfl #[.slice A0 l0.length c0, .func (.func 86) #[] #[]] rfl zm ?_; (with_reducible refine (impl_parts__impl_around.calls k _ _ l0  t811 _ ?side1 ?side2 A3.out).mono ?_); (case side1 => repeat (first | exact HR0.out | (with_reducible refine Kd.C_alloc ?_ _) | (with_reducible refine Kd.C_drewN ?_ _) | (with_reducible refine Kd.C_drew ?_))); (case side2 => exact HC0.out); rintro e w5 ⟨v812, rfl, ho0, hb⟩; refine ⟨_, rfl, ?_⟩; have n0_ := aM (Kd.R_lower ho0 (below_size zb)); have n1_ := aM (below_step zb hb); clear HB; have HO813 := n0_; have HB := n1_; clear n0_ n1_; (try clear hb); (try clear hb2); (try clear hk); (try clear hi); (try clear ho0); obtain ⟨Ao6, co6, eo6⟩ := Kd.R_slice HO813.out; subst eo6) | ((with_reducible refine gate_callee (f := 132) rfl ?_); refine goesL_ (some 8) rfl rfl Try.func132 (by kernel_rfl) rfl #[.slice Ao6 t811.length co6] rfl zm ?_; (with_reducible refine (slices_Max_int64_int64.calls k _ _ t811 t814 _ ?side1 ?side2 A4.out).mono ?_); (case side1 => exact zc HO813.out); (case side2 => exact (Kd.R_reads' HO813.out).2.1); rintro e w7 ⟨rfl, hb⟩; refine ⟨_, rfl, ?_⟩; have n0_ := aM (Kd.R_below (mR_ HO813.out) hb); have n1_ := aM (below_step zb hb); clear HO813 HB; have HO813 := n0_; have HB := n1_; clear n0_ n1_; (try clear hb); (try clear hb2); (try clear hk); (try clear hi)))
 go_ret
 exact ⟨zw, zb⟩
def impl_IsPiece.f (k : Nat) (l0_0 : List (S59)) (a0_1 : Int) (a0_2 : Bool) : Option (Bool) := (impl_IsRegion.f k l0_0).bind fun t816 => (if t816 = true then ((impl_connected__impl_around.f k l0_0).bind fun t817 => (if t817 = true then ((impl_within.f a0_1 1 8).bind fun t818 => (some t818)) else (some false))) else (some false))
theorem impl_IsPiece.calls (k : Nat) (A0_0 : Option Addr) (c0_0 : Nat) (l0_0 : List (S59)) (a0_1 : Int) (a0_2 : Bool) (r : Bool) (w : World) (hr0_0 : Kd.C k59 w A0_0 l0_0.length l0_0) (hc0_0 : l0_0.length ≤ c0_0) (h : impl_IsPiece.f k l0_0 a0_1 a0_2 = some r) :
  Calls Try.prog 75 #[.agg #[.slice A0_0 l0_0.length c0_0, .int .i64 a0_1, .bool a0_2]] w fun e w' => e = .returned (.bool r) ∧ Below w.heap.size w w' := by
 have hu51 := Try.underlying51
 have HR0_0 := aM hr0_0
 have HC0_0 := aM hc0_0
 clear hr0_0 hc0_0
 have HB := aM (Below.refl w.heap.size w)
 have H : ((impl_IsRegion.f k l0_0).bind fun t816 => (if t816 = true then ((impl_connected__impl_around.f k l0_0).bind fun t817 => (if t817 = true then ((impl_within.f a0_1 1 8).bind fun t818 => (some t818)) else (some false))) else (some false))) = some r := h
 clear h
 replace H := Option.bind_eq_some_iff.mp H
 obtain ⟨t816, A20, H⟩ := H
 replace H : (if t816 = true then ((impl_connected__impl_around.f k l0_0).bind fun t817 => (if t817 = true then ((impl_within.f a0_1 1 8).bind fun t818 => (some t818)) else (some false))) else (some false)) = some r := H
 have A2 := aM A20
 clear A20
 by_cases c3 : t816 = true
 rotate_left
 ·replace c3 := Bool.eq_false_iff.mpr c3
  subst c3
  have H1 : (some false) = some r := by rw [if_neg (show ¬ (false = true) by decide)] at H; exact H
  clear H
  have H := H1
  clear H1
  obtain rfl := Option.some.inj H
  go_enter Try.func75, Try.ntmps75
  go_wp2_with (first | ((with_reducible refine gate_dst (N := 1) rfl ?_); refine zx 1 #[.slice A0_0 l0_0.length c0_0, .int .i64 a0_1, .bool a0_2] 51 ?_; intro gb815 hg w18 hbox hb; have n0_ := aM (below_step zb hb); have n1_ := aM (hbox); have n2_ := aM ((ze : w.heap.size ≤ gb815)); have n3_ := aM ((ze : w.heap.size ≤ gb815)); clear HB; have HB := n0_; have BK815 := n1_; have GW815 := n2_; have GE815 := n3_; clear n0_ n1_ n2_ n3_ hb hbox hg; have hcz19_0 : w18.cell? ⟨gb815, 0, none⟩ = some (.slice A0_0 l0_0.length c0_0) := (blk_cell BK815.out 0).trans rfl; have hcz19_1 : w18.cell? ⟨gb815, 1, none⟩ = some (.int .i64 a0_1) := (blk_cell BK815.out 1).trans rfl; have hcz19_2 : w18.cell? ⟨gb815, 2, none⟩ = some (.bool a0_2) := (blk_cell BK815.out 2).trans rfl; have hfz19_0 := blk_frozen BK815.out 0; have hfz19_1 := blk_frozen BK815.out 1; have hfz19_2 := blk_frozen BK815.out 2) | ((with_reducible refine gate_callee (f := 81) rfl ?_); refine goesL_ (some 5) rfl rfl Try.func81 (by kernel_rfl) rfl #[.slice A0_0 l0_0.length c0_0] rfl zm ?_; (with_reducible refine (impl_IsRegion.calls k _ _ l0_0 false _ ?side1 ?side2 A2.out).mono ?_); (case side1 => repeat (first | exact (Kd.C_below HR0_0.out HB.out) | (with_reducible refine Kd.C_alloc ?_ _) | (with_reducible refine Kd.C_drewN ?_ _) | (with_reducible refine Kd.C_drew ?_))); (case side2 => exact HC0_0.out); rintro e w20 ⟨rfl, hb⟩; refine ⟨_, rfl, ?_⟩; have n0_ := aM (blk_below (g := gb815) (o := .cells #[.slice A0_0 l0_0.length c0_0, .int .i64 a0_1, .bool a0_2] 51 (0, 0)) (mB_ BK815.out) hb); have n1_ := aM (below_step (zs GE815.out) hb); clear BK815 HB; have BK815 := n0_; have HB := n1_; clear n0_ n1_; (try clear hb); (try clear hb2); (try clear hk); (try clear hi)))
  go_ret
  exact ⟨zw, zs GE815.out⟩
 subst c3
 have H1 : ((impl_connected__impl_around.f k l0_0).bind fun t817 => (if t817 = true then ((impl_within.f a0_1 1 8).bind fun t818 => (some t818)) else (some false))) = some r := by rw [if_pos rfl] at H; exact H
 clear H
 have H := H1
 clear H1
 replace H := Option.bind_eq_some_iff.mp H
 obtain ⟨t817, A40, H⟩ := H
 replace H : (if t817 = true then ((impl_within.f a0_1 1 8).bind fun t818 => (some t818)) else (some false)) = some r := H
 have A4 := aM A40
 clear A40
 by_cases c5 : t817 = true
 rotate_left
 ·replace c5 := Bool.eq_false_iff.mpr c5
  subst c5
  have H1 : (some false) = some r := by rw [if_neg (show ¬ (false = true) by decide)] at H; exact H
  clear H
  have H := H1
  clear H1
  obtain rfl := Option.some.inj H
  go_enter Try.func75, Try.ntmps75
  go_wp2_with (first | ((with_reducible refine gate_dst (N := 1) rfl ?_); refine zx 1 #[.slice A0_0 l0_0.length c0_0, .int .i64 a0_1, .bool a0_2] 51 ?_; intro gb815 hg w13 hbox hb; have n0_ := aM (below_step zb hb); have n1_ := aM (hbox); have n2_ := aM ((ze : w.heap.size ≤ gb815)); have n3_ := aM ((ze : w.heap.size ≤ gb815)); clear HB; have HB := n0_; have BK815 := n1_; have GW815 := n2_; have GE815 := n3_; clear n0_ n1_ n2_ n3_ hb hbox hg; have hcz14_0 : w13.cell? ⟨gb815, 0, none⟩ = some (.slice A0_0 l0_0.length c0_0) := (blk_cell BK815.out 0).trans rfl; have hcz14_1 : w13.cell? ⟨gb815, 1, none⟩ = some (.int .i64 a0_1) := (blk_cell BK815.out 1).trans rfl; have hcz14_2 : w13.cell? ⟨gb815, 2, none⟩ = some (.bool a0_2) := (blk_cell BK815.out 2).trans rfl; have hfz14_0 := blk_frozen BK815.out 0; have hfz14_1 := blk_frozen BK815.out 1; have hfz14_2 := blk_frozen BK815.out 2) | ((with_reducible refine gate_callee (f := 81) rfl ?_); refine goesL_ (some 5) rfl rfl Try.func81 (by kernel_rfl) rfl #[.slice A0_0 l0_0.length c0_0] rfl zm ?_; (with_reducible refine (impl_IsRegion.calls k _ _ l0_0 true _ ?side1 ?side2 A2.out).mono ?_); (case side1 => repeat (first | exact (Kd.C_below HR0_0.out HB.out) | (with_reducible refine Kd.C_alloc ?_ _) | (with_reducible refine Kd.C_drewN ?_ _) | (with_reducible refine Kd.C_drew ?_))); (case side2 => exact HC0_0.out); rintro e w15 ⟨rfl, hb⟩; refine ⟨_, rfl, ?_⟩; have n0_ := aM (blk_below (g := gb815) (o := .cells #[.slice A0_0 l0_0.length c0_0, .int .i64 a0_1, .bool a0_2] 51 (0, 0)) (mB_ BK815.out) hb); have n1_ := aM (below_step (zs GE815.out) hb); clear BK815 HB; have BK815 := n0_; have HB := n1_; clear n0_ n1_; (try clear hb); (try clear hb2); (try clear hk); (try clear hi); have hcz16_0 : w15.cell? ⟨gb815, 0, none⟩ = some (.slice A0_0 l0_0.length c0_0) := (blk_cell BK815.out 0).trans rfl; have hcz16_1 : w15.cell? ⟨gb815, 1, none⟩ = some (.int .i64 a0_1) := (blk_cell BK815.out 1).trans rfl; have hcz16_2 : w15.cell? ⟨gb815, 2, none⟩ = some (.bool a0_2) := (blk_cell BK815.out 2).trans rfl; have hfz16_0 := blk_frozen BK815.out 0; have hfz16_1 := blk_frozen BK815.out 1; have hfz16_2 := blk_frozen BK815.out 2) | (go_at_call 112; (with_reducible refine (impl_connected__impl_around.calls k _ _ l0_0  false _ ?side1 ?side2 A4.out).mono ?_); (case side1 => repeat (first | exact (Kd.C_below HR0_0.out HB.out) | (with_reducible refine Kd.C_alloc ?_ _) | (with_reducible refine Kd.C_drewN ?_ _) | (with_reducible refine Kd.C_drew ?_))); (case side2 => exact HC0_0.out); rintro e w17 ⟨rfl, hb⟩; have n0_ := aM (blk_below (g := gb815) (o := .cells #[.slice A0_0 l0_0.length c0_0, .int .i64 a0_1, .bool a0_2] 51 (0, 0)) (mB_ BK815.out) hb); have n1_ := aM (below_step (zs GE815.out) hb); clear BK815 HB; have BK815 := n0_; have HB := n1_; clear n0_ n1_; (try clear hb); (try clear hb2); (try clear hk); (try clear hi)))
  go_ret
  exact ⟨zw, zs GE815.out⟩
 subst c5
 have H1 : ((impl_within.f a0_1 1 8).bind fun t818 => (some t818)) = some r := by rw [if_pos rfl] at H; exact H
 clear H
 have H := H1
 clear H1
 replace H := Option.bind_eq_some_iff.mp H
 obtain ⟨t818, A60, H⟩ := H
 replace H : (some t818) = some r := H
 have A6 := aM A60
 clear A60
 obtain rfl := Option.some.inj H
 go_enter Try.func75, Try.ntmps75
 go_wp2_with (first | ((with_reducible refine gate_dst (N := 1) rfl ?_); refine zx 1 #[.slice A0_0 l0_0.length c0_0, .int .i64 a0_1, .bool a0_2] 51 ?_; intro gb815 hg w7 hbox hb; have n0_ := aM (below_step zb hb); have n1_ := aM (hbox); have n2_ := aM ((ze : w.heap.size ≤ gb815)); have n3_ := aM ((ze : w.heap.size ≤ gb815)); clear HB; have HB := n0_; have BK815 := n1_; have GW815 := n2_; have GE815 := n3_; clear n0_ n1_ n2_ n3_ hb hbox hg; have hcz8_0 : w7.cell? ⟨gb815, 0, none⟩ = some (.slice A0_0 l0_0.length c0_0) := (blk_cell BK815.out 0).trans rfl; have hcz8_1 : w7.cell? ⟨gb815, 1, none⟩ = some (.int .i64 a0_1) := (blk_cell BK815.out 1).trans rfl; have hcz8_2 : w7.cell? ⟨gb815, 2, none⟩ = some (.bool a0_2) := (blk_cell BK815.out 2).trans rfl; have hfz8_0 := blk_frozen BK815.out 0; have hfz8_1 := blk_frozen BK815.out 1; have hfz8_2 := blk_frozen BK815.out 2) | ((with_reducible refine gate_callee (f := 81) rfl ?_); refine goesL_ (some 5) rfl rfl Try.func81 (by kernel_rfl) rfl #[.slice A0_0 l0_0.length c0_0] rfl zm ?_; (with_reducible refine (impl_IsRegion.calls k _ _ l0_0 true _ ?side1 ?side2 A2.out).mono ?_); (case side1 => repeat (first | exact (Kd.C_below HR0_0.out HB.out) | (with_reducible refine Kd.C_alloc ?_ _) | (with_reducible refine Kd.C_drewN ?_ _) | (with_reducible refine Kd.C_drew ?_))); (case side2 => exact HC0_0.out); rintro e w9 ⟨rfl, hb⟩; refine ⟨_, rfl, ?_⟩; have n0_ := aM (blk_below (g := gb815) (o := .cells #[.slice A0_0 l0_0.length c0_0, .int .i64 a0_1, .bool a0_2] 51 (0, 0)) (mB_ BK815.out) hb); have n1_ := aM (below_step (zs GE815.out) hb); clear BK815 HB; have BK815 := n0_; have HB := n1_; clear n0_ n1_; (try clear hb); (try clear hb2); (try clear hk); (try clear hi); have hcz10_0 : w9.cell? ⟨gb815, 0, none⟩ = some (.slice A0_0 l0_0.length c0_0) := (blk_cell BK815.out 0).trans rfl; have hcz10_1 : w9.cell? ⟨gb815, 1, none⟩ = some (.int .i64 a0_1) := (blk_cell BK815.out 1).trans rfl; have hcz10_2 : w9.cell? ⟨gb815, 2, none⟩ = some (.bool a0_2) := (blk_cell BK815.out 2).trans rfl; have hfz10_0 := blk_frozen BK815.out 0; have hfz10_1 := blk_frozen BK815.out 1; have hfz10_2 := blk_frozen BK815.out 2) | (go_at_call 112; (with_reducible refine (impl_connected__impl_around.calls k _ _ l0_0  true _ ?side1 ?side2 A4.out).mono ?_); (case side1 => repeat (first | exact (Kd.C_below HR0_0.out HB.out) | (with_reducible refine Kd.C_alloc ?_ _) | (with_reducible refine Kd.C_drewN ?_ _) | (with_reducible refine Kd.C_drew ?_))); (case side2 => exact HC0_0.out); rintro e w11 ⟨rfl, hb⟩; have n0_ := aM (blk_below (g := gb815) (o := .cells #[.slice A0_0 l0_0.length c0_0, .int .i64 a0_1, .bool a0_2] 51 (0, 0)) (mB_ BK815.out) hb); have n1_ := aM (below_step (zs GE815.out) hb); clear BK815 HB; have BK815 := n0_; have HB := n1_; clear n0_ n1_; (try clear hb); (try clear hb2); (try clear hk); (try clear hi); have hcz12_0 : w11.cell? ⟨gb815, 0, none⟩ = some (.slice A0_0 l0_0.length c0_0) := (blk_cell BK815.out 0).trans rfl; have hcz12_1 : w11.cell? ⟨gb815, 1, none⟩ = some (.int .i64 a0_1) := (blk_cell BK815.out 1).trans rfl; have hcz12_2 : w11.cell? ⟨gb815, 2, none⟩ = some (.bool a0_2) := (blk_cell BK815.out 2).trans rfl; have hfz12_0 := blk_frozen BK815.out 0; have hfz12_1 := blk_frozen BK815.out 1; have hfz12_2 := blk_frozen BK815.out 2) | (go_at_call 88; (with_reducible refine (impl_within.calls a0_1 1 8 t818 _ A6.out).mono ?_); rintro e w' ⟨rfl, ⟨nd, rfl⟩⟩))
 go_ret
 exact ⟨zw, zs GE815.out⟩
def impl_Cell_155__impl_compareCells.l0 : Nat → List (S59) → List (S59) → List (S59) → Int → Int → Option (Int)
 | 0, _, _, _, _, _ => none
 | k + 1, x0, x1, x11, x12, x13 => if x13 < x12 then (if 0 ≤ x13 then (if x13 < (x11.length : Int) then (if x13 ≥ (x1.length : Int) then (some 1) else (if x13 < (x1.length : Int) then ((impl_compareCells.f ((rd_T59 x11 x13).f0) ((rd_T59 x11 x13).f1) ((rd_T59 x1 x13).f0) ((rd_T59 x1 x13).f1)).bind fun t823 => (if t823 = 0 then (impl_Cell_155__impl_compareCells.l0 k x0 x1 x11 x12 (wrap64 (x13 + 1))) else (some t823))) else (none))) else (none)) else (none)) else (if (x0.length : Int) < (x1.length : Int) then (some (-1)) else (some 0))
def impl_Cell_155__impl_compareCells.f (k : Nat) (l0 : List (S59)) (l1 : List (S59))  : Option (Int) := impl_Cell_155__impl_compareCells.l0 k l0 l1 l0 (l0.length : Int) 0
mutual
def impl_turnCell.j0 : Nat → Int → Int → Int → Option (Int × Int)
 | 0, _, _, _ => none
 | k + 1, x1, x548000, x548001 => impl_turnCell.l0 k (Int.tmod x1 4) 0 x548000 x548001
def impl_turnCell.l0 : Nat → Int → Int → Int → Int → Option (Int × Int)
 | 0, _, _, _, _ => none
 | k + 1, x12, x13, x548000, x548001 => if x13 < x12 then (impl_turnCell.l0 k x12 (wrap64 (x13 + 1)) (wrap64 (-x548001)) x548000) else (some (x548000, x548001))
end
def impl_turnCell.f (k : Nat) (a0_0 : Int) (a0_1 : Int) (a1 : Int) : Option (Int × Int) := if a1 ≥ 4 then (impl_turnCell.j0 k a1 (wrap64 (-a0_0)) a0_1) else (impl_turnCell.j0 k a1 a0_0 a0_1)
theorem impl_turnCell.calls (k : Nat) (a0_0 : Int) (a0_1 : Int) (a1 : Int) (r1 : Int) (r2 : Int) (w : World) (h : impl_turnCell.f k a0_0 a0_1 a1 = some (r1, r2)) :
  Calls Try.prog 108 #[.agg #[.int .i64 a0_0, .int .i64 a0_1], .int .i64 a1] w fun e w' => e = .returned (.agg #[.int .i64 r1, .int .i64 r2]) ∧ Below w.heap.size w w' := by
 have hu59 := Try.underlying59
 have HB := aM (Below.refl w.heap.size w)
 have H : (if a1 ≥ 4 then (impl_turnCell.j0 k a1 (wrap64 (-a0_0)) a0_1) else (impl_turnCell.j0 k a1 a0_0 a0_1)) = some (r1, r2) := h
 clear h
 have HC3 := aM H
 clear H
 go_enter Try.func108, Try.ntmps108
 go_upto_if 6 with (first | ((with_reducible refine gate_dst (N := 2) rfl ?_); refine zx 2 #[.int .i64 a0_0, .int .i64 a0_1] 59 ?_; intro gb547 hg w4 hbox hb; have n0_ := aM (below_step zb hb); have n1_ := aM (hbox); have n2_ := aM ((ze : w.heap.size ≤ gb547)); have n3_ := aM ((ze : w.heap.size ≤ gb547)); clear HB; have HB := n0_; have BK547 := n1_; have GW547 := n2_; have GE547 := n3_; clear n0_ n1_ n2_ n3_; clear hb hbox hg) | ((with_reducible refine gate_dst (N := 4) rfl ?_); refine zx 4 #[.int .i64 0, .int .i64 0] 59 ?_; intro gb548 hg w5 hbox hb; have n0_ := aM (blk_below (g := gb547) (o := .cells #[.int .i64 a0_0, .int .i64 a0_1] 59 (0, 0)) (mB_ BK547.out) hb); have n1_ := aM (below_step (zs GE547.out) hb); have n2_ := aM (hbox); have n3_ := aM ((zf GE547.out : w.heap.size ≤ gb548)); have n4_ := aM ((zf GE547.out : w.heap.size ≤ gb548)); have n5_ := aM ((zl BK547.out : gb547 ≠ gb548)); have n6_ := aM ((zn BK547.out : gb548 ≠ gb547)); clear BK547 HB; have BK547 := n0_; have HB := n1_; have BK548 := n2_; have GW548 := n3_; have GE548 := n4_; have NB547_548 := n5_; have NB548_547 := n6_; clear n0_ n1_ n2_ n3_ n4_ n5_ n6_; clear hb hbox hg))
 (try simp only [Act.put, xA, xB, xC])
 go_cut [] (fun wc => ∃ (kq : Nat) (x548000_2 : Int), Aside0 (impl_turnCell.j0 kq a1 x548000_2 a0_1 = some (r1, r2)) ∧ Aside0 (kq ≤ k) ∧ Aside0 (wc.heap[gb547]? = some (.cells #[.int .i64 x548000_2, .int .i64 a0_1] 59 (0, 0))) ∧ Aside0 (wc.heap[gb548]? = some (.cells #[.int .i64 0, .int .i64 0] 59 (0, 0))) ∧ Aside0 (Below w.heap.size w wc))
 case first =>
  have H := HC3.out
  clear HC3
  by_cases c6 : a1 ≥ 4
  rotate_left
  ·rw [if_neg c6] at H
   have c6b0 : decide (4 ≤ a1) = false := decide_eq_false c6
   clear c6
   (first | rw [c6b0] | (simp only [i64_w, i32_w]; rw [c6b0]) | skip)
   have H' := aM H
   clear H
   go_wp2
   go_meet
   case rel => exact ⟨_, (a0_0), H', ⟨by first | omega | exact Nat.le_refl _⟩, ⟨mB_ BK547.out⟩, ⟨mB_ BK548.out⟩, ⟨zt GE547.out GE548.out⟩⟩
  rw [if_pos c6] at H
  have c6b0 : decide (4 ≤ a1) = true := decide_eq_true c6
  clear c6
  (first | rw [c6b0] | (simp only [i64_w, i32_w]; rw [c6b0]) | skip)
  have H' := aM H
  clear H
  have hnb7 := NB547_548.out
  have hnc7 := NB548_547.out
  have hcz8_0 : w5.cell? ⟨gb547, 0, none⟩ = some (.int .i64 a0_0) := (blk_cell BK547.out 0).trans rfl
  have hcz8_1 : w5.cell? ⟨gb547, 1, none⟩ = some (.int .i64 a0_1) := (blk_cell BK547.out 1).trans rfl
  have hfz8_0 := blk_frozen BK547.out 0
  have hfz8_1 := blk_frozen BK547.out 1
  go_wp2
  go_meet
  case rel => exact ⟨_, (wrap64 (-a0_0)), H', ⟨by first | omega | exact Nat.le_refl _⟩, ⟨by (with_reducible repeat (first | refine blk_drewN ?_ _ | refine blk_drew ?_ | refine blk_alloc ?_ _)); refine blk_put (cs := #[.int .i64 a0_0, .int .i64 a0_1]) ?_ 0 _ rfl; (with_reducible repeat (first | refine blk_drewN ?_ _ | refine blk_drew ?_ | refine blk_alloc ?_ _)); exact BK547.out⟩, ⟨by (with_reducible repeat (first | refine blk_drewN ?_ _ | refine blk_drew ?_ | refine blk_alloc ?_ _)); refine blk_far ?_ NB548_547.out _; (with_reducible repeat (first | refine blk_drewN ?_ _ | refine blk_drew ?_ | refine blk_alloc ?_ _)); exact BK548.out⟩, ⟨zt GE547.out GE548.out⟩⟩
 case rest =>
  clear HC3
  try clear c1
  try clear p2
  try clear c6
  try clear c6b0
  try clear p6
  try clear c7
  try clear hcz8_0
  try clear hcz8_1
  try clear hfz8_0
  try clear hfz8_1
  obtain ⟨kq, x548000_2, HA, HJ2, BK547, BK548, HB⟩ := hcut
  cases kq with
  | zero => exact absurd HA.out (by simp [impl_turnCell.j0])
  | succ kj2 =>
   have H := HA.out
   clear HA
   simp only [impl_turnCell.j0] at H
   have H' := aM H
   clear H
   go_wp2
   go_loopg [13] kj2 (fun kq v13 w' => ∃ (x13_2 : Int) (x548000_2 : Int) (x548001_2 : Int), v13 = .int .i64 x13_2 ∧ Aside0 (impl_turnCell.l0 kq (Int.tmod a1 4) x13_2 x548000_2 x548001_2 = some (r1, r2)) ∧ Aside0 (kq ≤ kj2) ∧ Aside0 (w'.heap[gb547]? = some (.cells #[.int .i64 x548000_2, .int .i64 x548001_2] 59 (0, 0))) ∧ Aside0 (w'.heap[gb548]? = some (.cells #[.int .i64 0, .int .i64 0] 59 (0, 0))) ∧ Aside0 (Below w.heap.size w w'))
   case atStart => exact ⟨(0), (x548000_2), (a0_1), zr, H', ⟨Nat.le_refl _⟩, ⟨mB_ BK547.out⟩, ⟨mB_ BK548.out⟩, ⟨zt GE547.out GE548.out⟩⟩
   case round =>
    clear H'
    try clear c1
    try clear p2
    try clear c6
    try clear c6b0
    try clear p6
    try clear c7
    try clear hcz8_0
    try clear hcz8_1
    try clear hfz8_0
    try clear hfz8_1
    try clear p2
    try clear p6
    obtain ⟨x13_2, x548000_2, x548001_2, rfl, HA, HK2, BK547, BK548, HB⟩ := hrel
    cases gk with
    | zero => exact absurd HA.out (by simp [impl_turnCell.l0])
    | succ k2 =>
     have H := HA.out
     clear HA
     simp only [impl_turnCell.l0] at H
     by_cases c9 : x13_2 < (Int.tmod a1 4)
     ·rw [if_pos c9] at H
      have c9b0 : decide (x13_2 < (Int.tmod a1 4)) = true := decide_eq_true c9
      clear c9
      have H' := aM H
      clear H
      have hnb10 := NB547_548.out
      have hnc10 := NB548_547.out
      have hcz11_0 : wr.cell? ⟨gb547, 0, none⟩ = some (.int .i64 x548000_2) := (blk_cell BK547.out 0).trans rfl
      have hcz11_1 : wr.cell? ⟨gb547, 1, none⟩ = some (.int .i64 x548001_2) := (blk_cell BK547.out 1).trans rfl
      have hfz11_0 := blk_frozen BK547.out 0
      have hfz11_1 := blk_frozen BK547.out 1
      go_wp2
      go_roundg k2
      case measure => have := HJ2.out; have := HK2.out; omega
      case rel => exact ⟨(wrap64 (x13_2 + 1)), (wrap64 (-x548001_2)), (x548000_2), zr, H', ⟨by have := HJ2.out; have := HK2.out; omega⟩, ⟨by (with_reducible repeat (first | refine blk_drewN ?_ _ | refine blk_drew ?_ | refine blk_alloc ?_ _)); refine blk_put (cs := #[.int .i64 (wrap64 (-x548001_2)), .int .i64 x548001_2]) ?_ 1 _ rfl; (with_reducible repeat (first | refine blk_drewN ?_ _ | refine blk_drew ?_ | refine blk_alloc ?_ _)); refine blk_put (cs := #[.int .i64 x548000_2, .int .i64 x548001_2]) ?_ 0 _ rfl; (with_reducible repeat (first | refine blk_drewN ?_ _ | refine blk_drew ?_ | refine blk_alloc ?_ _)); exact BK547.out⟩, ⟨by (with_reducible repeat (first | refine blk_drewN ?_ _ | refine blk_drew ?_ | refine blk_alloc ?_ _)); refine blk_far ?_ NB548_547.out _; (with_reducible repeat (first | refine blk_drewN ?_ _ | refine blk_drew ?_ | refine blk_alloc ?_ _)); refine blk_far ?_ NB548_547.out _; (with_reducible repeat (first | refine blk_drewN ?_ _ | refine blk_drew ?_ | refine blk_alloc ?_ _)); exact BK548.out⟩, ⟨zt GE547.out GE548.out⟩⟩
     rw [if_neg c9] at H
     have c9b0 : decide (x13_2 < (Int.tmod a1 4)) = false := decide_eq_false c9
     clear c9
     simp only [Option.some.injEq, Prod.mk.injEq] at H
     obtain ⟨rfl, rfl⟩ := H
     have hnb12 := NB547_548.out
     have hnc12 := NB548_547.out
     have hcz13_0 : wr.cell? ⟨gb547, 0, none⟩ = some (.int .i64 x548000_2) := (blk_cell BK547.out 0).trans rfl
     have hcz13_1 : wr.cell? ⟨gb547, 1, none⟩ = some (.int .i64 x548001_2) := (blk_cell BK547.out 1).trans rfl
     have hfz13_0 := blk_frozen BK547.out 0
     have hfz13_1 := blk_frozen BK547.out 1
     have hcz14_0 : wr.cell? ⟨gb548, 0, none⟩ = some (.int .i64 0) := (blk_cell BK548.out 0).trans rfl
     have hcz14_1 : wr.cell? ⟨gb548, 1, none⟩ = some (.int .i64 0) := (blk_cell BK548.out 1).trans rfl
     have hfz14_0 := blk_frozen BK548.out 0
     have hfz14_1 := blk_frozen BK548.out 1
     go_wp2
     refine bodyPost_ret (results_cell_row rfl _ _ gb548 59 #[.int .i64 x548000_2, .int .i64 x548001_2] (0, 0) _ rfl (by (with_reducible repeat (first | refine blk_drewN ?_ _ | refine blk_drew ?_ | refine blk_alloc ?_ _)); refine blk_put (cs := #[.int .i64 x548000_2, .int .i64 0]) ?_ 1 _ rfl; (with_reducible repeat (first | refine blk_drewN ?_ _ | refine blk_drew ?_ | refine blk_alloc ?_ _)); refine blk_put (cs := #[.int .i64 0, .int .i64 0]) ?_ 0 _ rfl; (with_reducible repeat (first | refine blk_drewN ?_ _ | refine blk_drew ?_ | refine blk_alloc ?_ _)); exact BK548.out) Try.underlying59 rfl (by kernel_rfl)) rfl ?_
     exact ⟨zw, zt GE547.out GE548.out⟩
def impl_form.l0 : Nat → Int → List (S59) → List (S59) → Int → Int → Option ((List (S59)))
 | 0, _, _, _, _, _ => none
 | k + 1, x1, x5, x11, x12, x13 => if x13 < x12 then (if 0 ≤ x13 then (if x13 < (x11.length : Int) then ((impl_turnCell.f k ((rd_T59 x11 x13).f0) ((rd_T59 x11 x13).f1) x1).bind fun bt554 => (if x5.length < 8796093022208 then (impl_form.l0 k x1 (x5 ++ [(⟨bt554.1, bt554.2⟩ : S59)]) x11 x12 (wrap64 (x13 + 1))) else (none))) else (none)) else (none)) else ((impl_sorted.f x5).bind fun t559 => ((impl_normal.f k t559).bind fun t562 => (some t562)))
def impl_form.f (k : Nat) (l0 : List (S59)) (a1 : Int) : Option ((List (S59))) := if 0 ≤ (l0.length : Int) then (if ((l0.length : Int) : Int).toNat ≤ 17592186044416 then (impl_form.l0 k a1 (([] : List (S59))) l0 (l0.length : Int) 0) else (none)) else (none)
theorem impl_form.calls (k : Nat) (A0 : Option Addr) (c0 : Nat) (l0 : List (S59)) (a1 : Int) (r : List (S59)) (w : World) (hr0 : Kd.C k59 w A0 l0.length l0) (hc0 : l0.length ≤ c0) (h : impl_form.f k l0 a1 = some r) :
  Calls Try.prog 69 #[.slice A0 l0.length c0, .int .i64 a1] w fun e w' => ∃ v0_ : Value, e = .returned (v0_) ∧ Kd.R k59 59 w' w.heap.size (fun _ => True) v0_ r ∧ Below w.heap.size w w' := by
 have hu59 := Try.underlying59
 have HR0 := aM hr0
 have HC0 := aM hc0
 clear hr0 hc0
 have HB := aM (Below.refl w.heap.size w)
 have H : (if 0 ≤ (l0.length : Int) then (if ((l0.length : Int) : Int).toNat ≤ 17592186044416 then (impl_form.l0 k a1 (([] : List (S59))) l0 (l0.length : Int) 0) else (none)) else (none)) = some r := h
 clear h
 by_cases c3 : 0 ≤ (l0.length : Int)
 rotate_left
 ·rw [if_neg c3] at H
  exact absurd H (by simp)
 rw [if_pos c3] at H
 have c3b0 := eq_true c3
 have c3b1 : decide (0 ≤ (l0.length : Int)) = true := decide_eq_true c3
 clear c3
 by_cases c4 : ((l0.length : Int) : Int).toNat ≤ 17592186044416
 rotate_left
 ·rw [if_neg c4] at H
  exact absurd H (by simp)
 rw [if_pos c4] at H
 have c4b0 := eq_true c4
 have c4b1 : decide (((l0.length : Int) : Int).toNat ≤ 17592186044416) = true := decide_eq_true c4
 clear c4
 obtain ⟨y549, hy549⟩ : ∃ y_ : List (S59), y_ = (([] : List (S59))) := ⟨_, rfl⟩
 replace H : (impl_form.l0 k a1 y549 l0 (l0.length : Int) 0) = some r := zy H hy549
 have Ny549 := aM hy549
 clear hy549
 have H' := aM H
 clear H
 go_enter Try.func69, Try.ntmps69
 go_wp2_with (first | ((with_reducible refine gate_dst (N := 10) rfl ?_); refine Kd.R_make0 k59 _ 59 rfl (N := 10) rfl 24 _ _ rfl (l0.length : Int) rfl rfl Try.underlying24 (.agg #[(.int .i64 0), (.int .i64 0)]) 16 info59 rfl (by decide) (by omega) z59 (ok := fun _ => True) (okp := fun _ => True) (k59_mkM _ _ _ z59 ) (fun _ hk => hk) trivial (of_decide_eq_true za) (Nat.le_trans (Nat.mul_le_mul_right _ (of_decide_eq_true za : (l0.length : Int).toNat ≤ 17592186044416)) (by omega)) (Below.refl _ _) (Nat.le_refl _) ?_; intro v550 w5 ho6 hb hg_ hnew_; clear hg_ hnew_; (first | rw [← Ny549.out] at ho6 | (simp only [Int.reduceToNat] at ho6; rw [← Ny549.out] at ho6)); have n0_ := aM (Kd.R_lower ho6 (below_size zb)); have n1_ := aM (below_step zb hb); clear HB; have HO551 := n0_; have HB := n1_; clear n0_ n1_; clear hb ho6))
 go_loopg [5, 13] k (fun kq v5 v13 w' => ∃ (x5_1 : List (S59)) (x13_1 : Int), v13 = .int .i64 x13_1 ∧ Aside0 (impl_form.l0 kq a1 x5_1 l0 (l0.length : Int) x13_1 = some r) ∧ Aside0 (kq ≤ k) ∧ Aside0 (Kd.R k59 59 w' w.heap.size (fun _ => True) v5 x5_1) ∧ Aside0 (Below w.heap.size w w'))
 case atStart => exact ⟨(y549), (0), zr, H', ⟨Nat.le_refl _⟩, ⟨mR_ HO551.out⟩, ⟨zb⟩⟩
 case round =>
  clear H'
  try clear p2
  try clear c3
  try clear c3b0
  try clear c3b1
  try clear c4
  try clear c4b0
  try clear c4b1
  try clear c6
  obtain ⟨x5_1, x13_1, rfl, HA, HK1, HO_5, HB⟩ := hrel
  cases gk with
  | zero => exact absurd HA.out (by simp [impl_form.l0])
  | succ k1 =>
   have H := HA.out
   clear HA
   simp only [impl_form.l0] at H
   by_cases c7 : x13_1 < (l0.length : Int)
   rotate_left
   ·rw [if_neg c7] at H
    have c7b0 : decide (x13_1 < (l0.length : Int)) = false := decide_eq_false c7
    clear c7
    replace H := Option.bind_eq_some_iff.mp H
    obtain ⟨t559, A160, H⟩ := H
    replace H : ((impl_normal.f k1 t559).bind fun t562 => (some t562)) = some r := H
    have A16 := aM A160
    clear A160
    replace H := Option.bind_eq_some_iff.mp H
    obtain ⟨t562, A170, H⟩ := H
    replace H : (some t562) = some r := H
    have A17 := aM A170
    clear A170
    obtain rfl := Option.some.inj H
    obtain ⟨Ao18, co18, eo18⟩ := Kd.R_slice HO_5.out
    subst eo18
    go_wp2_with (first | ((with_reducible refine gate_callee (f := 60) rfl ?_); refine goesL_ (some 25) rfl rfl Try.func60 (by kernel_rfl) rfl #[.slice Ao18 x5_1.length co18] rfl zm ?_; (with_reducible refine (impl_sorted.calls _ _ x5_1 t559 _ ?side1 ?side2 A16.out).mono ?_); (case side1 => exact zc HO_5.out); (case side2 => exact (Kd.R_reads' HO_5.out).2.1); rintro e w19 ⟨v560, rfl, ho0, hb⟩; refine ⟨_, rfl, ?_⟩; have n0_ := aM (Kd.R_elder' (mR_ HO_5.out) (Kd.R_base ho0) hb); have n1_ := aM (Kd.R_lower (Kd.R_new' ho0 (Kd.R_lt (mR_ HO_5.out))) (below_size zb)); have n2_ := aM (below_step zb hb); clear HO_5 HB; have HO_5 := n0_; have HO561 := n1_; have HB := n2_; clear n0_ n1_ n2_; (try clear hb); (try clear hb2); (try clear hk); (try clear hi); (try clear ho0); obtain ⟨Ao20, co20, eo20⟩ := Kd.R_slice HO561.out; subst eo20) | ((with_reducible refine gate_callee (f := 96) rfl ?_); refine goesL_ (some 26) rfl rfl Try.func96 (by kernel_rfl) rfl #[.slice Ao20 t559.length co20] rfl zm ?_; (with_reducible refine (impl_normal.calls k1 _ _ t559 t562 _ ?side1 ?side2 A17.out).mono ?_); (case side1 => exact zc HO561.out); (case side2 => exact (Kd.R_reads' HO561.out).2.1); rintro e w21 ⟨v563, rfl, ho0, hb⟩; refine ⟨_, rfl, ?_⟩; have n0_ := aM (Kd.R_elder' (mR_ HO_5.out) (Kd.R_base ho0) hb); have n1_ := aM (Kd.R_elder' (mR_ HO561.out) (Kd.R_base ho0) hb); have n2_ := aM (Kd.R_lower (Kd.R_new' (Kd.R_new' ho0 (Kd.R_lt (mR_ HO_5.out))) (Kd.R_lt (mR_ HO561.out))) (below_size zb)); have n3_ := aM (below_step zb hb); clear HO_5 HO561 HB; have HO_5 := n0_; have HO561 := n1_; have HO564 := n2_; have HB := n3_; clear n0_ n1_ n2_ n3_; (try clear hb); (try clear hb2); (try clear hk); (try clear hi); (try clear ho0)))
    go_ret
    exact ⟨_, zw, zd0 HO564.out, zb⟩
   rw [if_pos c7] at H
   have c7b0 : decide (x13_1 < (l0.length : Int)) = true := decide_eq_true c7
   clear c7
   by_cases c8 : 0 ≤ x13_1
   rotate_left
   ·rw [if_neg c8] at H
    exact absurd H (by simp)
   rw [if_pos c8] at H
   have c8b0 : decide (0 ≤ x13_1) = true := decide_eq_true c8
   clear c8
   by_cases c9 : x13_1 < (l0.length : Int)
   rotate_left
   ·rw [if_neg c9] at H
    exact absurd H (by simp)
   rw [if_pos c9] at H
   have c9b0 : decide (x13_1 < (l0.length : Int)) = true := decide_eq_true c9
   clear c9
   replace H := Option.bind_eq_some_iff.mp H
   obtain ⟨⟨t554, t555⟩, A100, H⟩ := H
   replace H : (if x5_1.length < 8796093022208 then (impl_form.l0 k1 a1 (x5_1 ++ [(⟨t554, t555⟩ : S59)]) l0 (l0.length : Int) (wrap64 (x13_1 + 1))) else (none)) = some r := H
   have A10 := aM A100
   clear A100
   by_cases c11 : x5_1.length < 8796093022208
   rotate_left
   ·rw [if_neg c11] at H
    exact absurd H (by simp)
   rw [if_pos c11] at H
   have LMc11 := aM c11
   clear c11
   obtain ⟨y556, hy556⟩ : ∃ y_ : List (S59), y_ = (x5_1 ++ [(⟨t554, t555⟩ : S59)]) := ⟨_, rfl⟩
   replace H : (impl_form.l0 k1 a1 y556 l0 (l0.length : Int) (wrap64 (x13_1 + 1))) = some r := zy H hy556
   have Ny556 := aM hy556
   clear hy556
   have H' := aM H
   clear H
   have p552 : 0 ≤ (x13_1 : Int) := of_decide_eq_true za
   have q552 : x13_1 < (l0.length : Int) := of_decide_eq_true za
   obtain ⟨ad552, e552, hx552_0, hx552_1⟩ := at_T59 HR0.out x13_1 p552 q552
   cases e552
   replace hx552_0 := zk HB.out hx552_0
   replace hx552_1 := zk HB.out hx552_1
   replace p552 := eq_true p552
   replace q552 := eq_true q552
   go_wp2_with (first | ((with_reducible refine gate_dst (N := 7) rfl ?_); refine zx 7 #[.int .i64 0, .int .i64 0] 59 ?_; intro gb553 hg w12 hbox hb; have n0_ := aM (Kd.R_below (Kd.R_elderB (mR_ HO_5.out) gb553 (Nat.le_of_eq hg.symm)) hb); have n1_ := aM (below_step zb hb); have n2_ := aM (hbox); have n3_ := aM ((ze : w.heap.size ≤ gb553)); have n4_ := aM ((ze : w.heap.size ≤ gb553)); clear HO_5 HB; have HO_5 := n0_; have HB := n1_; have BK553 := n2_; have GW553 := n3_; have GE553 := n4_; clear n0_ n1_ n2_ n3_ n4_ hb hbox hg; have hcz13_0 : w12.cell? ⟨gb553, 0, none⟩ = some (.int .i64 0) := (blk_cell BK553.out 0).trans rfl; have hcz13_1 : w12.cell? ⟨gb553, 1, none⟩ = some (.int .i64 0) := (blk_cell BK553.out 1).trans rfl; have hfz13_0 := blk_frozen BK553.out 0; have hfz13_1 := blk_frozen BK553.out 1) | ((with_reducible refine gate_callee (f := 108) rfl ?_); refine goesL_ (some 20) rfl rfl Try.func108 (by kernel_rfl) rfl #[.agg #[.int .i64 ((rd_T59 l0 x13_1).f0), .int .i64 ((rd_T59 l0 x13_1).f1)], .int .i64 a1] rfl zm ?_; (with_reducible refine (impl_turnCell.calls k1 ((rd_T59 l0 x13_1).f0) ((rd_T59 l0 x13_1).f1) a1 t554 t555 _ A10.out).mono ?_); rintro e w14 ⟨rfl, hb⟩; refine ⟨_, rfl, ?_⟩; have n0_ := aM (Kd.R_below (by (with_reducible repeat (first | apply Kd.R_alloc | apply Kd.R_drewN | apply Kd.R_drew)); exact (Kd.R_mono (Kd.R_far (p := ⟨gb553, 1, none⟩) (Kd.R_far (p := ⟨gb553, 0, none⟩) (Kd.R_mono HO_5.out (fun k_ hk => (⟨hk, hk.2⟩ : _ ∧ k_ ≠ gb553))) (fun _ hk => hk.2) (.int .i64 ((rd_T59 l0 x13_1).f0))) (fun _ hk => hk.2) (.int .i64 ((rd_T59 l0 x13_1).f1))) (fun _ h_ => h_.1))) hb); have n1_ := aM (blk_below (g := gb553) (o := .cells #[.int .i64 ((rd_T59 l0 x13_1).f0), .int .i64 ((rd_T59 l0 x13_1).f1)] 59 (0, 0)) (by (with_reducible repeat (first | refine blk_drewN ?_ _ | refine blk_drew ?_ | refine blk_alloc ?_ _)); refine blk_put (cs := #[.int .i64 ((rd_T59 l0 x13_1).f0), .int .i64 0]) ?_ 1 _ rfl; (with_reducible repeat (first | refine blk_drewN ?_ _ | refine blk_drew ?_ | refine blk_alloc ?_ _)); refine blk_put (cs := #[.int .i64 0, .int .i64 0]) ?_ 0 _ rfl; (with_reducible repeat (first | refine blk_drewN ?_ _ | refine blk_drew ?_ | refine blk_alloc ?_ _)); exact BK553.out) hb); have n2_ := aM (below_step (zs GE553.out) hb); clear HO_5 BK553 HB; have HO_5 := n0_; have BK553 := n1_; have HB := n2_; clear n0_ n1_ n2_; (try clear hb); (try clear hb2); (try clear hk); (try clear hi)) | ((with_reducible refine gate_builtin (b := .append) (xs := #[.tmp 17, .tmp 21]) rfl ?_); at_builtin; refine Kd.R_append k59 (w0 := w) w.heap.size rfl (.tmp 17) (.tmp 21) 24 59 (.agg #[(.int .i64 0), (.int .i64 0)]) 16 rfl Try.underlying24 info59 rfl (by decide) (by omega) u5 x5_1 (⟨t554, t555⟩ : S59) [.int .i64 t554, .int .i64 t555] (fun k_ => k_ ≠ gb553) (fun _ => False) rfl rfl ?aP (fun _ hk => hk.elim) ?aF ?aO ?aB ?aS ?aL ?_; (case aP => exact k59_mkM _ _ _ (⟨t554, t555⟩ : S59)); (case aB => exact (zs GE553.out)); (case aF => exact (fun k_ hk => Kd.freshB (g := gb553) (o := .cells #[.int .i64 ((rd_T59 l0 x13_1).f0), .int .i64 ((rd_T59 l0 x13_1).f1)] 59 (0, 0)) (mB_ BK553.out) k_ hk)); (case aO => exact (zd1 HO_5.out)); (case aS => exact (below_size (zs GE553.out))); (case aL => have := LMc11.out; omega); intro v557 w15 ho hb hg hat; rw [← Ny556.out] at ho; have n0_ := aM (blk_grown (g := gb553) (o := .cells #[.int .i64 ((rd_T59 l0 x13_1).f0), .int .i64 ((rd_T59 l0 x13_1).f1)] 59 (0, 0)) (mB_ BK553.out) hg (Kd.R_away HO_5.out (fun _ hk => hk.2))); have n1_ := aM (hb); have n2_ := aM (ho); clear BK553 HB HO_5; have BK553 := n0_; have HB := n1_; have HO558 := n2_; clear n0_ n1_ n2_; clear ho hb hg hat))
   go_roundg k1
   case measure => have := HK1.out; omega
   case rel => exact ⟨(y556), (wrap64 (x13_1 + 1)), zr, H', ⟨by have := HK1.out; omega⟩, ⟨zd0 HO558.out⟩, ⟨zs GE553.out⟩⟩
end Go.Proofs.Ytfdfdifjkaaeoaa.F
end
section
namespace Go.Proofs.Ytfdfdifjkaaeoaa.F
open Go.RowKit Go.Proofs.YtfdfdifjkaaeoaaW.PrintWords Go.Proofs.YtfdfdifjkaaeoaaW.PrintLast Go.Proofs.YtfdfdifjkaaeoaaW.PrintMore
attribute [local go_sem] max2_int min2_int max_two min_two max_three min_three max_four min_four
set_option linter.unusedVariables false
set_option linter.unusedSimpArgs false
theorem impl_Cell_155__impl_compareCells.callsG (k : Nat) (A0 : Option Addr) (c0 : Nat) (l0 : List (S59)) (A1 : Option Addr) (c1 : Nat) (l1 : List (S59))  (r : Int) (w : World) (hr0 : Kd.C k59 w A0 l0.length l0) (hc0 : l0.length ≤ c0) (hr1 : Kd.C k59 w A1 l1.length l1) (hc1 : l1.length ≤ c1) (h : impl_Cell_155__impl_compareCells.f k l0 l1 = some r) :
  Calls Try.prog 155 #[.slice A0 l0.length c0, .slice A1 l1.length c1, .func (.func 101) #[] #[]] w fun e w' => e = .returned (.int .i64 r) ∧ BelG w.heap.size w w' := by
 have hu59 := Try.underlying59
 have HR0 := aM hr0
 have HC0 := aM hc0
 clear hr0 hc0
 have HR1 := aM hr1
 have HC1 := aM hc1
 clear hr1 hc1
 have HB := aM (BelG.refl w.heap.size w)
 have H : (impl_Cell_155__impl_compareCells.l0 k l0 l1 l0 (l0.length : Int) 0) = some r := h
 clear h
 have H' := aM H
 clear H
 go_enter Try.func155, Try.ntmps155
 go_wp2
 go_loopg [13] k (fun kq v13 w' => ∃ (x13_1 : Int), v13 = .int .i64 x13_1 ∧ Aside0 (impl_Cell_155__impl_compareCells.l0 kq l0 l1 l0 (l0.length : Int) x13_1 = some r) ∧ Aside0 (kq ≤ k) ∧ Aside0 (BelG w.heap.size w w'))
 case atStart => exact ⟨(0), zr, H', ⟨Nat.le_refl _⟩, ⟨zg⟩⟩
 case round =>
  clear H'
  try clear c1
  try clear p2
  obtain ⟨x13_1, rfl, HA, HK1, HB⟩ := hrel
  cases gk with
  | zero => exact absurd HA.out (by simp [impl_Cell_155__impl_compareCells.l0])
  | succ k1 =>
   have H := HA.out
   clear HA
   simp only [impl_Cell_155__impl_compareCells.l0] at H
   by_cases c4 : x13_1 < (l0.length : Int)
   rotate_left
   ·rw [if_neg c4] at H
    have c4b0 : decide (x13_1 < (l0.length : Int)) = false := decide_eq_false c4
    clear c4
    by_cases c27 : (l0.length : Int) < (l1.length : Int)
    ·rw [if_pos c27] at H
     have c27b0 : decide ((l0.length : Int) < (l1.length : Int)) = true := decide_eq_true c27
     have c27b1 : decide (l0.length < l1.length) = true := decide_eq_true (Int.ofNat_lt.mp c27)
     clear c27
     obtain rfl := Option.some.inj H
     go_wp2
     go_ret
     exact ⟨zw, zg⟩
    rw [if_neg c27] at H
    have c27b0 : decide ((l0.length : Int) < (l1.length : Int)) = false := decide_eq_false c27
    have c27b1 : decide (l0.length < l1.length) = false := decide_eq_false (fun h => c27 (Int.ofNat_lt.mpr h))
    clear c27
    obtain rfl := Option.some.inj H
    go_wp2
    go_ret
    exact ⟨zw, zg⟩
   rw [if_pos c4] at H
   have c4b0 : decide (x13_1 < (l0.length : Int)) = true := decide_eq_true c4
   clear c4
   by_cases c5 : 0 ≤ x13_1
   rotate_left
   ·rw [if_neg c5] at H
    exact absurd H (by simp)
   rw [if_pos c5] at H
   have c5b0 : decide (0 ≤ x13_1) = true := decide_eq_true c5
   clear c5
   by_cases c6 : x13_1 < (l0.length : Int)
   rotate_left
   ·rw [if_neg c6] at H
    exact absurd H (by simp)
   rw [if_pos c6] at H
   have c6b0 : decide (x13_1 < (l0.length : Int)) = true := decide_eq_true c6
   clear c6
   by_cases c7 : x13_1 ≥ (l1.length : Int)
   ·rw [if_pos c7] at H
    have c7b0 : decide ((l1.length : Int) ≤ x13_1) = true := decide_eq_true c7
    clear c7
    obtain rfl := Option.some.inj H
    have p819 : 0 ≤ (x13_1 : Int) := of_decide_eq_true za
    have q819 : x13_1 < (l0.length : Int) := of_decide_eq_true za
    obtain ⟨ad819, e819, hx819_0, hx819_1⟩ := at_T59 HR0.out x13_1 p819 q819
    cases e819
    replace hx819_0 := (HB.out.cell (World.block_lt_of_cell? w _ hx819_0)).trans hx819_0
    replace hx819_1 := (HB.out.cell (World.block_lt_of_cell? w _ hx819_1)).trans hx819_1
    replace p819 := eq_true p819
    replace q819 := eq_true q819
    go_wp2_with (first | ((with_reducible refine gate_dst (N := 8) rfl ?_); refine box_eventD ?hg (N := 8) ?hd (cs := #[.int .i64 0, .int .i64 0]) (t := 59) ?hr ?_; (case hd => rfl); (case hg => rfl); (case hr => first | (go_simp; done) | (go_simp; rfl)); intro gb820 hg w8 hbox hb; have n0_ := aM (belG_step zg hb); have n1_ := aM (hbox); have n2_ := aM ((zi : w.heap.size ≤ gb820)); have n3_ := aM ((zi : w.heap.size ≤ gb820)); clear HB; have HB := n0_; have BK820 := n1_; have GW820 := n2_; have GE820 := n3_; clear n0_ n1_ n2_ n3_ hb hbox hg; have hcz9_0 : w8.cell? ⟨gb820, 0, none⟩ = some (.int .i64 0) := (blk_cell BK820.out 0).trans rfl; have hcz9_1 : w8.cell? ⟨gb820, 1, none⟩ = some (.int .i64 0) := (blk_cell BK820.out 1).trans rfl; have hfz9_0 := blk_frozen BK820.out 0; have hfz9_1 := blk_frozen BK820.out 1))
    go_ret
    exact ⟨zw, zh GE820.out⟩
   rw [if_neg c7] at H
   have c7b0 : decide ((l1.length : Int) ≤ x13_1) = false := decide_eq_false c7
   clear c7
   by_cases c10 : x13_1 < (l1.length : Int)
   rotate_left
   ·rw [if_neg c10] at H
    exact absurd H (by simp)
   rw [if_pos c10] at H
   have c10b0 : decide (x13_1 < (l1.length : Int)) = true := decide_eq_true c10
   clear c10
   replace H := Option.bind_eq_some_iff.mp H
   obtain ⟨t823, A110, H⟩ := H
   replace H : (if t823 = 0 then (impl_Cell_155__impl_compareCells.l0 k1 l0 l1 l0 (l0.length : Int) (wrap64 (x13_1 + 1))) else (some t823)) = some r := H
   have A11 := aM A110
   clear A110
   by_cases c12 : t823 = 0
   rotate_left
   ·rw [if_neg c12] at H
    have c12b0 : (t823 == 0) = false := beq_eq_false_iff_ne.mpr c12
    have c12b1 : (t823 != 0) = true := bne_iff_ne.mpr c12
    obtain rfl := Option.some.inj H
    have p819 : 0 ≤ (x13_1 : Int) := of_decide_eq_true za
    have q819 : x13_1 < (l0.length : Int) := of_decide_eq_true za
    obtain ⟨ad819, e819, hx819_0, hx819_1⟩ := at_T59 HR0.out x13_1 p819 q819
    cases e819
    replace hx819_0 := (HB.out.cell (World.block_lt_of_cell? w _ hx819_0)).trans hx819_0
    replace hx819_1 := (HB.out.cell (World.block_lt_of_cell? w _ hx819_1)).trans hx819_1
    replace p819 := eq_true p819
    replace q819 := eq_true q819
    go_wp2_with (first | ((with_reducible refine gate_dst (N := 8) rfl ?_); refine box_eventD ?hg (N := 8) ?hd (cs := #[.int .i64 0, .int .i64 0]) (t := 59) ?hr ?_; (case hd => rfl); (case hg => rfl); (case hr => first | (go_simp; done) | (go_simp; rfl)); intro gb820 hg w20 hbox hb; have n0_ := aM (belG_step zg hb); have n1_ := aM (hbox); have n2_ := aM ((zi : w.heap.size ≤ gb820)); have n3_ := aM ((zi : w.heap.size ≤ gb820)); clear HB; have HB := n0_; have BK820 := n1_; have GW820 := n2_; have GE820 := n3_; clear n0_ n1_ n2_ n3_ hb hbox hg; have hcz21_0 : w20.cell? ⟨gb820, 0, none⟩ = some (.int .i64 0) := (blk_cell BK820.out 0).trans rfl; have hcz21_1 : w20.cell? ⟨gb820, 1, none⟩ = some (.int .i64 0) := (blk_cell BK820.out 1).trans rfl; have hfz21_0 := blk_frozen BK820.out 0; have hfz21_1 := blk_frozen BK820.out 1; have p821 : 0 ≤ (x13_1 : Int) := of_decide_eq_true za; have q821 : x13_1 < (l1.length : Int) := of_decide_eq_true za; obtain ⟨ad821, e821, hx821_0, hx821_1⟩ := at_T59 HR1.out x13_1 p821 q821; cases e821; have hn821_0 : ad821.block ≠ gb820 := Nat.ne_of_lt (Nat.lt_of_lt_of_le (by have := World.block_lt_of_cell? _ _ hx821_0; first | rwa [add_block] at this | exact this) GW820.out); have hn821_1 : ad821.block ≠ gb820 := Nat.ne_of_lt (Nat.lt_of_lt_of_le (by have := World.block_lt_of_cell? _ _ hx821_0; first | rwa [add_block] at this | exact this) GW820.out); replace hx821_0 := (HB.out.cell (World.block_lt_of_cell? w _ hx821_0)).trans hx821_0; replace hx821_1 := (HB.out.cell (World.block_lt_of_cell? w _ hx821_1)).trans hx821_1; replace hx821_0 := (cell_far (p := ⟨gb820, 0, none⟩) (by first | (rw [add_block]; exact hn821_0) | (show (Addr.add _ _).block ≠ _; rw [add_block]; exact hn821_0) | exact hn821_0) (.int .i64 ((rd_T59 l0 x13_1).f0))).trans hx821_0; replace hx821_1 := (cell_far (p := ⟨gb820, 0, none⟩) (by first | (rw [add_block]; exact hn821_0) | (show (Addr.add _ _).block ≠ _; rw [add_block]; exact hn821_0) | exact hn821_0) (.int .i64 ((rd_T59 l0 x13_1).f0))).trans hx821_1; replace hx821_0 := (cell_far (p := ⟨gb820, 1, none⟩) (by first | (rw [add_block]; exact hn821_1) | (show (Addr.add _ _).block ≠ _; rw [add_block]; exact hn821_1) | exact hn821_1) (.int .i64 ((rd_T59 l0 x13_1).f1))).trans hx821_0; replace hx821_1 := (cell_far (p := ⟨gb820, 1, none⟩) (by first | (rw [add_block]; exact hn821_1) | (show (Addr.add _ _).block ≠ _; rw [add_block]; exact hn821_1) | exact hn821_1) (.int .i64 ((rd_T59 l0 x13_1).f1))).trans hx821_1; clear hn821_0 hn821_1; replace p821 := eq_true p821; replace q821 := eq_true q821) | ((with_reducible refine gate_dst (N := 9) rfl ?_); refine box_eventD ?hg (N := 9) ?hd (cs := #[.int .i64 0, .int .i64 0]) (t := 59) ?hr ?_; (case hd => rfl); (case hg => rfl); (case hr => first | (go_simp; done) | (go_simp; rfl)); intro gb822 hg w22 hbox hb; have n0_ := aM (blk_belG (g := gb820) (o := .cells #[.int .i64 ((rd_T59 l0 x13_1).f0), .int .i64 ((rd_T59 l0 x13_1).f1)] 59 (0, 0)) (by (with_reducible repeat (first | refine blk_drewN ?_ _ | refine blk_drew ?_ | refine blk_alloc ?_ _)); refine blk_put (cs := #[.int .i64 ((rd_T59 l0 x13_1).f0), .int .i64 0]) ?_ 1 _ rfl; (with_reducible repeat (first | refine blk_drewN ?_ _ | refine blk_drew ?_ | refine blk_alloc ?_ _)); refine blk_put (cs := #[.int .i64 0, .int .i64 0]) ?_ 0 _ rfl; (with_reducible repeat (first | refine blk_drewN ?_ _ | refine blk_drew ?_ | refine blk_alloc ?_ _)); exact BK820.out) hb); have n1_ := aM (belG_step (zh GE820.out) hb); have n2_ := aM (hbox); have n3_ := aM ((zj GE820.out : w.heap.size ≤ gb822)); have n4_ := aM ((zj GE820.out : w.heap.size ≤ gb822)); have n5_ := aM ((by rw [hg]; exact Nat.ne_of_lt (blk_lt (g := gb820) (o := .cells #[.int .i64 ((rd_T59 l0 x13_1).f0), .int .i64 ((rd_T59 l0 x13_1).f1)] 59 (0, 0)) (by (with_reducible repeat (first | refine blk_drewN ?_ _ | refine blk_drew ?_ | refine blk_alloc ?_ _)); refine blk_put (cs := #[.int .i64 ((rd_T59 l0 x13_1).f0), .int .i64 0]) ?_ 1 _ rfl; (with_reducible repeat (first | refine blk_drewN ?_ _ | refine blk_drew ?_ | refine blk_alloc ?_ _)); refine blk_put (cs := #[.int .i64 0, .int .i64 0]) ?_ 0 _ rfl; (with_reducible repeat (first | refine blk_drewN ?_ _ | refine blk_drew ?_ | refine blk_alloc ?_ _)); exact BK820.out)) : gb820 ≠ gb822)); have n6_ := aM ((by rw [hg]; exact Nat.ne_of_gt (blk_lt (g := gb820) (o := .cells #[.int .i64 ((rd_T59 l0 x13_1).f0), .int .i64 ((rd_T59 l0 x13_1).f1)] 59 (0, 0)) (by (with_reducible repeat (first | refine blk_drewN ?_ _ | refine blk_drew ?_ | refine blk_alloc ?_ _)); refine blk_put (cs := #[.int .i64 ((rd_T59 l0 x13_1).f0), .int .i64 0]) ?_ 1 _ rfl; (with_reducible repeat (first | refine blk_drewN ?_ _ | refine blk_drew ?_ | refine blk_alloc ?_ _)); refine blk_put (cs := #[.int .i64 0, .int .i64 0]) ?_ 0 _ rfl; (with_reducible repeat (first | refine blk_drewN ?_ _ | refine blk_drew ?_ | refine blk_alloc ?_ _)); exact BK820.out)) : gb822 ≠ gb820)); clear BK820 HB; have BK820 := n0_; have HB := n1_; have BK822 := n2_; have GW822 := n3_; have GE822 := n4_; have NB820_822 := n5_; have NB822_820 := n6_; clear n0_ n1_ n2_ n3_ n4_ n5_ n6_ hb hbox hg; have hnb23 := NB822_820.out; have hnc23 := NB820_822.out; have hcz24_0 : w22.cell? ⟨gb822, 0, none⟩ = some (.int .i64 0) := (blk_cell BK822.out 0).trans rfl; have hcz24_1 : w22.cell? ⟨gb822, 1, none⟩ = some (.int .i64 0) := (blk_cell BK822.out 1).trans rfl; have hfz24_0 := blk_frozen BK822.out 0; have hfz24_1 := blk_frozen BK822.out 1; have hcz25_0 : w22.cell? ⟨gb820, 0, none⟩ = some (.int .i64 ((rd_T59 l0 x13_1).f0)) := (blk_cell BK820.out 0).trans rfl; have hcz25_1 : w22.cell? ⟨gb820, 1, none⟩ = some (.int .i64 ((rd_T59 l0 x13_1).f1)) := (blk_cell BK820.out 1).trans rfl; have hfz25_0 := blk_frozen BK820.out 0; have hfz25_1 := blk_frozen BK820.out 1) | (go_at_call 101; (with_reducible refine (impl_compareCells.callsG ((rd_T59 l0 x13_1).f0) ((rd_T59 l0 x13_1).f1) ((rd_T59 l1 x13_1).f0) ((rd_T59 l1 x13_1).f1) t823 _ A11.out).mono ?_); rintro e w26 ⟨rfl, hb⟩; have n0_ := aM (blk_belG (g := gb820) (o := .cells #[.int .i64 ((rd_T59 l0 x13_1).f0), .int .i64 ((rd_T59 l0 x13_1).f1)] 59 (0, 0)) (by (with_reducible repeat (first | refine blk_drewN ?_ _ | refine blk_drew ?_ | refine blk_alloc ?_ _)); refine blk_far ?_ NB820_822.out _; (with_reducible repeat (first | refine blk_drewN ?_ _ | refine blk_drew ?_ | refine blk_alloc ?_ _)); refine blk_far ?_ NB820_822.out _; (with_reducible repeat (first | refine blk_drewN ?_ _ | refine blk_drew ?_ | refine blk_alloc ?_ _)); exact BK820.out) hb); have n1_ := aM (blk_belG (g := gb822) (o := .cells #[.int .i64 ((rd_T59 l1 x13_1).f0), .int .i64 ((rd_T59 l1 x13_1).f1)] 59 (0, 0)) (by (with_reducible repeat (first | refine blk_drewN ?_ _ | refine blk_drew ?_ | refine blk_alloc ?_ _)); refine blk_put (cs := #[.int .i64 ((rd_T59 l1 x13_1).f0), .int .i64 0]) ?_ 1 _ rfl; (with_reducible repeat (first | refine blk_drewN ?_ _ | refine blk_drew ?_ | refine blk_alloc ?_ _)); refine blk_put (cs := #[.int .i64 0, .int .i64 0]) ?_ 0 _ rfl; (with_reducible repeat (first | refine blk_drewN ?_ _ | refine blk_drew ?_ | refine blk_alloc ?_ _)); exact BK822.out) hb); have n2_ := aM (belG_step (by repeat (first | (with_reducible first | exact HB.out | apply belG_alloc | apply pw_belG_drewN | apply belG_drew1 | refine belG_set ?_ GE820.out | refine belG_set ?_ GE822.out) | exact HB.out)) hb); clear BK820 BK822 HB; have BK820 := n0_; have BK822 := n1_; have HB := n2_; clear n0_ n1_ n2_; (try clear hb); (try clear hb2); (try clear hk); (try clear hi)))
    go_ret
    exact ⟨zw, by repeat (first | (with_reducible first | exact HB.out | apply belG_alloc | apply pw_belG_drewN | apply belG_drew1 | refine belG_set ?_ GE820.out | refine belG_set ?_ GE822.out) | exact HB.out)⟩
   rw [if_pos c12] at H
   have c12b0 : (t823 == 0) = true := beq_iff_eq.mpr c12
   have c12b1 : (t823 != 0) = false := bne_eq_false_iff_eq.mpr c12
   clear c12
   have H' := aM H
   clear H
   have p819 : 0 ≤ (x13_1 : Int) := of_decide_eq_true za
   have q819 : x13_1 < (l0.length : Int) := of_decide_eq_true za
   obtain ⟨ad819, e819, hx819_0, hx819_1⟩ := at_T59 HR0.out x13_1 p819 q819
   cases e819
   replace hx819_0 := (HB.out.cell (World.block_lt_of_cell? w _ hx819_0)).trans hx819_0
   replace hx819_1 := (HB.out.cell (World.block_lt_of_cell? w _ hx819_1)).trans hx819_1
   replace p819 := eq_true p819
   replace q819 := eq_true q819
   go_wp2_with (first | ((with_reducible refine gate_dst (N := 8) rfl ?_); refine box_eventD ?hg (N := 8) ?hd (cs := #[.int .i64 0, .int .i64 0]) (t := 59) ?hr ?_; (case hd => rfl); (case hg => rfl); (case hr => first | (go_simp; done) | (go_simp; rfl)); intro gb820 hg w13 hbox hb; have n0_ := aM (belG_step zg hb); have n1_ := aM (hbox); have n2_ := aM ((zi : w.heap.size ≤ gb820)); have n3_ := aM ((zi : w.heap.size ≤ gb820)); clear HB; have HB := n0_; have BK820 := n1_; have GW820 := n2_; have GE820 := n3_; clear n0_ n1_ n2_ n3_ hb hbox hg; have hcz14_0 : w13.cell? ⟨gb820, 0, none⟩ = some (.int .i64 0) := (blk_cell BK820.out 0).trans rfl; have hcz14_1 : w13.cell? ⟨gb820, 1, none⟩ = some (.int .i64 0) := (blk_cell BK820.out 1).trans rfl; have hfz14_0 := blk_frozen BK820.out 0; have hfz14_1 := blk_frozen BK820.out 1; have p821 : 0 ≤ (x13_1 : Int) := of_decide_eq_true za; have q821 : x13_1 < (l1.length : Int) := of_decide_eq_true za; obtain ⟨ad821, e821, hx821_0, hx821_1⟩ := at_T59 HR1.out x13_1 p821 q821; cases e821; have hn821_0 : ad821.block ≠ gb820 := Nat.ne_of_lt (Nat.lt_of_lt_of_le (by have := World.block_lt_of_cell? _ _ hx821_0; first | rwa [add_block] at this | exact this) GW820.out); have hn821_1 : ad821.block ≠ gb820 := Nat.ne_of_lt (Nat.lt_of_lt_of_le (by have := World.block_lt_of_cell? _ _ hx821_0; first | rwa [add_block] at this | exact this) GW820.out); replace hx821_0 := (HB.out.cell (World.block_lt_of_cell? w _ hx821_0)).trans hx821_0; replace hx821_1 := (HB.out.cell (World.block_lt_of_cell? w _ hx821_1)).trans hx821_1; replace hx821_0 := (cell_far (p := ⟨gb820, 0, none⟩) (by first | (rw [add_block]; exact hn821_0) | (show (Addr.add _ _).block ≠ _; rw [add_block]; exact hn821_0) | exact hn821_0) (.int .i64 ((rd_T59 l0 x13_1).f0))).trans hx821_0; replace hx821_1 := (cell_far (p := ⟨gb820, 0, none⟩) (by first | (rw [add_block]; exact hn821_0) | (show (Addr.add _ _).block ≠ _; rw [add_block]; exact hn821_0) | exact hn821_0) (.int .i64 ((rd_T59 l0 x13_1).f0))).trans hx821_1; replace hx821_0 := (cell_far (p := ⟨gb820, 1, none⟩) (by first | (rw [add_block]; exact hn821_1) | (show (Addr.add _ _).block ≠ _; rw [add_block]; exact hn821_1) | exact hn821_1) (.int .i64 ((rd_T59 l0 x13_1).f1))).trans hx821_0; replace hx821_1 := (cell_far (p := ⟨gb820, 1, none⟩) (by first | (rw [add_block]; exact hn821_1) | (show (Addr.add _ _).block ≠ _; rw [add_block]; exact hn821_1) | exact hn821_1) (.int .i64 ((rd_T59 l0 x13_1).f1))).trans hx821_1; clear hn821_0 hn821_1; replace p821 := eq_true p821; replace q821 := eq_true q821) | ((with_reducible refine gate_dst (N := 9) rfl ?_); refine box_eventD ?hg (N := 9) ?hd (cs := #[.int .i64 0, .int .i64 0]) (t := 59) ?hr ?_; (case hd => rfl); (case hg => rfl); (case hr => first | (go_simp; done) | (go_simp; rfl)); intro gb822 hg w15 hbox hb; have n0_ := aM (blk_belG (g := gb820) (o := .cells #[.int .i64 ((rd_T59 l0 x13_1).f0), .int .i64 ((rd_T59 l0 x13_1).f1)] 59 (0, 0)) (by (with_reducible repeat (first | refine blk_drewN ?_ _ | refine blk_drew ?_ | refine blk_alloc ?_ _)); refine blk_put (cs := #[.int .i64 ((rd_T59 l0 x13_1).f0), .int .i64 0]) ?_ 1 _ rfl; (with_reducible repeat (first | refine blk_drewN ?_ _ | refine blk_drew ?_ | refine blk_alloc ?_ _)); refine blk_put (cs := #[.int .i64 0, .int .i64 0]) ?_ 0 _ rfl; (with_reducible repeat (first | refine blk_drewN ?_ _ | refine blk_drew ?_ | refine blk_alloc ?_ _)); exact BK820.out) hb); have n1_ := aM (belG_step (zh GE820.out) hb); have n2_ := aM (hbox); have n3_ := aM ((zj GE820.out : w.heap.size ≤ gb822)); have n4_ := aM ((zj GE820.out : w.heap.size ≤ gb822)); have n5_ := aM ((by rw [hg]; exact Nat.ne_of_lt (blk_lt (g := gb820) (o := .cells #[.int .i64 ((rd_T59 l0 x13_1).f0), .int .i64 ((rd_T59 l0 x13_1).f1)] 59 (0, 0)) (by (with_reducible repeat (first | refine blk_drewN ?_ _ | refine blk_drew ?_ | refine blk_alloc ?_ _)); refine blk_put (cs := #[.int .i64 ((rd_T59 l0 x13_1).f0), .int .i64 0]) ?_ 1 _ rfl; (with_reducible repeat (first | refine blk_drewN ?_ _ | refine blk_drew ?_ | refine blk_alloc ?_ _)); refine blk_put (cs := #[.int .i64 0, .int .i64 0]) ?_ 0 _ rfl; (with_reducible repeat (first | refine blk_drewN ?_ _ | refine blk_drew ?_ | refine blk_alloc ?_ _)); exact BK820.out)) : gb820 ≠ gb822)); have n6_ := aM ((by rw [hg]; exact Nat.ne_of_gt (blk_lt (g := gb820) (o := .cells #[.int .i64 ((rd_T59 l0 x13_1).f0), .int .i64 ((rd_T59 l0 x13_1).f1)] 59 (0, 0)) (by (with_reducible repeat (first | refine blk_drewN ?_ _ | refine blk_drew ?_ | refine blk_alloc ?_ _)); refine blk_put (cs := #[.int .i64 ((rd_T59 l0 x13_1).f0), .int .i64 0]) ?_ 1 _ rfl; (with_reducible repeat (first | refine blk_drewN ?_ _ | refine blk_drew ?_ | refine blk_alloc ?_ _)); refine blk_put (cs := #[.int .i64 0, .int .i64 0]) ?_ 0 _ rfl; (with_reducible repeat (first | refine blk_drewN ?_ _ | refine blk_drew ?_ | refine blk_alloc ?_ _)); exact BK820.out)) : gb822 ≠ gb820)); clear BK820 HB; have BK820 := n0_; have HB := n1_; have BK822 := n2_; have GW822 := n3_; have GE822 := n4_; have NB820_822 := n5_; have NB822_820 := n6_; clear n0_ n1_ n2_ n3_ n4_ n5_ n6_ hb hbox hg; have hnb16 := NB822_820.out; have hnc16 := NB820_822.out; have hcz17_0 : w15.cell? ⟨gb822, 0, none⟩ = some (.int .i64 0) := (blk_cell BK822.out 0).trans rfl; have hcz17_1 : w15.cell? ⟨gb822, 1, none⟩ = some (.int .i64 0) := (blk_cell BK822.out 1).trans rfl; have hfz17_0 := blk_frozen BK822.out 0; have hfz17_1 := blk_frozen BK822.out 1; have hcz18_0 : w15.cell? ⟨gb820, 0, none⟩ = some (.int .i64 ((rd_T59 l0 x13_1).f0)) := (blk_cell BK820.out 0).trans rfl; have hcz18_1 : w15.cell? ⟨gb820, 1, none⟩ = some (.int .i64 ((rd_T59 l0 x13_1).f1)) := (blk_cell BK820.out 1).trans rfl; have hfz18_0 := blk_frozen BK820.out 0; have hfz18_1 := blk_frozen BK820.out 1) | (go_at_call 101; (with_reducible refine (impl_compareCells.callsG ((rd_T59 l0 x13_1).f0) ((rd_T59 l0 x13_1).f1) ((rd_T59 l1 x13_1).f0) ((rd_T59 l1 x13_1).f1) t823 _ A11.out).mono ?_); rintro e w19 ⟨rfl, hb⟩; have n0_ := aM (blk_belG (g := gb820) (o := .cells #[.int .i64 ((rd_T59 l0 x13_1).f0), .int .i64 ((rd_T59 l0 x13_1).f1)] 59 (0, 0)) (by (with_reducible repeat (first | refine blk_drewN ?_ _ | refine blk_drew ?_ | refine blk_alloc ?_ _)); refine blk_far ?_ NB820_822.out _; (with_reducible repeat (first | refine blk_drewN ?_ _ | refine blk_drew ?_ | refine blk_alloc ?_ _)); refine blk_far ?_ NB820_822.out _; (with_reducible repeat (first | refine blk_drewN ?_ _ | refine blk_drew ?_ | refine blk_alloc ?_ _)); exact BK820.out) hb); have n1_ := aM (blk_belG (g := gb822) (o := .cells #[.int .i64 ((rd_T59 l1 x13_1).f0), .int .i64 ((rd_T59 l1 x13_1).f1)] 59 (0, 0)) (by (with_reducible repeat (first | refine blk_drewN ?_ _ | refine blk_drew ?_ | refine blk_alloc ?_ _)); refine blk_put (cs := #[.int .i64 ((rd_T59 l1 x13_1).f0), .int .i64 0]) ?_ 1 _ rfl; (with_reducible repeat (first | refine blk_drewN ?_ _ | refine blk_drew ?_ | refine blk_alloc ?_ _)); refine blk_put (cs := #[.int .i64 0, .int .i64 0]) ?_ 0 _ rfl; (with_reducible repeat (first | refine blk_drewN ?_ _ | refine blk_drew ?_ | refine blk_alloc ?_ _)); exact BK822.out) hb); have n2_ := aM (belG_step (by repeat (first | (with_reducible first | exact HB.out | apply belG_alloc | apply pw_belG_drewN | apply belG_drew1 | refine belG_set ?_ GE820.out | refine belG_set ?_ GE822.out) | exact HB.out)) hb); clear BK820 BK822 HB; have BK820 := n0_; have BK822 := n1_; have HB := n2_; clear n0_ n1_ n2_; (try clear hb); (try clear hb2); (try clear hk); (try clear hi)))
   go_roundg k1
   case measure => have := HK1.out; omega
   case rel => exact ⟨(wrap64 (x13_1 + 1)), zr, H', ⟨by have := HK1.out; omega⟩, ⟨by repeat (first | (with_reducible first | exact HB.out | apply belG_alloc | apply pw_belG_drewN | apply belG_drew1 | refine belG_set ?_ GE820.out | refine belG_set ?_ GE822.out) | exact HB.out)⟩⟩
def impl_compareShapes.f (k : Nat) (l0 : List (S59)) (l1 : List (S59)) : Option (Int) := if (l0.length : Int) = (l1.length : Int) then ((impl_Cell_155__impl_compareCells.f k l0 l1).bind fun t824 => (some t824)) else (if (l0.length : Int) < (l1.length : Int) then (some (-1)) else (some 1))
theorem impl_compareShapes.callsG (k : Nat) (A0 : Option Addr) (c0 : Nat) (l0 : List (S59)) (A1 : Option Addr) (c1 : Nat) (l1 : List (S59)) (r : Int) (w : World) (hr0 : Kd.C k59 w A0 l0.length l0) (hc0 : l0.length ≤ c0) (hr1 : Kd.C k59 w A1 l1.length l1) (hc1 : l1.length ≤ c1) (h : impl_compareShapes.f k l0 l1 = some r) :
  Calls Try.prog 140 #[.slice A0 l0.length c0, .slice A1 l1.length c1] w fun e w' => e = .returned (.int .i64 r) ∧ BelG w.heap.size w w' := by
 have HR0 := aM hr0
 have HC0 := aM hc0
 clear hr0 hc0
 have HR1 := aM hr1
 have HC1 := aM hc1
 clear hr1 hc1
 have HB := aM (BelG.refl w.heap.size w)
 have H : (if (l0.length : Int) = (l1.length : Int) then ((impl_Cell_155__impl_compareCells.f k l0 l1).bind fun t824 => (some t824)) else (if (l0.length : Int) < (l1.length : Int) then (some (-1)) else (some 1))) = some r := h
 clear h
 by_cases c3 : (l0.length : Int) = (l1.length : Int)
 ·rw [if_pos c3] at H
  have c3b0 : ((l0.length : Int) == (l1.length : Int)) = true := beq_iff_eq.mpr c3
  have c3b1 : ((l0.length : Int) != (l1.length : Int)) = false := bne_eq_false_iff_eq.mpr c3
  have c3b2 : (l0.length == l1.length) = true := by first | simpa using c3 | (simp at c3 ⊢; omega)
  clear c3
  replace H := Option.bind_eq_some_iff.mp H
  obtain ⟨t824, A40, H⟩ := H
  replace H : (some t824) = some r := H
  have A4 := aM A40
  clear A40
  obtain rfl := Option.some.inj H
  go_enter Try.func140, Try.ntmps140
  go_wp2_with (first | ((with_reducible refine gate_callee (f := 155) rfl ?_); refine goesL_ (some 17) rfl rfl Try.func155 (by kernel_rfl) rfl #[.slice A0 l0.length c0, .slice A1 l1.length c1, .func (.func 101) #[] #[]] rfl zm ?_; (with_reducible refine (impl_Cell_155__impl_compareCells.callsG k _ _ l0 _ _ l1  t824 _ ?side1 ?side2 ?side3 ?side4 A4.out).mono ?_); (case side1 => repeat (first | exact HR0.out | (with_reducible refine Kd.C_alloc ?_ _) | (with_reducible refine Kd.C_drewN ?_ _) | (with_reducible refine Kd.C_drew ?_))); (case side2 => exact HC0.out); (case side3 => repeat (first | exact HR1.out | (with_reducible refine Kd.C_alloc ?_ _) | (with_reducible refine Kd.C_drewN ?_ _) | (with_reducible refine Kd.C_drew ?_))); (case side4 => exact HC1.out); rintro e w5 ⟨rfl, hb⟩; refine ⟨_, rfl, ?_⟩; have n0_ := aM (belG_step zg hb); clear HB; have HB := n0_; clear n0_; (try clear hb); (try clear hb2); (try clear hk); (try clear hi)))
  go_ret
  exact ⟨zw, zg⟩
 rw [if_neg c3] at H
 have c3b0 : ((l0.length : Int) == (l1.length : Int)) = false := beq_eq_false_iff_ne.mpr c3
 have c3b1 : ((l0.length : Int) != (l1.length : Int)) = true := bne_iff_ne.mpr c3
 have c3b2 : (l0.length == l1.length) = false := by first | simpa using c3 | (simp at c3 ⊢; omega)
 by_cases c6 : (l0.length : Int) < (l1.length : Int)
 ·rw [if_pos c6] at H
  have c6b0 : decide ((l0.length : Int) < (l1.length : Int)) = true := decide_eq_true c6
  have c6b1 : decide (l0.length < l1.length) = true := decide_eq_true (Int.ofNat_lt.mp c6)
  clear c6
  obtain rfl := Option.some.inj H
  go_enter Try.func140, Try.ntmps140
  go_wp2
  go_ret
  exact ⟨zw, zg⟩
 rw [if_neg c6] at H
 have c6b0 : decide ((l0.length : Int) < (l1.length : Int)) = false := decide_eq_false c6
 have c6b1 : decide (l0.length < l1.length) = false := decide_eq_false (fun h => c6 (Int.ofNat_lt.mpr h))
 clear c6
 obtain rfl := Option.some.inj H
 go_enter Try.func140, Try.ntmps140
 go_wp2
 go_ret
 exact ⟨zw, zg⟩
def sortS_lays_ren : Go.Shelf.Ren := ⟨fun | 6 => 139 | 15 => 129 | 14 => 154 | 28 => 151 | 29 => 152 | 20 => 161 | 21 => 162 | 22 => 163 | 23 => 164 | 24 => 165 | 25 => 166 | 26 => 167 | 27 => 168 | 46 => 170 | 47 => 157 | 48 => 158 | 49 => 171 | 50 => 172 | 57 => 173 | n => n, fun | 22 => 61 | 24 => 24 | 25 => 124 | 3 => 3 | 39 => 116 | 0 => 0 | 53 => 134 | 55 => 136 | 4 => 4 | 46 => 128 | 45 => 127 | 50 => 113 | 5 => 5 | 9 => 9 | 66 => 139 | 70 => 143 | 76 => 150 | 77 => 151 | n => n, fun n => n⟩
theorem sortS_lays : SlLaysF.n6 Try.prog sortS_lays_ren where
  mixed := by kernel_rfl
  f6 := ⟨Try.f139.name, by kernel_rfl, Try.func139.trans (congrArg some (by kernel_rfl))⟩
  f14 := ⟨Try.f154.name, by kernel_rfl, Try.func154.trans (congrArg some (by kernel_rfl))⟩
  f15 := Try.func129.trans (congrArg some (by kernel_rfl))
  f20 := ⟨Try.f161.name, by kernel_rfl, Try.func161.trans (congrArg some (by kernel_rfl))⟩
  f21 := ⟨Try.f162.name, by kernel_rfl, Try.func162.trans (congrArg some (by kernel_rfl))⟩
  f22 := ⟨Try.f163.name, by kernel_rfl, Try.func163.trans (congrArg some (by kernel_rfl))⟩
  f23 := ⟨Try.f164.name, by kernel_rfl, Try.func164.trans (congrArg some (by kernel_rfl))⟩
  f24 := ⟨Try.f165.name, by kernel_rfl, Try.func165.trans (congrArg some (by kernel_rfl))⟩
  f25 := ⟨Try.f166.name, by kernel_rfl, Try.func166.trans (congrArg some (by kernel_rfl))⟩
  f26 := ⟨Try.f167.name, by kernel_rfl, Try.func167.trans (congrArg some (by kernel_rfl))⟩
  f27 := ⟨Try.f168.name, by kernel_rfl, Try.func168.trans (congrArg some (by kernel_rfl))⟩
  f28 := Try.func151.trans (congrArg some (by kernel_rfl))
  f29 := Try.func152.trans (congrArg some (by kernel_rfl))
  f46 := ⟨Try.f170.name, by kernel_rfl, Try.func170.trans (congrArg some (by kernel_rfl))⟩
  f47 := Try.func157.trans (congrArg some (by kernel_rfl))
  f48 := Try.func158.trans (congrArg some (by kernel_rfl))
  f49 := ⟨Try.f171.name, by kernel_rfl, Try.func171.trans (congrArg some (by kernel_rfl))⟩
  f50 := ⟨Try.f172.name, by kernel_rfl, Try.func172.trans (congrArg some (by kernel_rfl))⟩
  f57 := ⟨Try.f173.name, by kernel_rfl, Try.func173.trans (congrArg some (by kernel_rfl))⟩
  t0 := Try.underlying0
  a0 := Try.isAgg0
  z0 := Try.sizeOf0
  v0 := Try.zeroValue0
  t3 := Try.underlying3
  a3 := Try.isAgg3
  z3 := Try.sizeOf3
  v3 := Try.zeroValue3
  t4 := Try.underlying4
  a4 := Try.isAgg4
  z4 := Try.sizeOf4
  v4 := Try.zeroValue4
  t5 := Try.underlying5
  a5 := Try.isAgg5
  z5 := Try.sizeOf5
  v5 := Try.zeroValue5
  t9 := Try.underlying9
  a9 := Try.isAgg9
  z9 := Try.sizeOf9
  v9 := Try.zeroValue9
  t22 := Try.underlying61
  a22 := Try.isAgg61
  z22 := Try.sizeOf61
  v22 := Try.zeroValue61
  a24 := Try.isAgg24
  z24 := Try.sizeOf24
  t25 := Try.underlying124
  a25 := Try.isAgg124
  z25 := Try.sizeOf124
  v25 := Try.zeroValue124
  t39 := Try.underlying116
  a39 := Try.isAgg116
  z39 := Try.sizeOf116
  v39 := Try.zeroValue116
  t45 := Try.underlying127
  a45 := Try.isAgg127
  z45 := Try.sizeOf127
  v45 := Try.zeroValue127
  t46 := Try.underlying128
  a46 := Try.isAgg128
  z46 := Try.sizeOf128
  v46 := Try.zeroValue128
  t50 := Try.underlying113
  a50 := Try.isAgg113
  z50 := Try.sizeOf113
  v50 := Try.zeroValue113
  t53 := Try.underlying134
  a53 := Try.isAgg134
  z53 := Try.sizeOf134
  v53 := Try.zeroValue134
  t55 := Try.underlying136
  a55 := Try.isAgg136
  z55 := Try.sizeOf136
  v55 := Try.zeroValue136
  t66 := Try.underlying139
  a66 := Try.isAgg139
  z66 := Try.sizeOf139
  v66 := Try.zeroValue139
  t70 := Try.underlying143
  a70 := Try.isAgg143
  z70 := Try.sizeOf143
  v70 := Try.zeroValue143
  t76 := Try.underlying150
  a76 := Try.isAgg150
  z76 := Try.sizeOf150
  v76 := Try.zeroValue150
  t77 := Try.underlying151
  a77 := Try.isAgg151
  z77 := Try.sizeOf151
  v77 := Try.zeroValue151
open Go.Sort
def ordL : List S59 → List S59 → Int
  | [], _ => 0
  | _ :: _, [] => 0
  | a :: r, b :: s => if cmpV a b = 0 then ordL r s else cmpV a b
def ordS (a b : List S59) : Int := if a.length = b.length then ordL a b else if a.length < b.length then -1 else 1
theorem cI_self (a : Int) : cI a a = 0 := by unfold cI; simp
theorem cI_anti (a b : Int) : cI b a = -cI a b := by unfold cI; repeat' split
                                                     all_goals omega
theorem cmpV_self (x : S59) : cmpV x x = 0 := by unfold cmpV; simp [cI_self]
theorem cmpV_anti (x y : S59) : cmpV y x = -cmpV x y := by
  unfold cmpV
  have h0 := cI_anti x.f0 y.f0
  have h1 := cI_anti x.f1 y.f1
  try have h2 := cI_anti x.f2 y.f2
  repeat' split
  all_goals omega
theorem lt_iff (x y : S59) : ltOf cmpV x y = false ↔ 0 ≤ cmpV x y := by
  unfold ltOf
  rw [decide_eq_false_iff_not]
  omega
theorem cmpV_zero {x y : S59} (h : cmpV x y = 0) : x = y := antiV x y ((lt_iff x y).2 (by omega)) ((lt_iff y x).2 (by rw [cmpV_anti]; omega))
theorem cmpV_trans {x y z : S59} (h1 : cmpV x y ≤ 0) (h2 : cmpV y z ≤ 0) : cmpV x z ≤ 0 := by
  have h := (lt_iff z x).1 (swoV.ntrans z y x ((lt_iff z y).2 (by rw [cmpV_anti]; omega)) ((lt_iff y x).2 (by rw [cmpV_anti]; omega)))
  rw [cmpV_anti] at h
  omega
theorem ordL_self : ∀ a : List S59, ordL a a = 0
  | [] => rfl
  | a :: r => by unfold ordL; rw [cmpV_self, if_pos rfl, ordL_self r]
theorem ordL_anti : ∀ a b : List S59, a.length = b.length → ordL b a = -ordL a b
  | [], [], _ => rfl
  | [], b :: s, h => by simp at h
  | a :: r, [], h => by simp at h
  | a :: r, b :: s, h => by
    unfold ordL
    have ih := ordL_anti r s (by simpa using h)
    have hc := cmpV_anti a b
    by_cases e : cmpV a b = 0
    · rw [if_pos e, if_pos (by omega)]; exact ih
    · rw [if_neg e, if_neg (by omega)]; exact hc
theorem ordL_zero : ∀ a b : List S59, a.length = b.length → ordL a b = 0 → a = b
  | [], [], _, _ => rfl
  | [], b :: s, h, _ => by simp at h
  | a :: r, [], h, _ => by simp at h
  | a :: r, b :: s, h, h0 => by
    unfold ordL at h0
    by_cases e : cmpV a b = 0
    · rw [if_pos e] at h0
      rw [cmpV_zero e, ordL_zero r s (by simpa using h) h0]
    · rw [if_neg e] at h0
      exact absurd h0 e
theorem ordL_trans : ∀ a b c : List S59, a.length = b.length → b.length = c.length → ordL a b ≤ 0 → ordL b c ≤ 0 → ordL a c ≤ 0
  | [], _, _, _, _, _, _ => by unfold ordL; omega
  | a :: r, [], _, h, _, _, _ => by simp at h
  | a :: r, b :: s, [], _, h, _, _ => by simp at h
  | a :: r, b :: s, c :: t, h1, h2, h3, h4 => by
    unfold ordL at h3 h4 ⊢
    have hab := cmpV_anti a b
    have hbc := cmpV_anti b c
    have hac := cmpV_anti a c
    by_cases e1 : cmpV a b = 0
    · obtain rfl := cmpV_zero e1
      rw [if_pos e1] at h3
      by_cases e2 : cmpV a c = 0
      · rw [if_pos e2] at h4 ⊢
        exact ordL_trans r s t (by simpa using h1) (by simpa using h2) h3 h4
      · rw [if_neg e2] at h4 ⊢
        exact h4
    · rw [if_neg e1] at h3
      by_cases e2 : cmpV b c = 0
      · obtain rfl := cmpV_zero e2
        rw [if_neg e1]
        exact h3
      · rw [if_neg e2] at h4
        have h5 := cmpV_trans h3 h4
        by_cases e3 : cmpV a c = 0
        · obtain rfl := cmpV_zero e3
          omega
        · rw [if_neg e3]
          exact h5
theorem ordS_self (a : List S59) : ordS a a = 0 := by unfold ordS; rw [if_pos rfl, ordL_self]
theorem ordS_anti (a b : List S59) : ordS b a = -ordS a b := by
  unfold ordS
  by_cases e : a.length = b.length
  · rw [if_pos e, if_pos e.symm, ordL_anti a b e]
  · rw [if_neg e, if_neg (fun x => e x.symm)]
    repeat' split
    all_goals omega
theorem ordS_zero {a b : List S59} (h : ordS a b = 0) : a = b := by
  unfold ordS at h
  by_cases e : a.length = b.length
  · rw [if_pos e] at h; exact ordL_zero a b e h
  · rw [if_neg e] at h
    split at h <;> omega
theorem ordS_trans {a b c : List S59} (h1 : ordS a b ≤ 0) (h2 : ordS b c ≤ 0) : ordS a c ≤ 0 := by
  unfold ordS at h1 h2 ⊢
  by_cases e1 : a.length = b.length
  · rw [if_pos e1] at h1
    by_cases e2 : b.length = c.length
    · rw [if_pos e2] at h2
      rw [if_pos (e1.trans e2)]
      exact ordL_trans a b c e1 e2 h1 h2
    · rw [if_neg e2] at h2
      rw [if_neg (by omega)]
      split at h2 <;> split <;> omega
  · rw [if_neg e1] at h1
    by_cases e2 : b.length = c.length
    · rw [if_neg (by omega)]
      split at h1 <;> split <;> omega
    · rw [if_neg e2] at h2
      split at h1
      · split at h2
        · rw [if_neg (by omega), if_pos (by omega)]; omega
        · omega
      · omega
theorem ltS_iff (x y : List S59) : ltOf ordS x y = false ↔ 0 ≤ ordS x y := by
  unfold ltOf
  rw [decide_eq_false_iff_not]
  omega
theorem swoS : SWO (ltOf ordS) where
  irrefl x := by rw [ltS_iff, ordS_self]; omega
  trans x y z h1 h2 := by
    unfold ltOf at *
    rw [decide_eq_true_eq] at *
    have h3 := ordS_trans (a := x) (b := y) (c := z) (by omega) (by omega)
    by_cases e : ordS x z = 0
    · have := ordS_zero e
      subst this
      have := ordS_anti x y
      omega
    · omega
  ntrans x y z h1 h2 := by
    rw [ltS_iff] at *
    have h3 := ordS_trans (a := z) (b := y) (c := x) (by rw [ordS_anti]; omega) (by rw [ordS_anti]; omega)
    rw [ordS_anti] at h3
    omega
theorem antiS (x y : List S59) (h1 : ltOf ordS x y = false) (h2 : ltOf ordS y x = false) : x = y := by
  rw [ltS_iff] at *
  rw [ordS_anti] at h2
  exact ordS_zero (by omega)
def sortS (l : List (List S59)) : List (List S59) := l.mergeSort fun x y => !ltOf ordS y x
structure El (W0 : World) (ok : Nat → Prop) where
  v : Value
  l : List S59
  j : Nat
  has : Kd.FK (Kd.slice 59 k59) W0 ok l [v]
theorem FK_nil0 (W0 : World) (ok : Nat → Prop) : Kd.FK (Kd.slice 59 k59) W0 ok [] [.slice none 0 0] := fun W' _ => ⟨none, 0, rfl, Nat.le_refl _, Kd.C_nil _ _⟩
instance instEl (W0 : World) (ok : Nat → Prop) : Inhabited (El W0 ok) := ⟨⟨.slice none 0 0, [], 0, FK_nil0 _ _⟩⟩
section
variable {W0 w W : World} {ok : Nat → Prop} {base g cap n m : Nat} {os : Array Obj}
theorem El.one (x : El W0 ok) : x.v.oneCell' = true := (Kd.slice 59 k59).K_one (Kd.FK_now x.has) x.v (by simp)
def Same (W0 w : World) (ok : Nat → Prop) : Prop := ∀ k, ok k → k < W0.heap.size → w.heap[k]? = W0.heap[k]?
theorem Same.refl (w : World) (ok : Nat → Prop) : Same w w ok := fun _ _ _ => rfl
theorem Same.grown (h : Same W0 w ok) (hg : w.grownBy W (some g)) (hok : ¬ ok g) : Same W0 W ok := fun k hk hlt =>
  (hg.block k (heap_lt (h k hk hlt) hlt) (fun e => hok (by injection e with e; exact e ▸ hk))).trans (h k hk hlt)
theorem El.now (x : El W0 ok) (h : Same W0 w ok) : ∃ A c, x.v = .slice A x.l.length c ∧ x.l.length ≤ c ∧ Kd.C k59 w A x.l.length x.l := by
  obtain ⟨A, c, e, h1, h2⟩ := Kd.FK_now (Kd.FK_step x.has h)
  exact ⟨A, c, by simpa using e, h1, h2⟩
def cfE (x y : El W0 ok) : Int := ordS x.l y.l
theorem swoE : SWO (ltOf (cfE (W0 := W0) (ok := ok))) where
  irrefl x := swoS.irrefl x.l
  trans x y z := swoS.trans x.l y.l z.l
  ntrans x y z := swoS.ntrans x.l y.l z.l
theorem sortW1_grown {α : Type} [Inhabited α] (enc : α → Value) (w : World) (g n : Nat) (d : Array α) (os : Array Obj) : w.grownBy (sortWorld enc w g 0 n d os) (some g) := by
  refine ⟨rfl, rfl, rfl, ?_, fun k hk hne => ?_⟩
  · show w.heap.size ≤ ((w.heap.modify g _) ++ os).size
    simp
  · show ((w.heap.modify g _) ++ os)[k]? = w.heap[k]?
    rw [Array.getElem?_append_left (by simpa using hk), Array.getElem?_modify, if_neg]
    intro e
    exact hne (by rw [e])
theorem sortW1_heap {α : Type} [Inhabited α] (enc : α → Value) (w : World) (g n : Nat) (d : Array α) (os : Array Obj) {cur : Array Value} {e : TypeId} {fr : Nat × Nat} (h : w.heap[g]? = some (.cells cur e fr)) : (sortWorld enc w g 0 n d os).heap[g]? = some (.cells (Go.Sort.putCells enc 0 d cur) e fr) := by
  have hlt : g < w.heap.size := (Array.getElem?_eq_some_iff.1 h).1
  show ((w.heap.modify g _) ++ os)[g]? = _
  rw [Array.getElem?_append_left (by simpa using hlt), Array.getElem?_modify, if_pos rfl, h]
  rfl
theorem putCells1_take {α : Type} [Inhabited α] (enc : α → Value) (d : Array α) (cur : Array Value) (h : d.size ≤ cur.size) : (Go.Sort.putCells enc 0 d cur).toList.take d.size = d.toList.map enc := by
  apply List.ext_getElem?
  intro i
  by_cases hi : i < d.size
  · rw [List.getElem?_take_of_lt hi]
    simp only [Go.Sort.putCells, Array.getElem?_toList, Array.getElem?_mapIdx, List.getElem?_map]
    rw [Array.getElem?_eq_getElem (show i < cur.size by omega), Array.getElem?_eq_getElem hi, Option.map_some, Option.map_some, if_pos (by omega)]
    simp [getElem!_pos d i hi]
  · rw [List.getElem?_eq_none (by simp; omega), List.getElem?_eq_none (by simp; omega)]
structure At (w : World) (base g cap : Nat) (d : Array (El W0 ok)) : Prop where
  base : base ≤ g
  max : cap ≤ maxLen
  size : d.size ≤ cap
  cells : ∃ cur, w.heap[g]? = some (.cells cur 24 (0, 0)) ∧ cur.size = cap ∧ cur.toList.take d.size = d.toList.map El.v
theorem At.lt {d : Array (El W0 ok)} (h : At w base g cap d) : g < w.heap.size := by
  obtain ⟨cur, h1, _⟩ := h.cells
  exact (Array.getElem?_eq_some_iff.1 h1).1
end
end Go.Proofs.Ytfdfdifjkaaeoaa.F
end
