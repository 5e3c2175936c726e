/- The row of FnExactHexShapes, with what it needs: text 6 of 11. -/
import Derived.Test.YtibbjiehblpmfaaKHS4
set_option maxHeartbeats 8000000
set_option maxRecDepth 100000
section
namespace Go.Proofs.Ytibbjiehblpmfaa.F
open Go.RowKit Go.Proofs.YtibbjiehblpmfaaW.PrintWords Go.Proofs.YtibbjiehblpmfaaW.PrintLast Go.Proofs.YtibbjiehblpmfaaW.PrintMore
attribute [local go_sem] max2_int min2_int max_two min_two max_three min_three max_four min_four
set_option linter.unusedVariables false
set_option linter.unusedSimpArgs false
def spec_l03Add.f (k : Nat) (l0 : List (List (S43))) (l1 : List (S43)) : Option ((List (List (S43)))) := spec_l03Add.l0 k l0 l1 (([] : List (List (S43)))) false 0
theorem spec_l03Add.calls (k : Nat) (P0_ : Nat → Prop) (A0 : Option Addr) (c0 : Nat) (l0 : List (List (S43))) (P1_ : Nat → Prop) (A1 : Option Addr) (c1 : Nat) (l1 : List (S43)) (r : List (List (S43))) (w : World) (hs0 : Kd.V (Kd.slice 43 k43) 36 w w.heap.size (fun k_ => P0_ k_) (.slice A0 l0.length c0) l0) (hs1 : Kd.V k43 43 w w.heap.size (fun k_ => P1_ k_) (.slice A1 l1.length c1) l1) (h : spec_l03Add.f k l0 l1 = some r) :
  Calls Try.prog 29 #[.slice A0 l0.length c0, .slice A1 l1.length c1] w fun e w' => ∃ v0_ : Value, e = .returned (v0_) ∧ Kd.V (Kd.slice 43 k43) 36 w' w.heap.size (fun k_ => ((P0_ k_ ∨ P1_ k_) ∨ w.heap.size ≤ k_)) v0_ r ∧ Below w.heap.size w w' := by
 have HO0 := aM (show Kd.V (Kd.slice 43 k43) 36 w w.heap.size (fun k_ => ((P0_ k_ ∨ P1_ k_) ∨ w.heap.size ≤ k_)) (.slice A0 l0.length c0) l0 from Kd.V_mono hs0 (fun k_ hk => .inl (.inl hk)))
 have HO1 := aM (show Kd.V k43 43 w w.heap.size (fun k_ => ((P0_ k_ ∨ P1_ k_) ∨ w.heap.size ≤ k_)) (.slice A1 l1.length c1) l1 from Kd.V_mono hs1 (fun k_ hk => .inl (.inr hk)))
 have HB := aM (Below.refl w.heap.size w)
 have H : (spec_l03Add.l0 k l0 l1 (([] : List (List (S43)))) false 0) = some r := h
 clear h
 obtain ⟨y235, hy235⟩ : ∃ y_ : List (List (S43)), y_ = (([] : List (List (S43)))) := ⟨_, rfl⟩
 replace H : (spec_l03Add.l0 k l0 l1 y235 false 0) = some r := zy H hy235
 have Ny235 := aM hy235
 clear hy235
 have H' := aM H
 clear H
 go_enter Try.func29, Try.ntmps29
 go_wp2_with (first | ((with_reducible refine gate_dst (N := 9) rfl ?_); refine Kd.N_lit (Kd.slice 43 k43) _ 36 ?hg (N' := 9) ?hd (xs := ([] : List (List (S43)))) (inner := []) (ok := (fun k_ => ((P0_ k_ ∨ P1_ k_) ∨ w.heap.size ≤ k_))) (okp := (fun k_ => ((P0_ k_ ∨ P1_ k_) ∨ w.heap.size ≤ k_))) ?hr ?hp (fun _ hk => hk) ((show ∀ k_, w.heap.size ≤ k_ → (fun k_ => ((P0_ k_ ∨ P1_ k_) ∨ w.heap.size ≤ k_)) k_ from fun k_ hk => (.inr (Nat.le_trans (below_size zb) hk))) _ (Nat.le_refl _)) (Below.refl _ _) (Nat.le_refl _) (by simp) ?_; (case hd => rfl); (case hg => rfl); (case hr => first | (go_simp; done) | (go_simp; rfl)); (case hp => exact (Reps.none _ _)); intro v236 w3 ho4 hb hg_ hnew_; clear hg_ hnew_; (first | rw [← Ny235.out] at ho4 | (simp only [Int.reduceToNat] at ho4; rw [← Ny235.out] at ho4)); have n0_ := aM (Kd.V_elder' (mV_ HO0.out) (by first | exact Kd.N_base ho4 | exact Kd.S_base ho4 | exact Kd.R_base ho4) hb); have n1_ := aM (Kd.V_elder' (mV_ HO1.out) (by first | exact Kd.N_base ho4 | exact Kd.S_base ho4 | exact Kd.R_base ho4) hb); have n2_ := aM (Kd.N_lower ho4 (below_size zb)); have n3_ := aM (below_step zb hb); clear HO0 HO1 HB; have HO0 := n0_; have HO1 := n1_; have HO237 := n2_; have HB := n3_; clear n0_ n1_ n2_ n3_; clear hb ho4))
 go_loopg [5, 6, 7] k (fun kq v5 v6 v7 w' => ∃ (x5_1 : List (List (S43))) (x6_1 : Bool) (x7_1 : Int), v6 = .bool x6_1 ∧ v7 = .int .i64 x7_1 ∧ Aside0 (spec_l03Add.l0 kq l0 l1 x5_1 x6_1 x7_1 = some r) ∧ Aside0 (kq ≤ k) ∧ Aside0 (Kd.V (Kd.slice 43 k43) 36 w' w.heap.size (fun k_ => ((P0_ k_ ∨ P1_ k_) ∨ w.heap.size ≤ k_) ∧ some k_ ≠ (v5 : Value).ownBlock) (.slice A0 l0.length c0) l0) ∧ Aside0 (Kd.V k43 43 w' w.heap.size (fun k_ => ((P0_ k_ ∨ P1_ k_) ∨ w.heap.size ≤ k_) ∧ some k_ ≠ (v5 : Value).ownBlock) (.slice A1 l1.length c1) l1) ∧ Aside0 (Kd.N (Kd.slice 43 k43) 36 w' w.heap.size (fun k_ => ((P0_ k_ ∨ P1_ k_) ∨ w.heap.size ≤ k_)) v5 x5_1) ∧ Aside0 (Below w.heap.size w w'))
 case atStart => exact ⟨(y235), (false), (0), zr, zr, H', ⟨Nat.le_refl _⟩, ⟨mV_ HO0.out⟩, ⟨mV_ HO1.out⟩, ⟨mN_ HO237.out⟩, ⟨zb⟩⟩
 case round =>
  clear H'
  try clear c1
  try clear c2
  try clear p2
  obtain ⟨x5_1, x6_1, x7_1, rfl, rfl, HA, HK1, HO_0, HO_1, HO_5, HB⟩ := hrel
  cases gk with
  | zero => exact absurd HA.out (by simp [spec_l03Add.l0])
  | succ k1 =>
   have H := HA.out
   clear HA
   simp only [spec_l03Add.l0] at H
   by_cases c5 : x7_1 < (l0.length : Int)
   rotate_left
   ·rw [if_neg c5] at H
    have c5b0 : decide (x7_1 < (l0.length : Int)) = false := decide_eq_false c5
    clear c5
    by_cases c23 : x6_1 = true
    ·subst c23
     have H1 : (some x5_1) = some r := by rw [if_pos rfl] at H; exact H
     clear H
     have H := H1
     clear H1
     obtain rfl := Option.some.inj H
     go_wp2
     go_ret
     exact ⟨_, zw, Kd.N_V (mN_ HO_5.out), zb⟩
    replace c23 := Bool.eq_false_iff.mpr c23
    subst c23
    have H1 : (if x5_1.length < 5864062014805 then (some (x5_1 ++ [l1])) else (none)) = some r := by rw [if_neg (show ¬ (false = true) by decide)] at H; exact H
    clear H
    have H := H1
    clear H1
    by_cases c24 : x5_1.length < 5864062014805
    rotate_left
    ·rw [if_neg c24] at H
     exact absurd H (by simp)
    rw [if_pos c24] at H
    have LMc24 := aM c24
    clear c24
    obtain ⟨y238, hy238⟩ : ∃ y_ : List (List (S43)), y_ = (x5_1 ++ [l1]) := ⟨_, rfl⟩
    replace H : (some y238) = some r := zy H hy238
    have Ny238 := aM hy238
    clear hy238
    obtain rfl := Option.some.inj H
    go_wp2_with (first | ((with_reducible refine gate_builtin (b := .append) (xs := #[.tmp 44, .tmp 46]) rfl ?_); at_builtin; refine Kd.N_append (Kd.slice 43 k43) (w0 := w) w.heap.size rfl (.tmp 44) (.tmp 46) 22 36 (.slice none 0 0) 24 rfl Try.underlying22 info36 rfl (by decide) (by omega) u5 x5_1 l1 [.slice A1 l1.length c1] (fun k_ => ((P0_ k_ ∨ P1_ k_) ∨ w.heap.size ≤ k_)) (fun k_ => ((fun k_ => ((P0_ k_ ∨ P1_ k_) ∨ w.heap.size ≤ k_))) k_ ∧ some k_ ≠ (u5 : Value).ownBlock) rfl rfl ?aP (fun _ hk => hk) ?aF ?aO ?aB ?aS ?aL ?_; (case aP => first | exact (Kd.FK_slice_mk (Kd.V_reads' (Kd.V_mono (ok' := (fun k_ => ((fun k_ => ((P0_ k_ ∨ P1_ k_) ∨ w.heap.size ≤ k_))) k_ ∧ some k_ ≠ (u5 : Value).ownBlock)) (Kd.V_drewN HO_1.out _) (fun k_ hk => ⟨hk.1, hk.2⟩))).2.1 (Kd.V_F (Kd.V_mono (ok' := (fun k_ => ((fun k_ => ((P0_ k_ ∨ P1_ k_) ∨ w.heap.size ≤ k_))) k_ ∧ some k_ ≠ (u5 : Value).ownBlock)) (Kd.V_drewN HO_1.out _) (fun k_ hk => ⟨hk.1, hk.2⟩)))) | exact (Kd.FK_slice_mk (Kd.V_reads' (Kd.V_mono (ok' := (fun k_ => ((fun k_ => ((P0_ k_ ∨ P1_ k_) ∨ w.heap.size ≤ k_))) k_ ∧ some k_ ≠ (u5 : Value).ownBlock)) (HO_1.out) (fun k_ hk => ⟨hk.1, hk.2⟩))).2.1 (Kd.V_F (Kd.V_mono (ok' := (fun k_ => ((fun k_ => ((P0_ k_ ∨ P1_ k_) ∨ w.heap.size ≤ k_))) k_ ∧ some k_ ≠ (u5 : Value).ownBlock)) (HO_1.out) (fun k_ hk => ⟨hk.1, hk.2⟩)))) | exact (Kd.FK_slice_mk (Kd.V_reads' (Kd.V_mono (ok' := (fun k_ => ((fun k_ => ((P0_ k_ ∨ P1_ k_) ∨ w.heap.size ≤ k_))) k_ ∧ some k_ ≠ (u5 : Value).ownBlock)) (Kd.V_alloc (Kd.V_drewN HO_1.out _) _) (fun k_ hk => ⟨hk.1, hk.2⟩))).2.1 (Kd.V_F (Kd.V_mono (ok' := (fun k_ => ((fun k_ => ((P0_ k_ ∨ P1_ k_) ∨ w.heap.size ≤ k_))) k_ ∧ some k_ ≠ (u5 : Value).ownBlock)) (Kd.V_alloc (Kd.V_drewN HO_1.out _) _) (fun k_ hk => ⟨hk.1, hk.2⟩)))) | (have h2_ := Kd.V_mono (ok' := (fun k_ => ((fun k_ => ((P0_ k_ ∨ P1_ k_) ∨ w.heap.size ≤ k_))) k_ ∧ some k_ ≠ (u5 : Value).ownBlock)) (Kd.V_drewN HO_1.out nd) (fun k_ hk => ⟨hk.1, hk.2⟩); exact Kd.FK_slice_mk (Kd.V_reads' h2_).2.1 (Kd.V_F h2_))); (case aB => exact zb); (case aF => exact (fun k_ hk => (.inr (Nat.le_trans (below_size zb) hk)))); (case aO => exact (mN_ HO_5.out)); (case aS => exact (below_size zb)); (case aL => have := LMc24.out; omega); intro v239 w25 ho hb hg hat; rw [← Ny238.out] at ho; have n0_ := aM (Kd.V_afterv (ok := (fun k_ => ((P0_ k_ ∨ P1_ k_) ∨ w.heap.size ≤ k_))) (mV_ HO_0.out) hg hat); have n1_ := aM (Kd.V_afterv (ok := (fun k_ => ((P0_ k_ ∨ P1_ k_) ∨ w.heap.size ≤ k_))) (mV_ HO_1.out) hg hat); have n2_ := aM (hb); have n3_ := aM (ho); clear HO_0 HO_1 HB HO_5; have HO_0 := n0_; have HO_1 := n1_; have HB := n2_; have HO240 := n3_; clear n0_ n1_ n2_ n3_; clear ho hb hg hat))
    go_ret
    exact ⟨_, zw, Kd.N_V (mN_ HO240.out), zb⟩
   rw [if_pos c5] at H
   have c5b0 : decide (x7_1 < (l0.length : Int)) = true := decide_eq_true c5
   clear c5
   by_cases c6 : 0 ≤ x7_1
   rotate_left
   ·rw [if_neg c6] at H
    exact absurd H (by simp)
   rw [if_pos c6] at H
   have c6b0 : decide (0 ≤ x7_1) = true := decide_eq_true c6
   clear c6
   replace H := Option.bind_eq_some_iff.mp H
   obtain ⟨t242, A70, H⟩ := H
   replace H : (if t242 = 0 then (some l0) else (if t242 < 0 then (if x6_1 = true then (if x5_1.length < 5864062014805 then (spec_l03Add.l0 k1 l0 l1 (x5_1 ++ [rd_L2 l0 x7_1]) x6_1 (wrap64 (x7_1 + 1))) else (none)) else (if x5_1.length < 5864062014805 then ((some (x5_1 ++ [l1] : List (List (S43)))).bind fun y247 => (if y247.length < 5864062014805 then (spec_l03Add.l0 k1 l0 l1 (y247 ++ [rd_L2 l0 x7_1]) true (wrap64 (x7_1 + 1))) else (none))) else (none))) else (if x5_1.length < 5864062014805 then (spec_l03Add.l0 k1 l0 l1 (x5_1 ++ [rd_L2 l0 x7_1]) x6_1 (wrap64 (x7_1 + 1))) else (none)))) = some r := H
   have A7 := aM A70
   clear A70
   by_cases c8 : t242 = 0
   ·rw [if_pos c8] at H
    have c8b0 : (t242 == 0) = true := beq_iff_eq.mpr c8
    have c8b1 : (t242 != 0) = false := bne_eq_false_iff_eq.mpr c8
    clear c8
    obtain rfl := Option.some.inj H
    have p241 : 0 ≤ (x7_1 : Int) := of_decide_eq_true za
    have q241 : x7_1 < (l0.length : Int) := of_decide_eq_true za
    obtain ⟨ad241, A241_0, c241_0, e241, hx241_0, hl241_0, hi241_0⟩ := at_L2 (Kd.V_reads' HO_0.out).2.2 x7_1 p241 q241
    cases e241
    obtain ⟨ce241, hce241, hMe241, hcc241⟩ := Kd.V_get HO_0.out [] x7_1 p241 (by first | exact q241 | exact of_decide_eq_true za | (have e_ := (Kd.V_reads' HO_0.out).1; omega))
    obtain ⟨ua241_0, uc241_0, rfl, ul241_0, ge241_0⟩ := Kd.FK_slice_open hMe241
    have hv241_0 := hcc241 0 _ rfl
    rw [Nat.add_zero, show ((Kd.slice 43 k43)).sz = 1 from rfl, Nat.mul_one] at hv241_0
    replace hv241_0 := Option.some.inj (hv241_0.symm.trans hx241_0)
    injection hv241_0 with hva_ hvn_ hvc_
    rw [hva_] at ge241_0
    rw [hvc_] at ul241_0
    have HL241_0 := aM (show Kd.V k43 43 _ w.heap.size _ _ (rd_L2 l0 x7_1) from Kd.V_mk ul241_0 ge241_0)
    clear hva_ hvn_ hvc_ ge241_0 ul241_0
    clear hcc241 hce241
    have HR241_0 := aM hi241_0
    have HC241_0 := aM hl241_0
    clear hi241_0 hl241_0
    replace p241 := eq_true p241
    replace q241 := eq_true q241
    go_wp2_with (first | ((with_reducible refine gate_callee (f := 25) rfl ?_); refine goesL_ (some 21) rfl rfl Try.func25 (by kernel_rfl) rfl #[.slice A1 l1.length c1, .slice A241_0 (rd_L2 l0 x7_1).length c241_0] rfl zm ?_; (with_reducible refine (spec_CompareShapes.calls k1 _ _ l1 _ _ (rd_L2 l0 x7_1) t242 _ ?side1 ?side2 ?side3 ?side4 A7.out).mono ?_); (case side1 => repeat (first | exact (Kd.V_reads' HO_1.out).2.2 | (with_reducible refine Kd.C_alloc ?_ _) | (with_reducible refine Kd.C_drewN ?_ _) | (with_reducible refine Kd.C_drew ?_))); (case side2 => exact (Kd.V_reads' HO_1.out).2.1); (case side3 => repeat (first | exact (mQ_ HR241_0.out) | (with_reducible refine Kd.C_alloc ?_ _) | (with_reducible refine Kd.C_drewN ?_ _) | (with_reducible refine Kd.C_drew ?_))); (case side4 => exact HC241_0.out); rintro e w9 ⟨rfl, hb⟩; refine ⟨_, rfl, ?_⟩; have n0_ := aM (Kd.V_below (mV_ HO_0.out) hb); have n1_ := aM (Kd.V_below (mV_ HO_1.out) hb); have n2_ := aM (Kd.N_below (mN_ HO_5.out) hb); have n3_ := aM (Kd.V_below (mV_ HL241_0.out) hb); have n4_ := aM (Kd.C_below (mQ_ HR241_0.out) hb); have n5_ := aM (below_step zb hb); clear HO_0 HO_1 HO_5 HL241_0 HR241_0 HB; have HO_0 := n0_; have HO_1 := n1_; have HO_5 := n2_; have HL241_0 := n3_; have HR241_0 := n4_; have HB := n5_; clear n0_ n1_ n2_ n3_ n4_ n5_; (try clear hb); (try clear hb2); (try clear hk); (try clear hi)))
    go_ret
    exact ⟨_, zw, zd6 HO_0.out, zb⟩
   rw [if_neg c8] at H
   have c8b0 : (t242 == 0) = false := beq_eq_false_iff_ne.mpr c8
   have c8b1 : (t242 != 0) = true := bne_iff_ne.mpr c8
   by_cases c10 : t242 < 0
   rotate_left
   ·rw [if_neg c10] at H
    have c10b0 : decide (t242 < 0) = false := decide_eq_false c10
    clear c10
    by_cases c20 : x5_1.length < 5864062014805
    rotate_left
    ·rw [if_neg c20] at H
     exact absurd H (by simp)
    rw [if_pos c20] at H
    have LMc20 := aM c20
    clear c20
    obtain ⟨y255, hy255⟩ : ∃ y_ : List (List (S43)), y_ = (x5_1 ++ [rd_L2 l0 x7_1]) := ⟨_, rfl⟩
    replace H : (spec_l03Add.l0 k1 l0 l1 y255 x6_1 (wrap64 (x7_1 + 1))) = some r := zy H hy255
    have Ny255 := aM hy255
    clear hy255
    have H' := aM H
    clear H
    have p241 : 0 ≤ (x7_1 : Int) := of_decide_eq_true za
    have q241 : x7_1 < (l0.length : Int) := of_decide_eq_true za
    obtain ⟨ad241, A241_0, c241_0, e241, hx241_0, hl241_0, hi241_0⟩ := at_L2 (Kd.V_reads' HO_0.out).2.2 x7_1 p241 q241
    cases e241
    obtain ⟨ce241, hce241, hMe241, hcc241⟩ := Kd.V_get HO_0.out [] x7_1 p241 (by first | exact q241 | exact of_decide_eq_true za | (have e_ := (Kd.V_reads' HO_0.out).1; omega))
    obtain ⟨ua241_0, uc241_0, rfl, ul241_0, ge241_0⟩ := Kd.FK_slice_open hMe241
    have hv241_0 := hcc241 0 _ rfl
    rw [Nat.add_zero, show ((Kd.slice 43 k43)).sz = 1 from rfl, Nat.mul_one] at hv241_0
    replace hv241_0 := Option.some.inj (hv241_0.symm.trans hx241_0)
    injection hv241_0 with hva_ hvn_ hvc_
    rw [hva_] at ge241_0
    rw [hvc_] at ul241_0
    have HL241_0 := aM (show Kd.V k43 43 _ w.heap.size _ _ (rd_L2 l0 x7_1) from Kd.V_mk ul241_0 ge241_0)
    clear hva_ hvn_ hvc_ ge241_0 ul241_0
    clear hcc241 hce241
    have HR241_0 := aM hi241_0
    have HC241_0 := aM hl241_0
    clear hi241_0 hl241_0
    replace p241 := eq_true p241
    replace q241 := eq_true q241
    go_wp2_with (first | ((with_reducible refine gate_callee (f := 25) rfl ?_); refine goesL_ (some 21) rfl rfl Try.func25 (by kernel_rfl) rfl #[.slice A1 l1.length c1, .slice A241_0 (rd_L2 l0 x7_1).length c241_0] rfl zm ?_; (with_reducible refine (spec_CompareShapes.calls k1 _ _ l1 _ _ (rd_L2 l0 x7_1) t242 _ ?side1 ?side2 ?side3 ?side4 A7.out).mono ?_); (case side1 => repeat (first | exact (Kd.V_reads' HO_1.out).2.2 | (with_reducible refine Kd.C_alloc ?_ _) | (with_reducible refine Kd.C_drewN ?_ _) | (with_reducible refine Kd.C_drew ?_))); (case side2 => exact (Kd.V_reads' HO_1.out).2.1); (case side3 => repeat (first | exact (mQ_ HR241_0.out) | (with_reducible refine Kd.C_alloc ?_ _) | (with_reducible refine Kd.C_drewN ?_ _) | (with_reducible refine Kd.C_drew ?_))); (case side4 => exact HC241_0.out); rintro e w21 ⟨rfl, hb⟩; refine ⟨_, rfl, ?_⟩; have n0_ := aM (Kd.V_below (mV_ HO_0.out) hb); have n1_ := aM (Kd.V_below (mV_ HO_1.out) hb); have n2_ := aM (Kd.N_below (mN_ HO_5.out) hb); have n3_ := aM (Kd.V_below (mV_ HL241_0.out) hb); have n4_ := aM (Kd.C_below (mQ_ HR241_0.out) hb); have n5_ := aM (below_step zb hb); clear HO_0 HO_1 HO_5 HL241_0 HR241_0 HB; have HO_0 := n0_; have HO_1 := n1_; have HO_5 := n2_; have HL241_0 := n3_; have HR241_0 := n4_; have HB := n5_; clear n0_ n1_ n2_ n3_ n4_ n5_; (try clear hb); (try clear hb2); (try clear hk); (try clear hi); have p254 : 0 ≤ (x7_1 : Int) := of_decide_eq_true za; have q254 : x7_1 < (l0.length : Int) := of_decide_eq_true za; obtain ⟨ad254, A254_0, c254_0, e254, hx254_0, hl254_0, hi254_0⟩ := at_L2 (Kd.V_reads' HO_0.out).2.2 x7_1 p254 q254; obtain rfl : ad241 = ad254 := (by injection e254); obtain ⟨ce254, hce254, hMe254, hcc254⟩ := Kd.V_get HO_0.out [] x7_1 p254 (by first | exact q254 | exact of_decide_eq_true za | (have e_ := (Kd.V_reads' HO_0.out).1; omega)); obtain ⟨ua254_0, uc254_0, rfl, ul254_0, ge254_0⟩ := Kd.FK_slice_open hMe254; have hv254_0 := hcc254 0 _ rfl; rw [Nat.add_zero, show ((Kd.slice 43 k43)).sz = 1 from rfl, Nat.mul_one] at hv254_0; replace hv254_0 := Option.some.inj (hv254_0.symm.trans hx254_0); injection hv254_0 with hva_ hvn_ hvc_; rw [hva_] at ge254_0; rw [hvc_] at ul254_0; have HL254_0 := aM (show Kd.V k43 43 _ w.heap.size _ _ (rd_L2 l0 x7_1) from Kd.V_mk ul254_0 ge254_0); clear hva_ hvn_ hvc_ ge254_0 ul254_0 hcc254 hce254; have HR254_0 := aM hi254_0; have HC254_0 := aM hl254_0; clear hi254_0 hl254_0; replace p254 := eq_true p254; replace q254 := eq_true q254) | ((with_reducible refine gate_builtin (b := .append) (xs := #[.tmp 35, .tmp 40]) rfl ?_); at_builtin; refine Kd.N_append (Kd.slice 43 k43) (w0 := w) w.heap.size rfl (.tmp 35) (.tmp 40) 22 36 (.slice none 0 0) 24 rfl Try.underlying22 info36 rfl (by decide) (by omega) u5 x5_1 (rd_L2 l0 x7_1) [.slice A254_0 (rd_L2 l0 x7_1).length c254_0] (fun k_ => ((P0_ k_ ∨ P1_ k_) ∨ w.heap.size ≤ k_)) (fun k_ => ((fun k_ => ((P0_ k_ ∨ P1_ k_) ∨ w.heap.size ≤ k_))) k_ ∧ some k_ ≠ (u5 : Value).ownBlock) rfl rfl ?aP (fun _ hk => hk) ?aF ?aO ?aB ?aS ?aL ?_; (case aP => first | exact (Kd.FK_slice_mk (Kd.V_reads' (Kd.V_mono (ok' := (fun k_ => ((fun k_ => ((P0_ k_ ∨ P1_ k_) ∨ w.heap.size ≤ k_))) k_ ∧ some k_ ≠ (u5 : Value).ownBlock)) (Kd.V_drewN HL254_0.out _) (fun k_ hk => ⟨hk.1, hk.2⟩))).2.1 (Kd.V_F (Kd.V_mono (ok' := (fun k_ => ((fun k_ => ((P0_ k_ ∨ P1_ k_) ∨ w.heap.size ≤ k_))) k_ ∧ some k_ ≠ (u5 : Value).ownBlock)) (Kd.V_drewN HL254_0.out _) (fun k_ hk => ⟨hk.1, hk.2⟩)))) | exact (Kd.FK_slice_mk (Kd.V_reads' (Kd.V_mono (ok' := (fun k_ => ((fun k_ => ((P0_ k_ ∨ P1_ k_) ∨ w.heap.size ≤ k_))) k_ ∧ some k_ ≠ (u5 : Value).ownBlock)) (HL254_0.out) (fun k_ hk => ⟨hk.1, hk.2⟩))).2.1 (Kd.V_F (Kd.V_mono (ok' := (fun k_ => ((fun k_ => ((P0_ k_ ∨ P1_ k_) ∨ w.heap.size ≤ k_))) k_ ∧ some k_ ≠ (u5 : Value).ownBlock)) (HL254_0.out) (fun k_ hk => ⟨hk.1, hk.2⟩)))) | exact (Kd.FK_slice_mk (Kd.V_reads' (Kd.V_mono (ok' := (fun k_ => ((fun k_ => ((P0_ k_ ∨ P1_ k_) ∨ w.heap.size ≤ k_))) k_ ∧ some k_ ≠ (u5 : Value).ownBlock)) (Kd.V_alloc (Kd.V_drewN HL254_0.out _) _) (fun k_ hk => ⟨hk.1, hk.2⟩))).2.1 (Kd.V_F (Kd.V_mono (ok' := (fun k_ => ((fun k_ => ((P0_ k_ ∨ P1_ k_) ∨ w.heap.size ≤ k_))) k_ ∧ some k_ ≠ (u5 : Value).ownBlock)) (Kd.V_alloc (Kd.V_drewN HL254_0.out _) _) (fun k_ hk => ⟨hk.1, hk.2⟩)))) | (have h2_ := Kd.V_mono (ok' := (fun k_ => ((fun k_ => ((P0_ k_ ∨ P1_ k_) ∨ w.heap.size ≤ k_))) k_ ∧ some k_ ≠ (u5 : Value).ownBlock)) (Kd.V_drewN HL254_0.out nd) (fun k_ hk => ⟨hk.1, hk.2⟩); exact Kd.FK_slice_mk (Kd.V_reads' h2_).2.1 (Kd.V_F h2_))); (case aB => exact zb); (case aF => exact (fun k_ hk => (.inr (Nat.le_trans (below_size zb) hk)))); (case aO => exact (mN_ HO_5.out)); (case aS => exact (below_size zb)); (case aL => have := LMc20.out; omega); intro v256 w22 ho hb hg hat; rw [← Ny255.out] at ho; have n0_ := aM (Kd.V_afterv (ok := (fun k_ => ((P0_ k_ ∨ P1_ k_) ∨ w.heap.size ≤ k_))) (mV_ HO_0.out) hg hat); have n1_ := aM (Kd.V_afterv (ok := (fun k_ => ((P0_ k_ ∨ P1_ k_) ∨ w.heap.size ≤ k_))) (mV_ HO_1.out) hg hat); have n2_ := aM (Kd.V_afterv (ok := (fun k_ => ((P0_ k_ ∨ P1_ k_) ∨ w.heap.size ≤ k_))) (mV_ HL241_0.out) hg hat); have n3_ := aM (Kd.V_afterv (ok := (fun k_ => ((P0_ k_ ∨ P1_ k_) ∨ w.heap.size ≤ k_))) (mV_ HL254_0.out) hg hat); have n4_ := aM (hb); have n5_ := aM (ho); clear HO_0 HO_1 HL241_0 HL254_0 HB HO_5; have HO_0 := n0_; have HO_1 := n1_; have HL241_0 := n2_; have HL254_0 := n3_; have HB := n4_; have HO257 := n5_; clear n0_ n1_ n2_ n3_ n4_ n5_; clear ho hb hg hat))
    go_roundg k1
    case measure => have := HK1.out; omega
    case rel => exact ⟨(y255), (x6_1), (wrap64 (x7_1 + 1)), zr, zr, H', ⟨by have := HK1.out; omega⟩, ⟨mV_ HO_0.out⟩, ⟨mV_ HO_1.out⟩, ⟨mN_ HO257.out⟩, ⟨zb⟩⟩
   rw [if_pos c10] at H
   have c10b0 : decide (t242 < 0) = true := decide_eq_true c10
   clear c10
   by_cases c11 : x6_1 = true
   ·subst c11
    have H1 : (if x5_1.length < 5864062014805 then (spec_l03Add.l0 k1 l0 l1 (x5_1 ++ [rd_L2 l0 x7_1]) true (wrap64 (x7_1 + 1))) else (none)) = some r := by rw [if_pos rfl] at H; exact H
    clear H
    have H := H1
    clear H1
    by_cases c12 : x5_1.length < 5864062014805
    rotate_left
    ·rw [if_neg c12] at H
     exact absurd H (by simp)
    rw [if_pos c12] at H
    have LMc12 := aM c12
    clear c12
    obtain ⟨y244, hy244⟩ : ∃ y_ : List (List (S43)), y_ = (x5_1 ++ [rd_L2 l0 x7_1]) := ⟨_, rfl⟩
    replace H : (spec_l03Add.l0 k1 l0 l1 y244 true (wrap64 (x7_1 + 1))) = some r := zy H hy244
    have Ny244 := aM hy244
    clear hy244
    have H' := aM H
    clear H
    have p241 : 0 ≤ (x7_1 : Int) := of_decide_eq_true za
    have q241 : x7_1 < (l0.length : Int) := of_decide_eq_true za
    obtain ⟨ad241, A241_0, c241_0, e241, hx241_0, hl241_0, hi241_0⟩ := at_L2 (Kd.V_reads' HO_0.out).2.2 x7_1 p241 q241
    cases e241
    obtain ⟨ce241, hce241, hMe241, hcc241⟩ := Kd.V_get HO_0.out [] x7_1 p241 (by first | exact q241 | exact of_decide_eq_true za | (have e_ := (Kd.V_reads' HO_0.out).1; omega))
    obtain ⟨ua241_0, uc241_0, rfl, ul241_0, ge241_0⟩ := Kd.FK_slice_open hMe241
    have hv241_0 := hcc241 0 _ rfl
    rw [Nat.add_zero, show ((Kd.slice 43 k43)).sz = 1 from rfl, Nat.mul_one] at hv241_0
    replace hv241_0 := Option.some.inj (hv241_0.symm.trans hx241_0)
    injection hv241_0 with hva_ hvn_ hvc_
    rw [hva_] at ge241_0
    rw [hvc_] at ul241_0
    have HL241_0 := aM (show Kd.V k43 43 _ w.heap.size _ _ (rd_L2 l0 x7_1) from Kd.V_mk ul241_0 ge241_0)
    clear hva_ hvn_ hvc_ ge241_0 ul241_0
    clear hcc241 hce241
    have HR241_0 := aM hi241_0
    have HC241_0 := aM hl241_0
    clear hi241_0 hl241_0
    replace p241 := eq_true p241
    replace q241 := eq_true q241
    go_wp2_with (first | ((with_reducible refine gate_callee (f := 25) rfl ?_); refine goesL_ (some 21) rfl rfl Try.func25 (by kernel_rfl) rfl #[.slice A1 l1.length c1, .slice A241_0 (rd_L2 l0 x7_1).length c241_0] rfl zm ?_; (with_reducible refine (spec_CompareShapes.calls k1 _ _ l1 _ _ (rd_L2 l0 x7_1) t242 _ ?side1 ?side2 ?side3 ?side4 A7.out).mono ?_); (case side1 => repeat (first | exact (Kd.V_reads' HO_1.out).2.2 | (with_reducible refine Kd.C_alloc ?_ _) | (with_reducible refine Kd.C_drewN ?_ _) | (with_reducible refine Kd.C_drew ?_))); (case side2 => exact (Kd.V_reads' HO_1.out).2.1); (case side3 => repeat (first | exact (mQ_ HR241_0.out) | (with_reducible refine Kd.C_alloc ?_ _) | (with_reducible refine Kd.C_drewN ?_ _) | (with_reducible refine Kd.C_drew ?_))); (case side4 => exact HC241_0.out); rintro e w13 ⟨rfl, hb⟩; refine ⟨_, rfl, ?_⟩; have n0_ := aM (Kd.V_below (mV_ HO_0.out) hb); have n1_ := aM (Kd.V_below (mV_ HO_1.out) hb); have n2_ := aM (Kd.N_below (mN_ HO_5.out) hb); have n3_ := aM (Kd.V_below (mV_ HL241_0.out) hb); have n4_ := aM (Kd.C_below (mQ_ HR241_0.out) hb); have n5_ := aM (below_step zb hb); clear HO_0 HO_1 HO_5 HL241_0 HR241_0 HB; have HO_0 := n0_; have HO_1 := n1_; have HO_5 := n2_; have HL241_0 := n3_; have HR241_0 := n4_; have HB := n5_; clear n0_ n1_ n2_ n3_ n4_ n5_; (try clear hb); (try clear hb2); (try clear hk); (try clear hi); have p243 : 0 ≤ (x7_1 : Int) := of_decide_eq_true za; have q243 : x7_1 < (l0.length : Int) := of_decide_eq_true za; obtain ⟨ad243, A243_0, c243_0, e243, hx243_0, hl243_0, hi243_0⟩ := at_L2 (Kd.V_reads' HO_0.out).2.2 x7_1 p243 q243; obtain rfl : ad241 = ad243 := (by injection e243); obtain ⟨ce243, hce243, hMe243, hcc243⟩ := Kd.V_get HO_0.out [] x7_1 p243 (by first | exact q243 | exact of_decide_eq_true za | (have e_ := (Kd.V_reads' HO_0.out).1; omega)); obtain ⟨ua243_0, uc243_0, rfl, ul243_0, ge243_0⟩ := Kd.FK_slice_open hMe243; have hv243_0 := hcc243 0 _ rfl; rw [Nat.add_zero, show ((Kd.slice 43 k43)).sz = 1 from rfl, Nat.mul_one] at hv243_0; replace hv243_0 := Option.some.inj (hv243_0.symm.trans hx243_0); injection hv243_0 with hva_ hvn_ hvc_; rw [hva_] at ge243_0; rw [hvc_] at ul243_0; have HL243_0 := aM (show Kd.V k43 43 _ w.heap.size _ _ (rd_L2 l0 x7_1) from Kd.V_mk ul243_0 ge243_0); clear hva_ hvn_ hvc_ ge243_0 ul243_0 hcc243 hce243; have HR243_0 := aM hi243_0; have HC243_0 := aM hl243_0; clear hi243_0 hl243_0; replace p243 := eq_true p243; replace q243 := eq_true q243) | ((with_reducible refine gate_builtin (b := .append) (xs := #[.tmp 35, .tmp 40]) rfl ?_); at_builtin; refine Kd.N_append (Kd.slice 43 k43) (w0 := w) w.heap.size rfl (.tmp 35) (.tmp 40) 22 36 (.slice none 0 0) 24 rfl Try.underlying22 info36 rfl (by decide) (by omega) u5 x5_1 (rd_L2 l0 x7_1) [.slice A243_0 (rd_L2 l0 x7_1).length c243_0] (fun k_ => ((P0_ k_ ∨ P1_ k_) ∨ w.heap.size ≤ k_)) (fun k_ => ((fun k_ => ((P0_ k_ ∨ P1_ k_) ∨ w.heap.size ≤ k_))) k_ ∧ some k_ ≠ (u5 : Value).ownBlock) rfl rfl ?aP (fun _ hk => hk) ?aF ?aO ?aB ?aS ?aL ?_; (case aP => first | exact (Kd.FK_slice_mk (Kd.V_reads' (Kd.V_mono (ok' := (fun k_ => ((fun k_ => ((P0_ k_ ∨ P1_ k_) ∨ w.heap.size ≤ k_))) k_ ∧ some k_ ≠ (u5 : Value).ownBlock)) (Kd.V_drewN HL243_0.out _) (fun k_ hk => ⟨hk.1, hk.2⟩))).2.1 (Kd.V_F (Kd.V_mono (ok' := (fun k_ => ((fun k_ => ((P0_ k_ ∨ P1_ k_) ∨ w.heap.size ≤ k_))) k_ ∧ some k_ ≠ (u5 : Value).ownBlock)) (Kd.V_drewN HL243_0.out _) (fun k_ hk => ⟨hk.1, hk.2⟩)))) | exact (Kd.FK_slice_mk (Kd.V_reads' (Kd.V_mono (ok' := (fun k_ => ((fun k_ => ((P0_ k_ ∨ P1_ k_) ∨ w.heap.size ≤ k_))) k_ ∧ some k_ ≠ (u5 : Value).ownBlock)) (HL243_0.out) (fun k_ hk => ⟨hk.1, hk.2⟩))).2.1 (Kd.V_F (Kd.V_mono (ok' := (fun k_ => ((fun k_ => ((P0_ k_ ∨ P1_ k_) ∨ w.heap.size ≤ k_))) k_ ∧ some k_ ≠ (u5 : Value).ownBlock)) (HL243_0.out) (fun k_ hk => ⟨hk.1, hk.2⟩)))) | exact (Kd.FK_slice_mk (Kd.V_reads' (Kd.V_mono (ok' := (fun k_ => ((fun k_ => ((P0_ k_ ∨ P1_ k_) ∨ w.heap.size ≤ k_))) k_ ∧ some k_ ≠ (u5 : Value).ownBlock)) (Kd.V_alloc (Kd.V_drewN HL243_0.out _) _) (fun k_ hk => ⟨hk.1, hk.2⟩))).2.1 (Kd.V_F (Kd.V_mono (ok' := (fun k_ => ((fun k_ => ((P0_ k_ ∨ P1_ k_) ∨ w.heap.size ≤ k_))) k_ ∧ some k_ ≠ (u5 : Value).ownBlock)) (Kd.V_alloc (Kd.V_drewN HL243_0.out _) _) (fun k_ hk => ⟨hk.1, hk.2⟩)))) | (have h2_ := Kd.V_mono (ok' := (fun k_ => ((fun k_ => ((P0_ k_ ∨ P1_ k_) ∨ w.heap.size ≤ k_))) k_ ∧ some k_ ≠ (u5 : Value).ownBlock)) (Kd.V_drewN HL243_0.out nd) (fun k_ hk => ⟨hk.1, hk.2⟩); exact Kd.FK_slice_mk (Kd.V_reads' h2_).2.1 (Kd.V_F h2_))); (case aB => exact zb); (case aF => exact (fun k_ hk => (.inr (Nat.le_trans (below_size zb) hk)))); (case aO => exact (mN_ HO_5.out)); (case aS => exact (below_size zb)); (case aL => have := LMc12.out; omega); intro v245 w14 ho hb hg hat; rw [← Ny244.out] at ho; have n0_ := aM (Kd.V_afterv (ok := (fun k_ => ((P0_ k_ ∨ P1_ k_) ∨ w.heap.size ≤ k_))) (mV_ HO_0.out) hg hat); have n1_ := aM (Kd.V_afterv (ok := (fun k_ => ((P0_ k_ ∨ P1_ k_) ∨ w.heap.size ≤ k_))) (mV_ HO_1.out) hg hat); have n2_ := aM (Kd.V_afterv (ok := (fun k_ => ((P0_ k_ ∨ P1_ k_) ∨ w.heap.size ≤ k_))) (mV_ HL241_0.out) hg hat); have n3_ := aM (Kd.V_afterv (ok := (fun k_ => ((P0_ k_ ∨ P1_ k_) ∨ w.heap.size ≤ k_))) (mV_ HL243_0.out) hg hat); have n4_ := aM (hb); have n5_ := aM (ho); clear HO_0 HO_1 HL241_0 HL243_0 HB HO_5; have HO_0 := n0_; have HO_1 := n1_; have HL241_0 := n2_; have HL243_0 := n3_; have HB := n4_; have HO246 := n5_; clear n0_ n1_ n2_ n3_ n4_ n5_; clear ho hb hg hat))
    go_roundg k1
    case measure => have := HK1.out; omega
    case rel => exact ⟨(y244), (true), (wrap64 (x7_1 + 1)), zr, zr, H', ⟨by have := HK1.out; omega⟩, ⟨mV_ HO_0.out⟩, ⟨mV_ HO_1.out⟩, ⟨mN_ HO246.out⟩, ⟨zb⟩⟩
   replace c11 := Bool.eq_false_iff.mpr c11
   subst c11
   have H1 : (if x5_1.length < 5864062014805 then ((some (x5_1 ++ [l1] : List (List (S43)))).bind fun y247 => (if y247.length < 5864062014805 then (spec_l03Add.l0 k1 l0 l1 (y247 ++ [rd_L2 l0 x7_1]) true (wrap64 (x7_1 + 1))) else (none))) else (none)) = some r := by rw [if_neg (show ¬ (false = true) by decide)] at H; exact H
   clear H
   have H := H1
   clear H1
   by_cases c15 : x5_1.length < 5864062014805
   rotate_left
   ·rw [if_neg c15] at H
    exact absurd H (by simp)
   rw [if_pos c15] at H
   have LMc15 := aM c15
   clear c15
   obtain ⟨y247, hy247⟩ : ∃ y_ : List (List (S43)), y_ = (x5_1 ++ [l1]) := ⟨_, rfl⟩
   replace H : (if y247.length < 5864062014805 then (spec_l03Add.l0 k1 l0 l1 (y247 ++ [rd_L2 l0 x7_1]) true (wrap64 (x7_1 + 1))) else (none)) = some r := zy H hy247
   have Ny247 := aM hy247
   clear hy247
   by_cases c16 : y247.length < 5864062014805
   rotate_left
   ·rw [if_neg c16] at H
    exact absurd H (by simp)
   rw [if_pos c16] at H
   have LMc16 := aM c16
   clear c16
   obtain ⟨y251, hy251⟩ : ∃ y_ : List (List (S43)), y_ = (y247 ++ [rd_L2 l0 x7_1]) := ⟨_, rfl⟩
   replace H : (spec_l03Add.l0 k1 l0 l1 y251 true (wrap64 (x7_1 + 1))) = some r := zy H hy251
   have Ny251 := aM hy251
   clear hy251
   have H' := aM H
   clear H
   have p241 : 0 ≤ (x7_1 : Int) := of_decide_eq_true za
   have q241 : x7_1 < (l0.length : Int) := of_decide_eq_true za
   obtain ⟨ad241, A241_0, c241_0, e241, hx241_0, hl241_0, hi241_0⟩ := at_L2 (Kd.V_reads' HO_0.out).2.2 x7_1 p241 q241
   cases e241
   obtain ⟨ce241, hce241, hMe241, hcc241⟩ := Kd.V_get HO_0.out [] x7_1 p241 (by first | exact q241 | exact of_decide_eq_true za | (have e_ := (Kd.V_reads' HO_0.out).1; omega))
   obtain ⟨ua241_0, uc241_0, rfl, ul241_0, ge241_0⟩ := Kd.FK_slice_open hMe241
   have hv241_0 := hcc241 0 _ rfl
   rw [Nat.add_zero, show ((Kd.slice 43 k43)).sz = 1 from rfl, Nat.mul_one] at hv241_0
   replace hv241_0 := Option.some.inj (hv241_0.symm.trans hx241_0)
   injection hv241_0 with hva_ hvn_ hvc_
   rw [hva_] at ge241_0
   rw [hvc_] at ul241_0
   have HL241_0 := aM (show Kd.V k43 43 _ w.heap.size _ _ (rd_L2 l0 x7_1) from Kd.V_mk ul241_0 ge241_0)
   clear hva_ hvn_ hvc_ ge241_0 ul241_0
   clear hcc241 hce241
   have HR241_0 := aM hi241_0
   have HC241_0 := aM hl241_0
   clear hi241_0 hl241_0
   replace p241 := eq_true p241
   replace q241 := eq_true q241
   go_wp2_with (first | ((with_reducible refine gate_callee (f := 25) rfl ?_); refine goesL_ (some 21) rfl rfl Try.func25 (by kernel_rfl) rfl #[.slice A1 l1.length c1, .slice A241_0 (rd_L2 l0 x7_1).length c241_0] rfl zm ?_; (with_reducible refine (spec_CompareShapes.calls k1 _ _ l1 _ _ (rd_L2 l0 x7_1) t242 _ ?side1 ?side2 ?side3 ?side4 A7.out).mono ?_); (case side1 => repeat (first | exact (Kd.V_reads' HO_1.out).2.2 | (with_reducible refine Kd.C_alloc ?_ _) | (with_reducible refine Kd.C_drewN ?_ _) | (with_reducible refine Kd.C_drew ?_))); (case side2 => exact (Kd.V_reads' HO_1.out).2.1); (case side3 => repeat (first | exact (mQ_ HR241_0.out) | (with_reducible refine Kd.C_alloc ?_ _) | (with_reducible refine Kd.C_drewN ?_ _) | (with_reducible refine Kd.C_drew ?_))); (case side4 => exact HC241_0.out); rintro e w17 ⟨rfl, hb⟩; refine ⟨_, rfl, ?_⟩; have n0_ := aM (Kd.V_below (mV_ HO_0.out) hb); have n1_ := aM (Kd.V_below (mV_ HO_1.out) hb); have n2_ := aM (Kd.N_below (mN_ HO_5.out) hb); have n3_ := aM (Kd.V_below (mV_ HL241_0.out) hb); have n4_ := aM (Kd.C_below (mQ_ HR241_0.out) hb); have n5_ := aM (below_step zb hb); clear HO_0 HO_1 HO_5 HL241_0 HR241_0 HB; have HO_0 := n0_; have HO_1 := n1_; have HO_5 := n2_; have HL241_0 := n3_; have HR241_0 := n4_; have HB := n5_; clear n0_ n1_ n2_ n3_ n4_ n5_; (try clear hb); (try clear hb2); (try clear hk); (try clear hi)) | ((with_reducible refine gate_builtin (b := .append) (xs := #[.tmp 31, .tmp 33]) rfl ?_); at_builtin; refine Kd.N_append (Kd.slice 43 k43) (w0 := w) w.heap.size rfl (.tmp 31) (.tmp 33) 22 36 (.slice none 0 0) 24 rfl Try.underlying22 info36 rfl (by decide) (by omega) u5 x5_1 l1 [.slice A1 l1.length c1] (fun k_ => ((P0_ k_ ∨ P1_ k_) ∨ w.heap.size ≤ k_)) (fun k_ => ((fun k_ => ((P0_ k_ ∨ P1_ k_) ∨ w.heap.size ≤ k_))) k_ ∧ some k_ ≠ (u5 : Value).ownBlock) rfl rfl ?aP (fun _ hk => hk) ?aF ?aO ?aB ?aS ?aL ?_; (case aP => first | exact (Kd.FK_slice_mk (Kd.V_reads' (Kd.V_mono (ok' := (fun k_ => ((fun k_ => ((P0_ k_ ∨ P1_ k_) ∨ w.heap.size ≤ k_))) k_ ∧ some k_ ≠ (u5 : Value).ownBlock)) (Kd.V_drewN HO_1.out _) (fun k_ hk => ⟨hk.1, hk.2⟩))).2.1 (Kd.V_F (Kd.V_mono (ok' := (fun k_ => ((fun k_ => ((P0_ k_ ∨ P1_ k_) ∨ w.heap.size ≤ k_))) k_ ∧ some k_ ≠ (u5 : Value).ownBlock)) (Kd.V_drewN HO_1.out _) (fun k_ hk => ⟨hk.1, hk.2⟩)))) | exact (Kd.FK_slice_mk (Kd.V_reads' (Kd.V_mono (ok' := (fun k_ => ((fun k_ => ((P0_ k_ ∨ P1_ k_) ∨ w.heap.size ≤ k_))) k_ ∧ some k_ ≠ (u5 : Value).ownBlock)) (HO_1.out) (fun k_ hk => ⟨hk.1, hk.2⟩))).2.1 (Kd.V_F (Kd.V_mono (ok' := (fun k_ => ((fun k_ => ((P0_ k_ ∨ P1_ k_) ∨ w.heap.size ≤ k_))) k_ ∧ some k_ ≠ (u5 : Value).ownBlock)) (HO_1.out) (fun k_ hk => ⟨hk.1, hk.2⟩)))) | exact (Kd.FK_slice_mk (Kd.V_reads' (Kd.V_mono (ok' := (fun k_ => ((fun k_ => ((P0_ k_ ∨ P1_ k_) ∨ w.heap.size ≤ k_))) k_ ∧ some k_ ≠ (u5 : Value).ownBlock)) (Kd.V_alloc (Kd.V_drewN HO_1.out _) _) (fun k_ hk => ⟨hk.1, hk.2⟩))).2.1 (Kd.V_F (Kd.V_mono (ok' := (fun k_ => ((fun k_ => ((P0_ k_ ∨ P1_ k_) ∨ w.heap.size ≤ k_))) k_ ∧ some k_ ≠ (u5 : Value).ownBlock)) (Kd.V_alloc (Kd.V_drewN HO_1.out _) _) (fun k_ hk => ⟨hk.1, hk.2⟩)))) | (have h2_ := Kd.V_mono (ok' := (fun k_ => ((fun k_ => ((P0_ k_ ∨ P1_ k_) ∨ w.heap.size ≤ k_))) k_ ∧ some k_ ≠ (u5 : Value).ownBlock)) (Kd.V_drewN HO_1.out nd) (fun k_ hk => ⟨hk.1, hk.2⟩); exact Kd.FK_slice_mk (Kd.V_reads' h2_).2.1 (Kd.V_F h2_))); (case aB => exact zb); (case aF => exact (fun k_ hk => (.inr (Nat.le_trans (below_size zb) hk)))); (case aO => exact (mN_ HO_5.out)); (case aS => exact (below_size zb)); (case aL => have := LMc15.out; omega); intro v248 w18 ho hb hg hat; rw [← Ny247.out] at ho; have n0_ := aM (Kd.V_afterv (ok := (fun k_ => ((P0_ k_ ∨ P1_ k_) ∨ w.heap.size ≤ k_))) (mV_ HO_0.out) hg hat); have n1_ := aM (Kd.V_afterv (ok := (fun k_ => ((P0_ k_ ∨ P1_ k_) ∨ w.heap.size ≤ k_))) (mV_ HO_1.out) hg hat); have n2_ := aM (Kd.V_afterv (ok := (fun k_ => ((P0_ k_ ∨ P1_ k_) ∨ w.heap.size ≤ k_))) (mV_ HL241_0.out) hg hat); have n3_ := aM (hb); have n4_ := aM (ho); clear HO_0 HO_1 HL241_0 HB HO_5; have HO_0 := n0_; have HO_1 := n1_; have HL241_0 := n2_; have HB := n3_; have HO249 := n4_; clear n0_ n1_ n2_ n3_ n4_ ho hb hg hat; have p250 : 0 ≤ (x7_1 : Int) := of_decide_eq_true za; have q250 : x7_1 < (l0.length : Int) := of_decide_eq_true za; obtain ⟨ad250, A250_0, c250_0, e250, hx250_0, hl250_0, hi250_0⟩ := at_L2 (Kd.V_reads' HO_0.out).2.2 x7_1 p250 q250; obtain rfl : ad241 = ad250 := (by injection e250); obtain ⟨ce250, hce250, hMe250, hcc250⟩ := Kd.V_get HO_0.out [] x7_1 p250 (by first | exact q250 | exact of_decide_eq_true za | (have e_ := (Kd.V_reads' HO_0.out).1; omega)); obtain ⟨ua250_0, uc250_0, rfl, ul250_0, ge250_0⟩ := Kd.FK_slice_open hMe250; have hv250_0 := hcc250 0 _ rfl; rw [Nat.add_zero, show ((Kd.slice 43 k43)).sz = 1 from rfl, Nat.mul_one] at hv250_0; replace hv250_0 := Option.some.inj (hv250_0.symm.trans hx250_0); injection hv250_0 with hva_ hvn_ hvc_; rw [hva_] at ge250_0; rw [hvc_] at ul250_0; have HL250_0 := aM (show Kd.V k43 43 _ w.heap.size _ _ (rd_L2 l0 x7_1) from Kd.V_mk ul250_0 ge250_0); clear hva_ hvn_ hvc_ ge250_0 ul250_0 hcc250 hce250; have HR250_0 := aM hi250_0; have HC250_0 := aM hl250_0; clear hi250_0 hl250_0; replace p250 := eq_true p250; replace q250 := eq_true q250) | ((with_reducible refine gate_builtin (b := .append) (xs := #[.tmp 35, .tmp 40]) rfl ?_); at_builtin; refine Kd.N_append (Kd.slice 43 k43) (w0 := w) w.heap.size rfl (.tmp 35) (.tmp 40) 22 36 (.slice none 0 0) 24 rfl Try.underlying22 info36 rfl (by decide) (by omega) v248 y247 (rd_L2 l0 x7_1) [.slice A250_0 (rd_L2 l0 x7_1).length c250_0] (fun k_ => ((P0_ k_ ∨ P1_ k_) ∨ w.heap.size ≤ k_)) (fun k_ => ((fun k_ => ((P0_ k_ ∨ P1_ k_) ∨ w.heap.size ≤ k_))) k_ ∧ some k_ ≠ (v248 : Value).ownBlock) rfl rfl ?aP (fun _ hk => hk) ?aF ?aO ?aB ?aS ?aL ?_; (case aP => first | exact (Kd.FK_slice_mk (Kd.V_reads' (Kd.V_mono (ok' := (fun k_ => ((fun k_ => ((P0_ k_ ∨ P1_ k_) ∨ w.heap.size ≤ k_))) k_ ∧ some k_ ≠ (v248 : Value).ownBlock)) (Kd.V_drewN HL250_0.out _) (fun k_ hk => ⟨hk.1, hk.2⟩))).2.1 (Kd.V_F (Kd.V_mono (ok' := (fun k_ => ((fun k_ => ((P0_ k_ ∨ P1_ k_) ∨ w.heap.size ≤ k_))) k_ ∧ some k_ ≠ (v248 : Value).ownBlock)) (Kd.V_drewN HL250_0.out _) (fun k_ hk => ⟨hk.1, hk.2⟩)))) | exact (Kd.FK_slice_mk (Kd.V_reads' (Kd.V_mono (ok' := (fun k_ => ((fun k_ => ((P0_ k_ ∨ P1_ k_) ∨ w.heap.size ≤ k_))) k_ ∧ some k_ ≠ (v248 : Value).ownBlock)) (HL250_0.out) (fun k_ hk => ⟨hk.1, hk.2⟩))).2.1 (Kd.V_F (Kd.V_mono (ok' := (fun k_ => ((fun k_ => ((P0_ k_ ∨ P1_ k_) ∨ w.heap.size ≤ k_))) k_ ∧ some k_ ≠ (v248 : Value).ownBlock)) (HL250_0.out) (fun k_ hk => ⟨hk.1, hk.2⟩)))) | exact (Kd.FK_slice_mk (Kd.V_reads' (Kd.V_mono (ok' := (fun k_ => ((fun k_ => ((P0_ k_ ∨ P1_ k_) ∨ w.heap.size ≤ k_))) k_ ∧ some k_ ≠ (v248 : Value).ownBlock)) (Kd.V_alloc (Kd.V_drewN HL250_0.out _) _) (fun k_ hk => ⟨hk.1, hk.2⟩))).2.1 (Kd.V_F (Kd.V_mono (ok' := (fun k_ => ((fun k_ => ((P0_ k_ ∨ P1_ k_) ∨ w.heap.size ≤ k_))) k_ ∧ some k_ ≠ (v248 : Value).ownBlock)) (Kd.V_alloc (Kd.V_drewN HL250_0.out _) _) (fun k_ hk => ⟨hk.1, hk.2⟩)))) | (have h2_ := Kd.V_mono (ok' := (fun k_ => ((fun k_ => ((P0_ k_ ∨ P1_ k_) ∨ w.heap.size ≤ k_))) k_ ∧ some k_ ≠ (v248 : Value).ownBlock)) (Kd.V_drewN HL250_0.out nd) (fun k_ hk => ⟨hk.1, hk.2⟩); exact Kd.FK_slice_mk (Kd.V_reads' h2_).2.1 (Kd.V_F h2_))); (case aB => exact zb); (case aF => exact (fun k_ hk => (.inr (Nat.le_trans (below_size zb) hk)))); (case aO => exact (mN_ HO249.out)); (case aS => exact (below_size zb)); (case aL => have := LMc16.out; omega); intro v252 w19 ho hb hg hat; rw [← Ny251.out] at ho; have n0_ := aM (Kd.V_afterv (ok := (fun k_ => ((P0_ k_ ∨ P1_ k_) ∨ w.heap.size ≤ k_))) (mV_ HO_0.out) hg hat); have n1_ := aM (Kd.V_afterv (ok := (fun k_ => ((P0_ k_ ∨ P1_ k_) ∨ w.heap.size ≤ k_))) (mV_ HO_1.out) hg hat); have n2_ := aM (Kd.V_afterv (ok := (fun k_ => ((P0_ k_ ∨ P1_ k_) ∨ w.heap.size ≤ k_))) (mV_ HL241_0.out) hg hat); have n3_ := aM (Kd.V_afterv (ok := (fun k_ => ((P0_ k_ ∨ P1_ k_) ∨ w.heap.size ≤ k_))) (mV_ HL250_0.out) hg hat); have n4_ := aM (hb); have n5_ := aM (ho); clear HO_0 HO_1 HL241_0 HL250_0 HB HO249; have HO_0 := n0_; have HO_1 := n1_; have HL241_0 := n2_; have HL250_0 := n3_; have HB := n4_; have HO253 := n5_; clear n0_ n1_ n2_ n3_ n4_ n5_; clear ho hb hg hat))
   go_roundg k1
   case measure => have := HK1.out; omega
   case rel => exact ⟨(y251), (true), (wrap64 (x7_1 + 1)), zr, zr, H', ⟨by have := HK1.out; omega⟩, ⟨mV_ HO_0.out⟩, ⟨mV_ HO_1.out⟩, ⟨mN_ HO253.out⟩, ⟨zb⟩⟩
mutual
def spec_l07All.j0 : Nat → Int → Int → List (List (S43)) → Option ((List (List (S43))))
 | 0, _, _, _ => none
 | k + 1, x0, x1, x5 => spec_l07All.l0 k x0 x1 x5 1
def spec_l07All.l0 : Nat → Int → Int → List (List (S43)) → Int → Option ((List (List (S43))))
 | 0, _, _, _, _ => none
 | k + 1, x0, x1, x5, x6 => if x6 < x1 then (spec_l07All.l1 k x0 x1 x5 x6 (([] : List (List (S43)))) 0) else (some x5)
def spec_l07All.l1 : Nat → Int → Int → List (List (S43)) → Int → List (List (S43)) → Int → Option ((List (List (S43))))
 | 0, _, _, _, _, _, _ => none
 | k + 1, x0, x1, x5, x6, x7, x8 => if x8 < (x5.length : Int) then (spec_l07All.l2 k x0 x1 x5 x6 x7 x8 0) else (spec_l07All.l0 k x0 x1 x7 (wrap64 (x6 + 1)))
def spec_l07All.l2 : Nat → Int → Int → List (List (S43)) → Int → List (List (S43)) → Int → Int → Option ((List (List (S43))))
 | 0, _, _, _, _, _, _, _ => none
 | k + 1, x0, x1, x5, x6, x7, x8, x9 => if 0 ≤ x8 then (if x8 < (x5.length : Int) then (if x9 < ((rd_L2 x5 x8).length : Int) then (if 0 ≤ x9 then ((spec_l07Around.f x0 ((rd_T43 (rd_L2 x5 x8) x9).f0) ((rd_T43 (rd_L2 x5 x8) x9).f1)).bind fun t279 => (spec_l07All.l3 k x0 x1 x5 x6 x7 x8 x9 t279 0)) else (none)) else (spec_l07All.l1 k x0 x1 x5 x6 x7 (wrap64 (x8 + 1)))) else (none)) else (none)
def spec_l07All.l3 : Nat → Int → Int → List (List (S43)) → Int → List (List (S43)) → Int → Int → List (S43) → Int → Option ((List (List (S43))))
 | 0, _, _, _, _, _, _, _, _, _ => none
 | k + 1, x0, x1, x5, x6, x7, x8, x9, x10, x11 => if x11 < (x10.length : Int) then (if 0 ≤ x8 then (if x8 < (x5.length : Int) then (if 0 ≤ x11 then ((spec_l02Index.f k (rd_L2 x5 x8) ((rd_T43 x10 x11).f0) ((rd_T43 x10 x11).f1)).bind fun t284 => (if t284 < 0 then ((spec_l02Insert.f k (rd_L2 x5 x8) ((rd_T43 x10 x11).f0) ((rd_T43 x10 x11).f1)).bind fun t287 => ((spec_l07Normal.f k x0 t287).bind fun t290 => ((spec_l03Add.f k x7 t290).bind fun t293 => (spec_l07All.l3 k x0 x1 x5 x6 t293 x8 x9 x10 (wrap64 (x11 + 1)))))) else (spec_l07All.l3 k x0 x1 x5 x6 x7 x8 x9 x10 (wrap64 (x11 + 1))))) else (none)) else (none)) else (none)) else (spec_l07All.l2 k x0 x1 x5 x6 x7 x8 (wrap64 (x9 + 1)))
end
def spec_l07All.f (k : Nat) (a0 : Int) (a1 : Int) : Option ((List (List (S43)))) := if a0 = 0 then (spec_l07All.j0 k a0 a1 (([(([(⟨1, 1⟩ : S43)] : List (S43))), (([(⟨2, 2⟩ : S43)] : List (S43)))] : List (List (S43))))) else (spec_l07All.j0 k a0 a1 (([(([(⟨0, 0⟩ : S43)] : List (S43)))] : List (List (S43)))))
def spec_l07All.T18 : Bool × List (List Nat × List Nat) := (true, [([], []), ([], []), ([0, 1], [0, 1]), ([2], [2]), ([], []), ([], []), ([4, 5], [4, 5]), ([6], [6]), ([3, 7], [3, 7]), ([8], [8])])
def spec_l07All.B18 : List Nat := [0, 0, 3, 7, 0, 0, 48, 112, 255, 511]
theorem spec_l07All.tab18 : rtab .any (opsOf Try.f14 18) = spec_l07All.T18 := by kernel_rfl
theorem spec_l07All.bits18 : waitsOk spec_l07All.T18.2 spec_l07All.B18 = true := by kernel_rfl
def spec_l07All.T19 : Bool × List (List Nat × List Nat) := (true, [([], []), ([], []), ([], []), ([], []), ([2, 3], [2, 3]), ([4], [4]), ([], []), ([], []), ([6, 7], [6, 7]), ([8], [8]), ([5, 9], [5, 9]), ([1, 10, 10], [1, 10]), ([0, 11, 11], [0, 11]), ([12, 12, 0, 1, 2, 3, 4, 5, 6, 7, 8, 9, 10, 11, 12], [0, 12])])
def spec_l07All.B19 : List Nat := [0, 0, 0, 0, 12, 28, 0, 0, 192, 448, 1020, 2046, 4095, 8191]
theorem spec_l07All.tab19 : rtab .any (opsOf Try.f14 19) = spec_l07All.T19 := by kernel_rfl
theorem spec_l07All.bits19 : waitsOk spec_l07All.T19.2 spec_l07All.B19 = true := by kernel_rfl
theorem spec_l07All.calls (k : Nat) (a0 : Int) (a1 : Int) (r : List (List (S43))) (w : World) (h : spec_l07All.f k a0 a1 = some r) :
  Calls Try.prog 14 #[.int .i64 a0, .int .i64 a1] w fun e w' => ∃ v0_ : Value, e = .returned (v0_) ∧ Kd.V (Kd.slice 43 k43) 36 w' w.heap.size (fun k_ => (w.heap.size ≤ k_)) v0_ r ∧ Below w.heap.size w w' := by
 have hu43 := Try.underlying43
 have HB := aM (Below.refl w.heap.size w)
 have H : (if a0 = 0 then (spec_l07All.j0 k a0 a1 (([(([(⟨1, 1⟩ : S43)] : List (S43))), (([(⟨2, 2⟩ : S43)] : List (S43)))] : List (List (S43))))) else (spec_l07All.j0 k a0 a1 (([(([(⟨0, 0⟩ : S43)] : List (S43)))] : List (List (S43)))))) = some r := h
 clear h
 obtain ⟨y258, hy258⟩ : ∃ y_ : List (S43), y_ = (([(⟨0, 0⟩ : S43)] : List (S43))) := ⟨_, rfl⟩
 replace H : (if a0 = 0 then (spec_l07All.j0 k a0 a1 (([(([(⟨1, 1⟩ : S43)] : List (S43))), (([(⟨2, 2⟩ : S43)] : List (S43)))] : List (List (S43))))) else (spec_l07All.j0 k a0 a1 (([y258] : List (List (S43)))))) = some r := zy H hy258
 have Ny258 := aM hy258
 clear hy258
 obtain ⟨y261, hy261⟩ : ∃ y_ : List (List (S43)), y_ = (([y258] : List (List (S43)))) := ⟨_, rfl⟩
 replace H : (if a0 = 0 then (spec_l07All.j0 k a0 a1 (([(([(⟨1, 1⟩ : S43)] : List (S43))), (([(⟨2, 2⟩ : S43)] : List (S43)))] : List (List (S43))))) else (spec_l07All.j0 k a0 a1 y261)) = some r := zy H hy261
 have Ny261 := aM hy261
 clear hy261
 have HC3 := aM H
 clear H
 go_enter Try.func14, Try.ntmps14
 go_upto_if 16 with (first | ((with_reducible refine gate_dst (N := 13) rfl ?_); refine Kd.R_lit k43 _ 43 ?hg (N := 13) ?hd (xs := ([(⟨0, 0⟩ : S43)] : List (S43))) (inner := [.int .i64 0, .int .i64 0]) (ok := fun _ => True) (okp := fun _ => True) ?hr ?hp (fun _ hk => hk) trivial (Below.refl _ _) (Nat.le_refl _) (by simp) ?_; (case hd => rfl); (case hg => rfl); (case hr => first | (go_simp; done) | (go_simp; rfl)); (case hp => exact (Reps.c2 (show Kd.M k43 _ _ _ (⟨0, 0⟩ : S43) [.int .i64 0, .int .i64 0] from (k43_mkM _ _ _ (⟨0, 0⟩ : S43) )) (Reps.none _ _))); intro v259 w4 ho5 hb hg_ hnew_; clear hg_ hnew_; (first | rw [← Ny258.out] at ho5 | (simp only [Int.reduceToNat] at ho5; rw [← Ny258.out] at ho5)); have n0_ := aM (Kd.R_lower (Kd.R_newM (M := fun k_ => (w.heap.size ≤ k_)) ho5 (below_size zb) (fun k_ h_ => h_)) (below_size zb)); have n1_ := aM (below_step zb hb); clear HB; have HO260 := n0_; have HB := n1_; clear n0_ n1_ hb ho5; obtain ⟨Ao6, co6, eo6⟩ := Kd.R_slice HO260.out; subst eo6) | ((with_reducible refine gate_dst (N := 14) rfl ?_); refine Kd.N_lit (Kd.slice 43 k43) _ 36 ?hg (N' := 14) ?hd (xs := ([y258] : List (List (S43)))) (inner := [.slice Ao6 y258.length co6]) (ok := (fun k_ => (w.heap.size ≤ k_))) (okp := (fun k_ => (w.heap.size ≤ k_))) ?hr ?hp (fun _ hk => hk) ((show ∀ k_, w4.heap.size ≤ k_ → (fun k_ => (w.heap.size ≤ k_)) k_ from fun k_ hk => (Nat.le_trans (below_size zb) hk)) _ (Nat.le_refl _)) (Below.refl _ _) (Nat.le_refl _) (by simp) ?_; (case hd => rfl); (case hg => rfl); (case hr => first | (go_simp; done) | (go_simp; rfl)); (case hp => exact (Reps.one (show Kd.FK (Kd.slice 43 k43) _ _ y258 [.slice Ao6 y258.length co6] from (Kd.FK_slice_mk (Kd.R_reads' (Kd.R_mono (ok' := (fun k_ => (w.heap.size ≤ k_))) (HO260.out) (fun k_ hk => hk.1))).2.1 (Kd.R_F (Kd.R_mono (ok' := (fun k_ => (w.heap.size ≤ k_))) (HO260.out) (fun k_ hk => hk.1))))) (Reps.none _ _))); intro v262 w7 ho8 hb hg_ hnew_; clear hg_ hnew_; (first | rw [← Ny261.out] at ho8 | (simp only [Int.reduceToNat] at ho8; rw [← Ny261.out] at ho8)); have n0_ := aM (Kd.N_lower ho8 (below_size zb)); have n1_ := aM (below_step zb hb); clear HB HO260; have HO263 := n0_; have HB := n1_; clear n0_ n1_; clear hb ho8))
 (try simp only [Act.put, xA, xB, xC])
 go_cut [5] (fun v5 wc => ∃ (kq : Nat) (x5_2 : List (List (S43))), Aside0 (spec_l07All.j0 kq a0 a1 x5_2 = some r) ∧ Aside0 (kq ≤ k) ∧ Aside0 (Kd.N (Kd.slice 43 k43) 36 wc w.heap.size (fun k_ => (w.heap.size ≤ k_)) v5 x5_2) ∧ Aside0 (Below w.heap.size w wc))
 case first =>
  have H := HC3.out
  clear HC3
  by_cases c9 : a0 = 0
  rotate_left
  ·rw [if_neg c9] at H
   have c9b0 : (a0 == 0) = false := beq_eq_false_iff_ne.mpr c9
   have c9b1 : (a0 != 0) = true := bne_iff_ne.mpr c9
   (first | rw [c9b0] | (simp only [i64_w, i32_w]; rw [c9b0]) | skip)
   have H' := aM H
   clear H
   go_wp2
   go_meet
   case rel => exact ⟨_, (y261), H', ⟨by first | omega | exact Nat.le_refl _⟩, ⟨mN_ HO263.out⟩, ⟨zb⟩⟩
  rw [if_pos c9] at H
  have c9b0 : (a0 == 0) = true := beq_iff_eq.mpr c9
  have c9b1 : (a0 != 0) = false := bne_eq_false_iff_eq.mpr c9
  clear c9
  (first | rw [c9b0] | (simp only [i64_w, i32_w]; rw [c9b0]) | skip)
  obtain ⟨y264, hy264⟩ : ∃ y_ : List (S43), y_ = (([(⟨1, 1⟩ : S43)] : List (S43))) := ⟨_, rfl⟩
  replace H : (spec_l07All.j0 k a0 a1 (([y264, (([(⟨2, 2⟩ : S43)] : List (S43)))] : List (List (S43))))) = some r := zy H hy264
  have Ny264 := aM hy264
  clear hy264
  obtain ⟨y267, hy267⟩ : ∃ y_ : List (S43), y_ = (([(⟨2, 2⟩ : S43)] : List (S43))) := ⟨_, rfl⟩
  replace H : (spec_l07All.j0 k a0 a1 (([y264, y267] : List (List (S43))))) = some r := zy H hy267
  have Ny267 := aM hy267
  clear hy267
  obtain ⟨y270, hy270⟩ : ∃ y_ : List (List (S43)), y_ = (([y264, y267] : List (List (S43)))) := ⟨_, rfl⟩
  replace H : (spec_l07All.j0 k a0 a1 y270) = some r := zy H hy270
  have Ny270 := aM hy270
  clear hy270
  have H' := aM H
  clear H
  go_wp2_with (first | ((with_reducible refine gate_dst (N := 18) rfl ?_); refine Kd.R_lit k43 _ 43 ?hg (N := 18) ?hd (xs := ([(⟨1, 1⟩ : S43)] : List (S43))) (inner := [.int .i64 1, .int .i64 1]) (ok := fun _ => True) (okp := fun _ => True) ?hr ?hp (fun _ hk => hk) trivial (Below.refl _ _) (Nat.le_refl _) (by simp) ?_; (case hd => rfl); (case hg => rfl); (case hr => first | (go_simp; done) | (go_simp; rfl)); (case hp => exact (Reps.c2 (show Kd.M k43 _ _ _ (⟨1, 1⟩ : S43) [.int .i64 1, .int .i64 1] from (k43_mkM _ _ _ (⟨1, 1⟩ : S43) )) (Reps.none _ _))); intro v265 w10 ho11 hb hg_ hnew_; clear hg_ hnew_; (first | rw [← Ny264.out] at ho11 | (simp only [Int.reduceToNat] at ho11; rw [← Ny264.out] at ho11)); have n0_ := aM (Kd.N_elder' (mN_ HO263.out) (Kd.R_base ho11) hb); have n1_ := aM (Kd.R_lower (Kd.R_newM (M := fun k_ => (w.heap.size ≤ k_)) ho11 (below_size zb) (fun k_ h_ => h_)) (below_size zb)); have n2_ := aM (below_step zb hb); clear HO263 HB; have HO263 := n0_; have HO266 := n1_; have HB := n2_; clear n0_ n1_ n2_; clear hb ho11) | ((with_reducible refine gate_dst (N := 20) rfl ?_); refine Kd.R_lit k43 _ 43 ?hg (N := 20) ?hd (xs := ([(⟨2, 2⟩ : S43)] : List (S43))) (inner := [.int .i64 2, .int .i64 2]) (ok := fun _ => True) (okp := fun _ => True) ?hr ?hp (fun _ hk => hk) trivial (Below.refl _ _) (Nat.le_refl _) (by simp) ?_; (case hd => rfl); (case hg => rfl); (case hr => first | (go_simp; done) | (go_simp; rfl)); (case hp => exact (Reps.c2 (show Kd.M k43 _ _ _ (⟨2, 2⟩ : S43) [.int .i64 2, .int .i64 2] from (k43_mkM _ _ _ (⟨2, 2⟩ : S43) )) (Reps.none _ _))); intro v268 w12 ho13 hb hg_ hnew_; clear hg_ hnew_; (first | rw [← Ny267.out] at ho13 | (simp only [Int.reduceToNat] at ho13; rw [← Ny267.out] at ho13)); have n0_ := aM (Kd.N_elder' (mN_ HO263.out) (Kd.R_base ho13) hb); have n1_ := aM (Kd.R_elder' (mR_ HO266.out) (Kd.R_base ho13) hb); have n2_ := aM (Kd.R_lower (Kd.R_new' (Kd.R_newM (M := fun k_ => (w.heap.size ≤ k_)) ho13 (below_size zb) (fun k_ h_ => h_)) (Kd.R_lt (mR_ HO266.out))) (below_size zb)); have n3_ := aM (below_step zb hb); clear HO263 HO266 HB; have HO263 := n0_; have HO266 := n1_; have HO269 := n2_; have HB := n3_; clear n0_ n1_ n2_ n3_ hb ho13; obtain ⟨Ao14, co14, eo14⟩ := Kd.R_slice HO266.out; subst eo14; obtain ⟨Ao15, co15, eo15⟩ := Kd.R_slice HO269.out; subst eo15) | ((with_reducible refine gate_dst (N := 21) rfl ?_); refine Kd.N_lit (Kd.slice 43 k43) _ 36 ?hg (N' := 21) ?hd (xs := ([y264, y267] : List (List (S43)))) (inner := [.slice Ao14 y264.length co14, .slice Ao15 y267.length co15]) (ok := (fun k_ => (w.heap.size ≤ k_) ∧ some k_ ≠ (v262 : Value).ownBlock)) (okp := (fun k_ => (w.heap.size ≤ k_) ∧ some k_ ≠ (v262 : Value).ownBlock)) ?hr ?hp (fun _ hk => hk) ((show ∀ k_, w12.heap.size ≤ k_ → (fun k_ => (w.heap.size ≤ k_) ∧ some k_ ≠ (v262 : Value).ownBlock) k_ from fun k_ hk => ⟨(Nat.le_trans (below_size zb) hk), Kd.fresh' (Kd.N_lt (mN_ HO263.out)) k_ hk⟩) _ (Nat.le_refl _)) (Below.refl _ _) (Nat.le_refl _) (by simp) ?_; (case hd => rfl); (case hg => rfl); (case hr => first | (go_simp; done) | (go_simp; rfl)); (case hp => exact (Reps.one (show Kd.FK (Kd.slice 43 k43) _ _ y264 [.slice Ao14 y264.length co14] from (Kd.FK_slice_mk (Kd.R_reads' (Kd.R_mono (ok' := (fun k_ => (w.heap.size ≤ k_) ∧ some k_ ≠ (v262 : Value).ownBlock)) (Kd.R_apart' (HO266.out) (Kd.N_typed HO263.out) (by decide)) (fun k_ hk => ⟨hk.1.1.1, hk.2⟩))).2.1 (Kd.R_F (Kd.R_mono (ok' := (fun k_ => (w.heap.size ≤ k_) ∧ some k_ ≠ (v262 : Value).ownBlock)) (Kd.R_apart' (HO266.out) (Kd.N_typed HO263.out) (by decide)) (fun k_ hk => ⟨hk.1.1.1, hk.2⟩))))) (Reps.one (show Kd.FK (Kd.slice 43 k43) _ _ y267 [.slice Ao15 y267.length co15] from (Kd.FK_slice_mk (Kd.R_reads' (Kd.R_mono (ok' := (fun k_ => (w.heap.size ≤ k_) ∧ some k_ ≠ (v262 : Value).ownBlock)) (Kd.R_apart' (HO269.out) (Kd.N_typed HO263.out) (by decide)) (fun k_ hk => ⟨hk.1.1.1, hk.2⟩))).2.1 (Kd.R_F (Kd.R_mono (ok' := (fun k_ => (w.heap.size ≤ k_) ∧ some k_ ≠ (v262 : Value).ownBlock)) (Kd.R_apart' (HO269.out) (Kd.N_typed HO263.out) (by decide)) (fun k_ hk => ⟨hk.1.1.1, hk.2⟩))))) (Reps.none _ _)))); intro v271 w16 ho17 hb hg_ hnew_; clear hg_ hnew_; (first | rw [← Ny270.out] at ho17 | (simp only [Int.reduceToNat] at ho17; rw [← Ny270.out] at ho17)); have n0_ := aM (Kd.N_elder' (mN_ HO263.out) (by first | exact Kd.N_base ho17 | exact Kd.S_base ho17 | exact Kd.R_base ho17) hb); have n1_ := aM (Kd.N_lower ho17 (below_size zb)); have n2_ := aM (below_step zb hb); clear HO263 HB HO266 HO269; have HO263 := n0_; have HO272 := n1_; have HB := n2_; clear n0_ n1_ n2_; clear hb ho17))
  go_meet
  case rel => exact ⟨_, (y270), H', ⟨by first | omega | exact Nat.le_refl _⟩, ⟨zd5 HO272.out⟩, ⟨zb⟩⟩
 case rest =>
  clear HC3
  try clear c1
  try clear c2
  try clear p2
  try clear c9
  try clear c9b0
  try clear c9b1
  try clear c14
  obtain ⟨kq, x5_2, HA, HJ2, HO_5, HB⟩ := hcut
  cases kq with
  | zero => exact absurd HA.out (by simp [spec_l07All.j0])
  | succ kj2 =>
   have H := HA.out
   clear HA
   simp only [spec_l07All.j0] at H
   have H' := aM H
   clear H
   go_wp2
   go_loopg [5, 6] kj2 (fun kq v5 v6 w' => ∃ (x5_2 : List (List (S43))) (x6_2 : Int), v6 = .int .i64 x6_2 ∧ Aside0 (spec_l07All.l0 kq a0 a1 x5_2 x6_2 = some r) ∧ Aside0 (kq ≤ kj2) ∧ Aside0 (Kd.V (Kd.slice 43 k43) 36 w' w.heap.size (fun k_ => (w.heap.size ≤ k_)) v5 x5_2) ∧ Aside0 (Below w.heap.size w w'))
   case atStart => exact ⟨(x5_2), (1), zr, H', ⟨Nat.le_refl _⟩, ⟨Kd.N_V (mN_ HO_5.out)⟩, ⟨zb⟩⟩
   case round =>
    clear H'
    try clear c1
    try clear c2
    try clear p2
    try clear c9
    try clear c9b0
    try clear c9b1
    try clear c14
    try clear p2
    obtain ⟨x5_2, x6_2, rfl, HA, HK2, HO_5, HB⟩ := hrel
    cases gk with
    | zero => exact absurd HA.out (by simp [spec_l07All.l0])
    | succ k2 =>
     have H := HA.out
     clear HA
     simp only [spec_l07All.l0] at H
     by_cases c18 : x6_2 < a1
     rotate_left
     ·rw [if_neg c18] at H
      have c18b0 : decide (x6_2 < a1) = false := decide_eq_false c18
      clear c18
      obtain rfl := Option.some.inj H
      go_wp2
      go_ret
      exact ⟨_, zw, mV_ HO_5.out, zb⟩
     rw [if_pos c18] at H
     have c18b0 : decide (x6_2 < a1) = true := decide_eq_true c18
     clear c18
     obtain ⟨y273, hy273⟩ : ∃ y_ : List (List (S43)), y_ = (([] : List (List (S43)))) := ⟨_, rfl⟩
     replace H : (spec_l07All.l1 k2 a0 a1 x5_2 x6_2 y273 0) = some r := zy H hy273
     have Ny273 := aM hy273
     clear hy273
     have H' := aM H
     clear H
     go_wp2_with (first | ((with_reducible refine gate_dst (N := 27) rfl ?_); refine Kd.N_lit (Kd.slice 43 k43) _ 36 ?hg (N' := 27) ?hd (xs := ([] : List (List (S43)))) (inner := []) (ok := (fun k_ => (w.heap.size ≤ k_))) (okp := (fun k_ => (w.heap.size ≤ k_))) ?hr ?hp (fun _ hk => hk) ((show ∀ k_, wr.heap.size ≤ k_ → (fun k_ => (w.heap.size ≤ k_)) k_ from fun k_ hk => (Nat.le_trans (below_size zb) hk)) _ (Nat.le_refl _)) (Below.refl _ _) (Nat.le_refl _) (by simp) ?_; (case hd => rfl); (case hg => rfl); (case hr => first | (go_simp; done) | (go_simp; rfl)); (case hp => exact (Reps.none _ _)); intro v274 w19 ho20 hb hg_ hnew_; clear hg_ hnew_; (first | rw [← Ny273.out] at ho20 | (simp only [Int.reduceToNat] at ho20; rw [← Ny273.out] at ho20)); have n0_ := aM (Kd.V_elder' (mV_ HO_5.out) (by first | exact Kd.N_base ho20 | exact Kd.S_base ho20 | exact Kd.R_base ho20) hb); have n1_ := aM (Kd.N_lower ho20 (below_size zb)); have n2_ := aM (below_step zb hb); clear HO_5 HB; have HO_5 := n0_; have HO275 := n1_; have HB := n2_; clear n0_ n1_ n2_; clear hb ho20))
     go_loopg [7, 8] k2 (fun kq v7 v8 w' => ∃ (x7_3 : List (List (S43))) (x8_3 : Int), v8 = .int .i64 x8_3 ∧ Aside0 (spec_l07All.l1 kq a0 a1 x5_2 x6_2 x7_3 x8_3 = some r) ∧ Aside0 (kq ≤ k2) ∧ Aside0 (Kd.V (Kd.slice 43 k43) 36 w' w.heap.size (fun k_ => (w.heap.size ≤ k_)) u5 x5_2) ∧ Aside0 (Kd.V (Kd.slice 43 k43) 36 w' w.heap.size (fun k_ => (w.heap.size ≤ k_)) v7 x7_3) ∧ Aside0 (Below w.heap.size w w'))
     case atStart => exact ⟨(y273), (0), zr, H', ⟨Nat.le_refl _⟩, ⟨zd6 HO_5.out⟩, ⟨Kd.N_V (mN_ HO275.out)⟩, ⟨zb⟩⟩
     case round =>
      clear H'
      try clear c1
      try clear c2
      try clear p2
      try clear c9
      try clear c9b0
      try clear c9b1
      try clear c14
      try clear c18
      try clear c18b0
      try clear p2
      obtain ⟨x7_3, x8_3, rfl, HA, HK3, HO_5, HO_7, HB⟩ := hrel
      cases gk with
      | zero => exact absurd HA.out (by simp [spec_l07All.l1])
      | succ k3 =>
       have H := HA.out
       clear HA
       simp only [spec_l07All.l1] at H
       by_cases c21 : x8_3 < (x5_2.length : Int)
       rotate_left
       ·rw [if_neg c21] at H
        have c21b0 : decide (x8_3 < (x5_2.length : Int)) = false := decide_eq_false c21
        clear c21
        have H' := aM H
        clear H
        obtain ⟨Ao52, co52, eo52⟩ := Kd.V_slice HO_5.out
        subst eo52
        go_wp2
        go_roundg k3
        case measure => have := HJ2.out; have := HK2.out; have := HK3.out; omega
        case rel => exact ⟨(x7_3), (wrap64 (x6_2 + 1)), zr, H', ⟨by have := HJ2.out; have := HK2.out; have := HK3.out; omega⟩, ⟨mV_ HO_7.out⟩, ⟨zb⟩⟩
       rw [if_pos c21] at H
       have c21b0 : decide (x8_3 < (x5_2.length : Int)) = true := decide_eq_true c21
       clear c21
       have H' := aM H
       clear H
       obtain ⟨Ao22, co22, eo22⟩ := Kd.V_slice HO_5.out
       subst eo22
       go_wp2
       go_loopg [7, 9] k3 (fun kq v7 v9 w' => ∃ (x7_4 : List (List (S43))) (x9_4 : Int), v9 = .int .i64 x9_4 ∧ Aside0 (spec_l07All.l2 kq a0 a1 x5_2 x6_2 x7_4 x8_3 x9_4 = some r) ∧ Aside0 (kq ≤ k3) ∧ Aside0 (Kd.V (Kd.slice 43 k43) 36 w' w.heap.size (fun k_ => (w.heap.size ≤ k_)) (.slice Ao22 x5_2.length co22) x5_2) ∧ Aside0 (Kd.V (Kd.slice 43 k43) 36 w' w.heap.size (fun k_ => (w.heap.size ≤ k_)) v7 x7_4) ∧ Aside0 (Below w.heap.size w w'))
       case atStart => exact ⟨(x7_3), (0), zr, H', ⟨Nat.le_refl _⟩, ⟨mV_ HO_5.out⟩, ⟨mV_ HO_7.out⟩, ⟨zb⟩⟩
       case round =>
        clear H'
        try clear c1
        try clear c2
        try clear p2
        try clear c9
        try clear c9b0
        try clear c9b1
        try clear c14
        try clear c18
        try clear c18b0
        try clear c21
        try clear c21b0
        try clear p2
        obtain ⟨x7_4, x9_4, rfl, HA, HK4, HO_5, HO_7, HB⟩ := hrel
        cases gk with
        | zero => exact absurd HA.out (by simp [spec_l07All.l2])
        | succ k4 =>
         have H := HA.out
         clear HA
         simp only [spec_l07All.l2] at H
         by_cases c23 : 0 ≤ x8_3
         rotate_left
         ·rw [if_neg c23] at H
          exact absurd H (by simp)
         rw [if_pos c23] at H
         have c23b0 : decide (0 ≤ x8_3) = true := decide_eq_true c23
         clear c23
         by_cases c24 : x8_3 < (x5_2.length : Int)
         rotate_left
         ·rw [if_neg c24] at H
          exact absurd H (by simp)
         rw [if_pos c24] at H
         have c24b0 : decide (x8_3 < (x5_2.length : Int)) = true := decide_eq_true c24
         clear c24
         by_cases c25 : x9_4 < ((rd_L2 x5_2 x8_3).length : Int)
         rotate_left
         ·rw [if_neg c25] at H
          have c25b0 : decide (x9_4 < ((rd_L2 x5_2 x8_3).length : Int)) = false := decide_eq_false c25
          clear c25
          have H' := aM H
          clear H
          have p276 : 0 ≤ (x8_3 : Int) := of_decide_eq_true za
          have q276 : x8_3 < (x5_2.length : Int) := of_decide_eq_true za
          obtain ⟨ad276, A276_0, c276_0, e276, hx276_0, hl276_0, hi276_0⟩ := at_L2 (Kd.V_reads' HO_5.out).2.2 x8_3 p276 q276
          cases e276
          obtain ⟨ce276, hce276, hMe276, hcc276⟩ := Kd.V_get HO_5.out [] x8_3 p276 (by first | exact q276 | exact of_decide_eq_true za | (have e_ := (Kd.V_reads' HO_5.out).1; omega))
          obtain ⟨ua276_0, uc276_0, rfl, ul276_0, ge276_0⟩ := Kd.FK_slice_open hMe276
          have hv276_0 := hcc276 0 _ rfl
          rw [Nat.add_zero, show ((Kd.slice 43 k43)).sz = 1 from rfl, Nat.mul_one] at hv276_0
          replace hv276_0 := Option.some.inj (hv276_0.symm.trans hx276_0)
          injection hv276_0 with hva_ hvn_ hvc_
          rw [hva_] at ge276_0
          rw [hvc_] at ul276_0
          have HL276_0 := aM (show Kd.V k43 43 _ w.heap.size _ _ (rd_L2 x5_2 x8_3) from Kd.V_mk ul276_0 ge276_0)
          clear hva_ hvn_ hvc_ ge276_0 ul276_0
          clear hcc276 hce276
          have HR276_0 := aM hi276_0
          have HC276_0 := aM hl276_0
          clear hi276_0 hl276_0
          replace p276 := eq_true p276
          replace q276 := eq_true q276
          go_wp2
          go_roundg k4
          case measure => have := HJ2.out; have := HK2.out; have := HK3.out; have := HK4.out; omega
          case rel => exact ⟨(x7_4), (wrap64 (x8_3 + 1)), zr, H', ⟨by have := HJ2.out; have := HK2.out; have := HK3.out; have := HK4.out; omega⟩, ⟨mV_ HO_5.out⟩, ⟨mV_ HO_7.out⟩, ⟨zb⟩⟩
         rw [if_pos c25] at H
         have c25b0 : decide (x9_4 < ((rd_L2 x5_2 x8_3).length : Int)) = true := decide_eq_true c25
         clear c25
         by_cases c26 : 0 ≤ x9_4
         rotate_left
         ·rw [if_neg c26] at H
          exact absurd H (by simp)
         rw [if_pos c26] at H
         have c26b0 : decide (0 ≤ x9_4) = true := decide_eq_true c26
         clear c26
         replace H := Option.bind_eq_some_iff.mp H
         obtain ⟨t279, A270, H⟩ := H
         replace H : (spec_l07All.l3 k4 a0 a1 x5_2 x6_2 x7_4 x8_3 x9_4 t279 0) = some r := H
         have A27 := aM A270
         clear A270
         have H' := aM H
         clear H
         have p276 : 0 ≤ (x8_3 : Int) := of_decide_eq_true za
         have q276 : x8_3 < (x5_2.length : Int) := of_decide_eq_true za
         obtain ⟨ad276, A276_0, c276_0, e276, hx276_0, hl276_0, hi276_0⟩ := at_L2 (Kd.V_reads' HO_5.out).2.2 x8_3 p276 q276
         cases e276
         obtain ⟨ce276, hce276, hMe276, hcc276⟩ := Kd.V_get HO_5.out [] x8_3 p276 (by first | exact q276 | exact of_decide_eq_true za | (have e_ := (Kd.V_reads' HO_5.out).1; omega))
         obtain ⟨ua276_0, uc276_0, rfl, ul276_0, ge276_0⟩ := Kd.FK_slice_open hMe276
         have hv276_0 := hcc276 0 _ rfl
         rw [Nat.add_zero, show ((Kd.slice 43 k43)).sz = 1 from rfl, Nat.mul_one] at hv276_0
         replace hv276_0 := Option.some.inj (hv276_0.symm.trans hx276_0)
         injection hv276_0 with hva_ hvn_ hvc_
         rw [hva_] at ge276_0
         rw [hvc_] at ul276_0
         have HL276_0 := aM (show Kd.V k43 43 _ w.heap.size _ _ (rd_L2 x5_2 x8_3) from Kd.V_mk ul276_0 ge276_0)
         clear hva_ hvn_ hvc_ ge276_0 ul276_0
         clear hcc276 hce276
         have HR276_0 := aM hi276_0
         have HC276_0 := aM hl276_0
         clear hi276_0 hl276_0
         replace p276 := eq_true p276
         replace q276 := eq_true q276
         have p277 : 0 ≤ (x8_3 : Int) := of_decide_eq_true za
         have q277 : x8_3 < (x5_2.length : Int) := of_decide_eq_true za
         obtain ⟨ad277, A277_0, c277_0, e277, hx277_0, hl277_0, hi277_0⟩ := at_L2 (Kd.V_reads' HO_5.out).2.2 x8_3 p277 q277
         obtain rfl : ad276 = ad277 := (by injection e277)
         obtain ⟨ce277, hce277, hMe277, hcc277⟩ := Kd.V_get HO_5.out [] x8_3 p277 (by first | exact q277 | exact of_decide_eq_true za | (have e_ := (Kd.V_reads' HO_5.out).1; omega))
         obtain ⟨ua277_0, uc277_0, rfl, ul277_0, ge277_0⟩ := Kd.FK_slice_open hMe277
         have hv277_0 := hcc277 0 _ rfl
         rw [Nat.add_zero, show ((Kd.slice 43 k43)).sz = 1 from rfl, Nat.mul_one] at hv277_0
         replace hv277_0 := Option.some.inj (hv277_0.symm.trans hx277_0)
         injection hv277_0 with hva_ hvn_ hvc_
         rw [hva_] at ge277_0
         rw [hvc_] at ul277_0
         have HL277_0 := aM (show Kd.V k43 43 _ w.heap.size _ _ (rd_L2 x5_2 x8_3) from Kd.V_mk ul277_0 ge277_0)
         clear hva_ hvn_ hvc_ ge277_0 ul277_0
         clear hcc277 hce277
         have HR277_0 := aM hi277_0
         have HC277_0 := aM hl277_0
         clear hi277_0 hl277_0
         replace p277 := eq_true p277
         replace q277 := eq_true q277
         have ea_ := Option.some.inj (hx276_0.symm.trans hx277_0)
         injection ea_ with ea_ en_ ec_
         subst ea_
         subst ec_
         clear en_
         have p278 : 0 ≤ (x9_4 : Int) := of_decide_eq_true za
         have q278 : x9_4 < ((rd_L2 x5_2 x8_3).length : Int) := of_decide_eq_true za
         obtain ⟨ad278, e278, hx278_0, hx278_1⟩ := at_T43 (mQ_ HR277_0.out) x9_4 p278 q278
         cases e278
         replace p278 := eq_true p278
         replace q278 := eq_true q278
         go_wp2_with (first | ((with_reducible refine gate_callee (f := 27) rfl ?_); refine goesL_ (some 51) rfl rfl Try.func27 (by kernel_rfl) rfl #[.int .i64 a0, .agg #[.int .i64 ((rd_T43 (rd_L2 x5_2 x8_3) x9_4).f0), .int .i64 ((rd_T43 (rd_L2 x5_2 x8_3) x9_4).f1)]] rfl zm ?_; (with_reducible refine (spec_l07Around.calls a0 ((rd_T43 (rd_L2 x5_2 x8_3) x9_4).f0) ((rd_T43 (rd_L2 x5_2 x8_3) x9_4).f1) t279 _ A27.out).mono ?_); rintro e w28 ⟨v280, rfl, ho0, hb⟩; refine ⟨_, rfl, ?_⟩; have n0_ := aM (Kd.V_elder' (mV_ HO_5.out) (Kd.R_base ho0) hb); have n1_ := aM (Kd.V_elder' (mV_ HO_7.out) (Kd.R_base ho0) hb); have n2_ := aM (Kd.V_elder' (mV_ HL276_0.out) (Kd.R_base ho0) hb); have n3_ := aM (Kd.V_elder' (mV_ HL277_0.out) (Kd.R_base ho0) hb); have n4_ := aM (Kd.R_lower (Kd.R_newM (M := fun k_ => (w.heap.size ≤ k_)) ho0 (below_size zb) (fun k_ h_ => h_)) (below_size zb)); have n5_ := aM (Kd.C_below (mQ_ HR276_0.out) hb); have n6_ := aM (Kd.C_below (mQ_ HR277_0.out) hb); have n7_ := aM (below_step zb hb); clear HO_5 HO_7 HL276_0 HL277_0 HR276_0 HR277_0 HB; have HO_5 := n0_; have HO_7 := n1_; have HL276_0 := n2_; have HL277_0 := n3_; have HO281 := n4_; have HR276_0 := n5_; have HR277_0 := n6_; have HB := n7_; clear n0_ n1_ n2_ n3_ n4_ n5_ n6_ n7_; (try clear hb); (try clear hb2); (try clear hk); (try clear hi); (try clear ho0)))
         go_loopg [7, 11] k4 (fun kq v7 v11 w' => ∃ (x7_5 : List (List (S43))) (x11_5 : Int), v11 = .int .i64 x11_5 ∧ Aside0 (spec_l07All.l3 kq a0 a1 x5_2 x6_2 x7_5 x8_3 x9_4 t279 x11_5 = some r) ∧ Aside0 (kq ≤ k4) ∧ Aside0 (Kd.V (Kd.slice 43 k43) 36 w' w.heap.size (fun k_ => (w.heap.size ≤ k_) ∧ some k_ ≠ (v280 : Value).ownBlock) (.slice (some ad276) x5_2.length co22) x5_2) ∧ Aside0 (Kd.V (Kd.slice 43 k43) 36 w' w.heap.size (fun k_ => (w.heap.size ≤ k_) ∧ some k_ ≠ (v280 : Value).ownBlock) v7 x7_5) ∧ Aside0 (Kd.R k43 43 w' w.heap.size (fun k_ => (w.heap.size ≤ k_)) v280 t279) ∧ Aside0 (Kd.C k43 w' (some ad278) (rd_L2 x5_2 x8_3).length (rd_L2 x5_2 x8_3)) ∧ Aside0 (Kd.C k43 w' (some ad278) (rd_L2 x5_2 x8_3).length (rd_L2 x5_2 x8_3)) ∧ Aside0 (Below w.heap.size w w'))
         case atStart => exact ⟨(x7_4), (0), zr, H', ⟨Nat.le_refl _⟩, ⟨mV_ HO_5.out⟩, ⟨mV_ HO_7.out⟩, ⟨zd7 HO281.out⟩, ⟨mQ_ HR276_0.out⟩, ⟨mQ_ HR277_0.out⟩, ⟨zb⟩⟩
         case round =>
          clear H'
          try clear c1
          try clear c2
          try clear p2
          try clear q2
          try clear hx2
          try clear c9
          try clear c9b0
          try clear c9b1
          try clear c14
          try clear c18
          try clear c18b0
          try clear c21
          try clear c21b0
          try clear c23
          try clear c23b0
          try clear c24
          try clear c24b0
          try clear c25
          try clear c25b0
          try clear c26
          try clear c26b0
          try clear c27
          try clear p27
          try clear q27
          try clear hx27
          try clear hx276_0
          try clear hx277_0
          try clear hx278_0
          try clear hx278_1
          try clear p2
          try clear p276
          try clear p277
          try clear p278
          try clear q276
          try clear q277
          try clear q278
          obtain ⟨x7_5, x11_5, rfl, HA, HK5, HO_5, HO_7, HO_10, HR276_0, HR277_0, HB⟩ := hrel
          cases gk with
          | zero => exact absurd HA.out (by simp [spec_l07All.l3])
          | succ k5 =>
           have H := HA.out
           clear HA
           simp only [spec_l07All.l3] at H
           by_cases c29 : x11_5 < (t279.length : Int)
           rotate_left
           ·rw [if_neg c29] at H
            have c29b0 : decide (x11_5 < (t279.length : Int)) = false := decide_eq_false c29
            clear c29
            have H' := aM H
            clear H
            obtain ⟨Ao51, co51, eo51⟩ := Kd.R_slice HO_10.out
            subst eo51
            go_wp2
            go_roundg k5
            case measure => have := HJ2.out; have := HK2.out; have := HK3.out; have := HK4.out; have := HK5.out; omega
            case rel => exact ⟨(x7_5), (wrap64 (x9_4 + 1)), zr, H', ⟨by have := HJ2.out; have := HK2.out; have := HK3.out; have := HK4.out; have := HK5.out; omega⟩, ⟨zd6 HO_5.out⟩, ⟨zd6 HO_7.out⟩, ⟨zb⟩⟩
           rw [if_pos c29] at H
           have c29b0 : decide (x11_5 < (t279.length : Int)) = true := decide_eq_true c29
           clear c29
           by_cases c30 : 0 ≤ x8_3
           rotate_left
           ·rw [if_neg c30] at H
            exact absurd H (by simp)
           rw [if_pos c30] at H
           have c30b0 : decide (0 ≤ x8_3) = true := decide_eq_true c30
           clear c30
           by_cases c31 : x8_3 < (x5_2.length : Int)
           rotate_left
           ·rw [if_neg c31] at H
            exact absurd H (by simp)
           rw [if_pos c31] at H
           have c31b0 : decide (x8_3 < (x5_2.length : Int)) = true := decide_eq_true c31
           clear c31
           by_cases c32 : 0 ≤ x11_5
           rotate_left
           ·rw [if_neg c32] at H
            exact absurd H (by simp)
           rw [if_pos c32] at H
           have c32b0 : decide (0 ≤ x11_5) = true := decide_eq_true c32
           clear c32
           replace H := Option.bind_eq_some_iff.mp H
           obtain ⟨t284, A330, H⟩ := H
           replace H : (if t284 < 0 then ((spec_l02Insert.f k5 (rd_L2 x5_2 x8_3) ((rd_T43 t279 x11_5).f0) ((rd_T43 t279 x11_5).f1)).bind fun t287 => ((spec_l07Normal.f k5 a0 t287).bind fun t290 => ((spec_l03Add.f k5 x7_5 t290).bind fun t293 => (spec_l07All.l3 k5 a0 a1 x5_2 x6_2 t293 x8_3 x9_4 t279 (wrap64 (x11_5 + 1)))))) else (spec_l07All.l3 k5 a0 a1 x5_2 x6_2 x7_5 x8_3 x9_4 t279 (wrap64 (x11_5 + 1)))) = some r := H
           have A33 := aM A330
           clear A330
           by_cases c34 : t284 < 0
           rotate_left
           ·rw [if_neg c34] at H
            have c34b0 : decide (t284 < 0) = false := decide_eq_false c34
            clear c34
            have H' := aM H
            clear H
            obtain ⟨Ao48, co48, eo48⟩ := Kd.R_slice HO_10.out
            subst eo48
            try go_wp2
            have n0_ := aM (Kd.V_drew HO_5.out)
            have n1_ := aM (Kd.V_drew HO_7.out)
            have n2_ := aM (Kd.R_drew HO_10.out)
            have n3_ := aM (Kd.C_drew HR276_0.out)
            have n4_ := aM (Kd.C_drew HR277_0.out)
            have n5_ := aM (below_drew1 HB.out)
            clear HO_5
            clear HO_7
            clear HO_10
            clear HR276_0
            clear HR277_0
            clear HB
            have HO_5 := n0_
            have HO_7 := n1_
            have HO_10 := n2_
            have HR276_0 := n3_
            have HR277_0 := n4_
            have HB := n5_
            clear n0_ n1_ n2_ n3_ n4_ n5_
            have p282 : 0 ≤ (x8_3 : Int) := of_decide_eq_true za
            have q282 : x8_3 < (x5_2.length : Int) := of_decide_eq_true za
            obtain ⟨ad282, A282_0, c282_0, e282, hx282_0, hl282_0, hi282_0⟩ := at_L2 (Kd.V_reads' HO_5.out).2.2 x8_3 p282 q282
            obtain rfl : ad276 = ad282 := (by injection e282)
            obtain ⟨ce282, hce282, hMe282, hcc282⟩ := Kd.V_get HO_5.out [] x8_3 p282 (by first | exact q282 | exact of_decide_eq_true za | (have e_ := (Kd.V_reads' HO_5.out).1; omega))
            obtain ⟨ua282_0, uc282_0, rfl, ul282_0, ge282_0⟩ := Kd.FK_slice_open hMe282
            have hv282_0 := hcc282 0 _ rfl
            rw [Nat.add_zero, show ((Kd.slice 43 k43)).sz = 1 from rfl, Nat.mul_one] at hv282_0
            replace hv282_0 := Option.some.inj (hv282_0.symm.trans hx282_0)
            injection hv282_0 with hva_ hvn_ hvc_
            rw [hva_] at ge282_0
            rw [hvc_] at ul282_0
            have HL282_0 := aM (show Kd.V k43 43 _ w.heap.size _ _ (rd_L2 x5_2 x8_3) from Kd.V_mk ul282_0 ge282_0)
            clear hva_ hvn_ hvc_ ge282_0 ul282_0
            clear hcc282 hce282
            have HR282_0 := aM hi282_0
            have HC282_0 := aM hl282_0
            clear hi282_0 hl282_0
            replace p282 := eq_true p282
            replace q282 := eq_true q282
            have p283 : 0 ≤ (x11_5 : Int) := of_decide_eq_true za
            have q283 : x11_5 < (t279.length : Int) := of_decide_eq_true za
            obtain ⟨ad283, e283, hx283_0, hx283_1⟩ := at_T43 (Kd.R_reads' HO_10.out).2.2 x11_5 p283 q283
            cases e283
            replace p283 := eq_true p283
            replace q283 := eq_true q283
            refine start_ (n := 10) (S := fun w' => w'.cell? (ad276.add (x8_3).toNat) = some (.slice A282_0 (rd_L2 x5_2 x8_3).length c282_0) ∧ w'.cell? (ad283.add ((x11_5).toNat * 2)) = some (.int .i64 ((rd_T43 t279 x11_5).f0)) ∧ w'.cell? ⟨(ad283.add ((x11_5).toNat * 2)).block, (ad283.add ((x11_5).toNat * 2)).off + 1, none⟩ = some (.int .i64 ((rd_T43 t279 x11_5).f1))) (ds := []) zA0 (by kernel_rfl) rfl rfl ⟨hx282_0, hx283_0, hx283_1⟩ (fun hHeld => ?_); refine with_tabW spec_l07All.tab18 spec_l07All.bits18 (fun HT_ HW_ => ?_)
            generalize wr.drew = w49 at HO_5 HO_7 HO_10 HR276_0 HR277_0 HB HL282_0 HR282_0 hx282_0 hx283_0 hx283_1 hHeld ⊢
            refine zp 0 (some 58) ?_ zA1 rfl rfl (Or.inl ⟨by rfl, ?_⟩) ?_ ?_ ?_
            rotate_left
            ·intro w'
             go_simp
             with_reducible rfl
            rotate_left
            ·simp only [Act.put, xA, xB, xC, i64_w, i32_w]
             rfl
            refine zp 1 (some 59) ?_ zA2 rfl rfl (Or.inl ⟨by rfl, ?_⟩) ?_ ?_ ?_
            rotate_left
            ·intro w'
             go_simp
             with_reducible rfl
            rotate_left
            ·simp only [Act.put, xA, xB, xC, i64_w, i32_w]
             rfl
            refine zp 2 (some 60) ?_ zA3 rfl rfl (Or.inl ⟨by rfl, ?_⟩) ?_ ?_ ?_
            rotate_left
            ·intro w'
             go_simp
             with_reducible rfl
            rotate_left
            ·simp only [Act.put, xA, xB, xC, i64_w, i32_w]
             rfl
            refine zp 4 (some 62) ?_ zA4 rfl rfl (Or.inl ⟨by rfl, ?_⟩) ?_ ?_ ?_
            rotate_left
            ·intro w'
             go_simp
             with_reducible rfl
            rotate_left
            ·simp only [Act.put, xA, xB, xC, i64_w, i32_w]
             rfl
            refine zp 5 (some 63) ?_ zA5 rfl rfl (Or.inl ⟨by rfl, ?_⟩) ?_ ?_ ?_
            rotate_left
            ·intro w'
             go_simp
             with_reducible rfl
            rotate_left
            ·simp only [Act.put, xA, xB, xC, i64_w, i32_w]
             rfl
            refine zp 6 (some 64) ?_ zA6 rfl rfl (Or.inl ⟨by rfl, ?_⟩) ?_ ?_ ?_
            rotate_left
            ·intro w'
             go_simp
             with_reducible rfl
            rotate_left
            ·simp only [Act.put, xA, xB, xC, i64_w, i32_w]
             rfl
            refine zu 3 (some 61) ?_ zA7 rfl rfl (Or.inl ⟨by rfl, ?_⟩) hHeld ?_ ?_ ?_
            rotate_left
            ·rintro w' ⟨s0, s1, s2⟩
             go_simp
             with_reducible rfl
            rotate_left
            ·simp only [Act.put, xA, xB, xC, i64_w, i32_w]
             rfl
            refine zu 7 (some 65) ?_ zA8 rfl rfl (Or.inl ⟨by rfl, ?_⟩) hHeld ?_ ?_ ?_
            rotate_left
            ·rintro w' ⟨s0, s1, s2⟩
             go_simp
             with_reducible rfl
            rotate_left
            ·simp only [Act.put, xA, xB, xC, i64_w, i32_w]
             rfl
            refine one_ (i := 8) (N := some 66) zA9 rfl rfl (one_of HT_.out (by kernel_rfl)) (by decide) (fun K hK => ?_)
            refine goes_ Try.func28 (by kernel_rfl) rfl #[.slice A282_0 (rd_L2 x5_2 x8_3).length c282_0, .agg #[.int .i64 ((rd_T43 t279 x11_5).f0), .int .i64 ((rd_T43 t279 x11_5).f1)]] (by rfl) rfl rfl zm ?_
            with_reducible refine (spec_l02Index.calls k5 _ _ (rd_L2 x5_2 x8_3) ((rd_T43 t279 x11_5).f0) ((rd_T43 t279 x11_5).f1) t284 _ ?side1 ?side2 A33.out).mono ?_
            (case side1 => repeat (first | exact (mQ_ HR282_0.out) | (with_reducible refine Kd.C_alloc ?_ _) | (with_reducible refine Kd.C_drewN ?_ _) | (with_reducible refine Kd.C_drew ?_)))
            (case side2 => exact HC282_0.out)
            rintro e w50 ⟨rfl, hb⟩
            have HS0_ := zk hb (hHeld.1)
            have HS1_ := zk hb (hHeld.2.1)
            have HS2_ := zk hb (hHeld.2.2)
            refine ⟨_, rfl, ?_⟩
            have n0_ := aM (Kd.V_below (mV_ HO_5.out) hb)
            have n1_ := aM (Kd.V_below (mV_ HO_7.out) hb)
            have n2_ := aM (Kd.R_below (mR_ HO_10.out) hb)
            have n3_ := aM (Kd.V_below (mV_ HL282_0.out) hb)
            have n4_ := aM (Kd.C_below (mQ_ HR276_0.out) hb)
            have n5_ := aM (Kd.C_below (mQ_ HR277_0.out) hb)
            have n6_ := aM (Kd.C_below (mQ_ HR282_0.out) hb)
            have n7_ := aM (below_step zb hb)
            clear HO_5
            clear HO_7
            clear HO_10
            clear HL282_0
            clear HR276_0
            clear HR277_0
            clear HR282_0
            clear HB
            have HO_5 := n0_
            have HO_7 := n1_
            have HO_10 := n2_
            have HL282_0 := n3_
            have HR276_0 := n4_
            have HR277_0 := n5_
            have HR282_0 := n6_
            have HB := n7_
            clear n0_ n1_ n2_ n3_ n4_ n5_ n6_ n7_
            (try clear hb)
            (try clear hb2)
            (try clear hk)
            (try clear hi)
            refine hK.out _ _ ⟨HS0_, HS1_, HS2_⟩ (fun hHeld => ?_)
            clear hK K
            refine norm_ (a' := ?_) ?_ ?_
            rotate_left
            ·show Act.put _ (some 66) _ = _
             simp only [Act.put, xA, xB, xC, i64_w, i32_w]
             rfl
            refine zp 9 (some 67) ?_ zA10 rfl rfl (Or.inl ⟨by rfl, ?_⟩) ?_ ?_ ?_
            rotate_left
            ·intro w'
             go_simp
             with_reducible rfl
            rotate_left
            ·simp only [Act.put, xA, xB, xC, i64_w, i32_w]
             rfl
            refine done_ (done_of HT_.out (by kernel_rfl)) ?_
            try go_wp2
            go_roundg k5
            case measure => have := HJ2.out; have := HK2.out; have := HK3.out; have := HK4.out; have := HK5.out; omega
            case rel => exact ⟨(x7_5), (wrap64 (x11_5 + 1)), zr, H', ⟨by have := HJ2.out; have := HK2.out; have := HK3.out; have := HK4.out; have := HK5.out; omega⟩, ⟨mV_ HO_5.out⟩, ⟨mV_ HO_7.out⟩, ⟨mR_ HO_10.out⟩, ⟨mQ_ HR276_0.out⟩, ⟨mQ_ HR277_0.out⟩, ⟨zb⟩⟩
           rw [if_pos c34] at H
           have c34b0 : decide (t284 < 0) = true := decide_eq_true c34
           clear c34
           replace H := Option.bind_eq_some_iff.mp H
           obtain ⟨t287, A350, H⟩ := H
           replace H : ((spec_l07Normal.f k5 a0 t287).bind fun t290 => ((spec_l03Add.f k5 x7_5 t290).bind fun t293 => (spec_l07All.l3 k5 a0 a1 x5_2 x6_2 t293 x8_3 x9_4 t279 (wrap64 (x11_5 + 1))))) = some r := H
           have A35 := aM A350
           clear A350
           replace H := Option.bind_eq_some_iff.mp H
           obtain ⟨t290, A360, H⟩ := H
           replace H : ((spec_l03Add.f k5 x7_5 t290).bind fun t293 => (spec_l07All.l3 k5 a0 a1 x5_2 x6_2 t293 x8_3 x9_4 t279 (wrap64 (x11_5 + 1)))) = some r := H
           have A36 := aM A360
           clear A360
           replace H := Option.bind_eq_some_iff.mp H
           obtain ⟨t293, A370, H⟩ := H
           replace H : (spec_l07All.l3 k5 a0 a1 x5_2 x6_2 t293 x8_3 x9_4 t279 (wrap64 (x11_5 + 1))) = some r := H
           have A37 := aM A370
           clear A370
           have H' := aM H
           clear H
           obtain ⟨Ao38, co38, eo38⟩ := Kd.R_slice HO_10.out
           subst eo38
           try go_wp2
           have n0_ := aM (Kd.V_drew HO_5.out)
           have n1_ := aM (Kd.V_drew HO_7.out)
           have n2_ := aM (Kd.R_drew HO_10.out)
           have n3_ := aM (Kd.C_drew HR276_0.out)
           have n4_ := aM (Kd.C_drew HR277_0.out)
           have n5_ := aM (below_drew1 HB.out)
           clear HO_5
           clear HO_7
           clear HO_10
           clear HR276_0
           clear HR277_0
           clear HB
           have HO_5 := n0_
           have HO_7 := n1_
           have HO_10 := n2_
           have HR276_0 := n3_
           have HR277_0 := n4_
           have HB := n5_
           clear n0_ n1_ n2_ n3_ n4_ n5_
           have p282 : 0 ≤ (x8_3 : Int) := of_decide_eq_true za
           have q282 : x8_3 < (x5_2.length : Int) := of_decide_eq_true za
           obtain ⟨ad282, A282_0, c282_0, e282, hx282_0, hl282_0, hi282_0⟩ := at_L2 (Kd.V_reads' HO_5.out).2.2 x8_3 p282 q282
           obtain rfl : ad276 = ad282 := (by injection e282)
           obtain ⟨ce282, hce282, hMe282, hcc282⟩ := Kd.V_get HO_5.out [] x8_3 p282 (by first | exact q282 | exact of_decide_eq_true za | (have e_ := (Kd.V_reads' HO_5.out).1; omega))
           obtain ⟨ua282_0, uc282_0, rfl, ul282_0, ge282_0⟩ := Kd.FK_slice_open hMe282
           have hv282_0 := hcc282 0 _ rfl
           rw [Nat.add_zero, show ((Kd.slice 43 k43)).sz = 1 from rfl, Nat.mul_one] at hv282_0
           replace hv282_0 := Option.some.inj (hv282_0.symm.trans hx282_0)
           injection hv282_0 with hva_ hvn_ hvc_
           rw [hva_] at ge282_0
           rw [hvc_] at ul282_0
           have HL282_0 := aM (show Kd.V k43 43 _ w.heap.size _ _ (rd_L2 x5_2 x8_3) from Kd.V_mk ul282_0 ge282_0)
           clear hva_ hvn_ hvc_ ge282_0 ul282_0
           clear hcc282 hce282
           have HR282_0 := aM hi282_0
           have HC282_0 := aM hl282_0
           clear hi282_0 hl282_0
           replace p282 := eq_true p282
           replace q282 := eq_true q282
           have p283 : 0 ≤ (x11_5 : Int) := of_decide_eq_true za
           have q283 : x11_5 < (t279.length : Int) := of_decide_eq_true za
           obtain ⟨ad283, e283, hx283_0, hx283_1⟩ := at_T43 (Kd.R_reads' HO_10.out).2.2 x11_5 p283 q283
           cases e283
           replace p283 := eq_true p283
           replace q283 := eq_true q283
           refine start_ (n := 10) (S := fun w' => w'.cell? (ad276.add (x8_3).toNat) = some (.slice A282_0 (rd_L2 x5_2 x8_3).length c282_0) ∧ w'.cell? (ad283.add ((x11_5).toNat * 2)) = some (.int .i64 ((rd_T43 t279 x11_5).f0)) ∧ w'.cell? ⟨(ad283.add ((x11_5).toNat * 2)).block, (ad283.add ((x11_5).toNat * 2)).off + 1, none⟩ = some (.int .i64 ((rd_T43 t279 x11_5).f1))) (ds := []) zA0 (by kernel_rfl) rfl rfl ⟨hx282_0, hx283_0, hx283_1⟩ (fun hHeld => ?_); refine with_tabW spec_l07All.tab18 spec_l07All.bits18 (fun HT_ HW_ => ?_)
           generalize wr.drew = w39 at HO_5 HO_7 HO_10 HR276_0 HR277_0 HB HL282_0 HR282_0 hx282_0 hx283_0 hx283_1 hHeld ⊢
           refine zp 0 (some 58) ?_ zA1 rfl rfl (Or.inl ⟨by rfl, ?_⟩) ?_ ?_ ?_
           rotate_left
           ·intro w'
            go_simp
            with_reducible rfl
           rotate_left
           ·simp only [Act.put, xA, xB, xC, i64_w, i32_w]
            rfl
           refine zp 1 (some 59) ?_ zA2 rfl rfl (Or.inl ⟨by rfl, ?_⟩) ?_ ?_ ?_
           rotate_left
           ·intro w'
            go_simp
            with_reducible rfl
           rotate_left
           ·simp only [Act.put, xA, xB, xC, i64_w, i32_w]
            rfl
           refine zp 2 (some 60) ?_ zA3 rfl rfl (Or.inl ⟨by rfl, ?_⟩) ?_ ?_ ?_
           rotate_left
           ·intro w'
            go_simp
            with_reducible rfl
           rotate_left
           ·simp only [Act.put, xA, xB, xC, i64_w, i32_w]
            rfl
           refine zp 4 (some 62) ?_ zA4 rfl rfl (Or.inl ⟨by rfl, ?_⟩) ?_ ?_ ?_
           rotate_left
           ·intro w'
            go_simp
            with_reducible rfl
           rotate_left
           ·simp only [Act.put, xA, xB, xC, i64_w, i32_w]
            rfl
           refine zp 5 (some 63) ?_ zA5 rfl rfl (Or.inl ⟨by rfl, ?_⟩) ?_ ?_ ?_
           rotate_left
           ·intro w'
            go_simp
            with_reducible rfl
           rotate_left
           ·simp only [Act.put, xA, xB, xC, i64_w, i32_w]
            rfl
           refine zp 6 (some 64) ?_ zA6 rfl rfl (Or.inl ⟨by rfl, ?_⟩) ?_ ?_ ?_
           rotate_left
           ·intro w'
            go_simp
            with_reducible rfl
           rotate_left
           ·simp only [Act.put, xA, xB, xC, i64_w, i32_w]
            rfl
           refine zu 3 (some 61) ?_ zA7 rfl rfl (Or.inl ⟨by rfl, ?_⟩) hHeld ?_ ?_ ?_
           rotate_left
           ·rintro w' ⟨s0, s1, s2⟩
            go_simp
            with_reducible rfl
           rotate_left
           ·simp only [Act.put, xA, xB, xC, i64_w, i32_w]
            rfl
           refine zu 7 (some 65) ?_ zA8 rfl rfl (Or.inl ⟨by rfl, ?_⟩) hHeld ?_ ?_ ?_
           rotate_left
           ·rintro w' ⟨s0, s1, s2⟩
            go_simp
            with_reducible rfl
           rotate_left
           ·simp only [Act.put, xA, xB, xC, i64_w, i32_w]
            rfl
           refine one_ (i := 8) (N := some 66) zA9 rfl rfl (one_of HT_.out (by kernel_rfl)) (by decide) (fun K hK => ?_)
           refine goes_ Try.func28 (by kernel_rfl) rfl #[.slice A282_0 (rd_L2 x5_2 x8_3).length c282_0, .agg #[.int .i64 ((rd_T43 t279 x11_5).f0), .int .i64 ((rd_T43 t279 x11_5).f1)]] (by rfl) rfl rfl zm ?_
           with_reducible refine (spec_l02Index.calls k5 _ _ (rd_L2 x5_2 x8_3) ((rd_T43 t279 x11_5).f0) ((rd_T43 t279 x11_5).f1) t284 _ ?side1 ?side2 A33.out).mono ?_
           (case side1 => repeat (first | exact (mQ_ HR282_0.out) | (with_reducible refine Kd.C_alloc ?_ _) | (with_reducible refine Kd.C_drewN ?_ _) | (with_reducible refine Kd.C_drew ?_)))
           (case side2 => exact HC282_0.out)
           rintro e w40 ⟨rfl, hb⟩
           have HS0_ := zk hb (hHeld.1)
           have HS1_ := zk hb (hHeld.2.1)
           have HS2_ := zk hb (hHeld.2.2)
           refine ⟨_, rfl, ?_⟩
           have n0_ := aM (Kd.V_below (mV_ HO_5.out) hb)
           have n1_ := aM (Kd.V_below (mV_ HO_7.out) hb)
           have n2_ := aM (Kd.R_below (mR_ HO_10.out) hb)
           have n3_ := aM (Kd.V_below (mV_ HL282_0.out) hb)
           have n4_ := aM (Kd.C_below (mQ_ HR276_0.out) hb)
           have n5_ := aM (Kd.C_below (mQ_ HR277_0.out) hb)
           have n6_ := aM (Kd.C_below (mQ_ HR282_0.out) hb)
           have n7_ := aM (below_step zb hb)
           clear HO_5
           clear HO_7
           clear HO_10
           clear HL282_0
           clear HR276_0
           clear HR277_0
           clear HR282_0
           clear HB
           have HO_5 := n0_
           have HO_7 := n1_
           have HO_10 := n2_
           have HL282_0 := n3_
           have HR276_0 := n4_
           have HR277_0 := n5_
           have HR282_0 := n6_
           have HB := n7_
           clear n0_ n1_ n2_ n3_ n4_ n5_ n6_ n7_
           (try clear hb)
           (try clear hb2)
           (try clear hk)
           (try clear hi)
           refine hK.out _ _ ⟨HS0_, HS1_, HS2_⟩ (fun hHeld => ?_)
           clear hK K
           refine norm_ (a' := ?_) ?_ ?_
           rotate_left
           ·show Act.put _ (some 66) _ = _
            simp only [Act.put, xA, xB, xC, i64_w, i32_w]
            rfl
           refine zp 9 (some 67) ?_ zA10 rfl rfl (Or.inl ⟨by rfl, ?_⟩) ?_ ?_ ?_
           rotate_left
           ·intro w'
            go_simp
            with_reducible rfl
           rotate_left
           ·simp only [Act.put, xA, xB, xC, i64_w, i32_w]
            rfl
           refine done_ (done_of HT_.out (by kernel_rfl)) ?_
           try go_wp2
           have n0_ := aM (Kd.V_drew HO_5.out)
           have n1_ := aM (Kd.V_drew HO_7.out)
           have n2_ := aM (Kd.R_drew HO_10.out)
           have n3_ := aM (Kd.V_drew HL282_0.out)
           have n4_ := aM (Kd.C_drew HR276_0.out)
           have n5_ := aM (Kd.C_drew HR277_0.out)
           have n6_ := aM (Kd.C_drew HR282_0.out)
           have n7_ := aM (below_drew1 HB.out)
           clear HO_5
           clear HO_7
           clear HO_10
           clear HL282_0
           clear HR276_0
           clear HR277_0
           clear HR282_0
           clear HB
           have HO_5 := n0_
           have HO_7 := n1_
           have HO_10 := n2_
           have HL282_0 := n3_
           have HR276_0 := n4_
           have HR277_0 := n5_
           have HR282_0 := n6_
           have HB := n7_
           clear n0_ n1_ n2_ n3_ n4_ n5_ n6_ n7_
           have p285 : 0 ≤ (x8_3 : Int) := of_decide_eq_true za
           have q285 : x8_3 < (x5_2.length : Int) := of_decide_eq_true za
           obtain ⟨ad285, A285_0, c285_0, e285, hx285_0, hl285_0, hi285_0⟩ := at_L2 (Kd.V_reads' HO_5.out).2.2 x8_3 p285 q285
           obtain rfl : ad276 = ad285 := (by injection e285)
           obtain ⟨ce285, hce285, hMe285, hcc285⟩ := Kd.V_get HO_5.out [] x8_3 p285 (by first | exact q285 | exact of_decide_eq_true za | (have e_ := (Kd.V_reads' HO_5.out).1; omega))
           obtain ⟨ua285_0, uc285_0, rfl, ul285_0, ge285_0⟩ := Kd.FK_slice_open hMe285
           have hv285_0 := hcc285 0 _ rfl
           rw [Nat.add_zero, show ((Kd.slice 43 k43)).sz = 1 from rfl, Nat.mul_one] at hv285_0
           replace hv285_0 := Option.some.inj (hv285_0.symm.trans hx285_0)
           injection hv285_0 with hva_ hvn_ hvc_
           rw [hva_] at ge285_0
           rw [hvc_] at ul285_0
           have HL285_0 := aM (show Kd.V k43 43 _ w.heap.size _ _ (rd_L2 x5_2 x8_3) from Kd.V_mk ul285_0 ge285_0)
           clear hva_ hvn_ hvc_ ge285_0 ul285_0
           clear hcc285 hce285
           have HR285_0 := aM hi285_0
           have HC285_0 := aM hl285_0
           clear hi285_0 hl285_0
           replace p285 := eq_true p285
           replace q285 := eq_true q285
           have p286 : 0 ≤ (x11_5 : Int) := of_decide_eq_true za
           have q286 : x11_5 < (t279.length : Int) := of_decide_eq_true za
           obtain ⟨ad286, e286, hx286_0, hx286_1⟩ := at_T43 (Kd.R_reads' HO_10.out).2.2 x11_5 p286 q286
           obtain rfl : ad283 = ad286 := (by injection e286)
           replace p286 := eq_true p286
           replace q286 := eq_true q286
           refine start_ (n := 14) (S := fun w' => w'.cell? (ad276.add (x8_3).toNat) = some (.slice A285_0 (rd_L2 x5_2 x8_3).length c285_0) ∧ w'.cell? (ad283.add ((x11_5).toNat * 2)) = some (.int .i64 ((rd_T43 t279 x11_5).f0)) ∧ w'.cell? ⟨(ad283.add ((x11_5).toNat * 2)).block, (ad283.add ((x11_5).toNat * 2)).off + 1, none⟩ = some (.int .i64 ((rd_T43 t279 x11_5).f1))) (ds := []) zA66 (by kernel_rfl) rfl rfl ⟨hx285_0, hx286_0, hx286_1⟩ (fun hHeld => ?_); refine with_tabW spec_l07All.tab19 spec_l07All.bits19 (fun HT_ HW_ => ?_)
           generalize w40.drew = w41 at HO_5 HO_7 HO_10 HL282_0 HR276_0 HR277_0 HR282_0 HB HL285_0 HR285_0 hx285_0 hx286_0 hx286_1 hHeld ⊢
           refine zp 0 (some 68) ?_ zA67 rfl rfl (Or.inl ⟨by rfl, ?_⟩) ?_ ?_ ?_
           rotate_left
           ·intro w'
            go_simp
            with_reducible rfl
           rotate_left
           ·simp only [Act.put, xA, xB, xC, i64_w, i32_w]
            rfl
           refine zp 1 (some 69) ?_ zA68 rfl rfl (Or.inl ⟨by rfl, ?_⟩) ?_ ?_ ?_
           rotate_left
           ·intro w'
            go_simp
            with_reducible rfl
           rotate_left
           ·simp only [Act.put, xA, xB, xC, i64_w, i32_w]
            rfl
           refine zp 2 (some 70) ?_ zA69 rfl rfl (Or.inl ⟨by rfl, ?_⟩) ?_ ?_ ?_
           rotate_left
           ·intro w'
            go_simp
            with_reducible rfl
           rotate_left
           ·simp only [Act.put, xA, xB, xC, i64_w, i32_w]
            rfl
           refine zp 3 (some 71) ?_ zA70 rfl rfl (Or.inl ⟨by rfl, ?_⟩) ?_ ?_ ?_
           rotate_left
           ·intro w'
            go_simp
            with_reducible rfl
           rotate_left
           ·simp only [Act.put, xA, xB, xC, i64_w, i32_w]
            rfl
           refine zp 4 (some 72) ?_ zA71 rfl rfl (Or.inl ⟨by rfl, ?_⟩) ?_ ?_ ?_
           rotate_left
           ·intro w'
            go_simp
            with_reducible rfl
           rotate_left
           ·simp only [Act.put, xA, xB, xC, i64_w, i32_w]
            rfl
           refine zp 6 (some 74) ?_ zA72 rfl rfl (Or.inl ⟨by rfl, ?_⟩) ?_ ?_ ?_
           rotate_left
           ·intro w'
            go_simp
            with_reducible rfl
           rotate_left
           ·simp only [Act.put, xA, xB, xC, i64_w, i32_w]
            rfl
           refine zp 7 (some 75) ?_ zA73 rfl rfl (Or.inl ⟨by rfl, ?_⟩) ?_ ?_ ?_
           rotate_left
           ·intro w'
            go_simp
            with_reducible rfl
           rotate_left
           ·simp only [Act.put, xA, xB, xC, i64_w, i32_w]
            rfl
           refine zp 8 (some 76) ?_ zA74 rfl rfl (Or.inl ⟨by rfl, ?_⟩) ?_ ?_ ?_
           rotate_left
           ·intro w'
            go_simp
            with_reducible rfl
           rotate_left
           ·simp only [Act.put, xA, xB, xC, i64_w, i32_w]
            rfl
           refine zu 5 (some 73) ?_ zA75 rfl rfl (Or.inl ⟨by rfl, ?_⟩) hHeld ?_ ?_ ?_
           rotate_left
           ·rintro w' ⟨s0, s1, s2⟩
            go_simp
            with_reducible rfl
           rotate_left
           ·simp only [Act.put, xA, xB, xC, i64_w, i32_w]
            rfl
           refine zu 9 (some 77) ?_ zA76 rfl rfl (Or.inl ⟨by rfl, ?_⟩) hHeld ?_ ?_ ?_
           rotate_left
           ·rintro w' ⟨s0, s1, s2⟩
            go_simp
            with_reducible rfl
           rotate_left
           ·simp only [Act.put, xA, xB, xC, i64_w, i32_w]
            rfl
           refine one_ (i := 10) (N := some 78) zA77 rfl rfl (one_of HT_.out (by kernel_rfl)) (by decide) (fun K hK => ?_)
           refine goes_ Try.func31 (by kernel_rfl) rfl #[.slice A285_0 (rd_L2 x5_2 x8_3).length c285_0, .agg #[.int .i64 ((rd_T43 t279 x11_5).f0), .int .i64 ((rd_T43 t279 x11_5).f1)]] (by rfl) rfl rfl zm ?_
           with_reducible refine (spec_l02Insert.calls k5 _ _ (rd_L2 x5_2 x8_3) ((rd_T43 t279 x11_5).f0) ((rd_T43 t279 x11_5).f1) t287 _ ?side1 ?side2 A35.out).mono ?_
           (case side1 => repeat (first | exact (mQ_ HR285_0.out) | (with_reducible refine Kd.C_alloc ?_ _) | (with_reducible refine Kd.C_drewN ?_ _) | (with_reducible refine Kd.C_drew ?_)))
           (case side2 => exact HC285_0.out)
           rintro e w42 ⟨v288, rfl, ho0, hb⟩
           have HS0_ := zk hb (hHeld.1)
           have HS1_ := zk hb (hHeld.2.1)
           have HS2_ := zk hb (hHeld.2.2)
           refine ⟨_, rfl, ?_⟩
           have n0_ := aM (Kd.V_elder' (mV_ HO_5.out) (Kd.R_base ho0) hb)
           have n1_ := aM (Kd.V_elder' (mV_ HO_7.out) (Kd.R_base ho0) hb)
           have n2_ := aM (Kd.R_elder' (mR_ HO_10.out) (Kd.R_base ho0) hb)
           have n3_ := aM (Kd.V_elder' (mV_ HL282_0.out) (Kd.R_base ho0) hb)
           have n4_ := aM (Kd.V_elder' (mV_ HL285_0.out) (Kd.R_base ho0) hb)
           have n5_ := aM (Kd.R_lower (Kd.R_new' (Kd.R_newM (M := fun k_ => (w.heap.size ≤ k_)) ho0 (below_size zb) (fun k_ h_ => h_)) (Kd.R_lt (mR_ HO_10.out))) (below_size zb))
           have n6_ := aM (Kd.C_below (mQ_ HR276_0.out) hb)
           have n7_ := aM (Kd.C_below (mQ_ HR277_0.out) hb)
           have n8_ := aM (Kd.C_below (mQ_ HR282_0.out) hb)
           have n9_ := aM (Kd.C_below (mQ_ HR285_0.out) hb)
           have n10_ := aM (below_step zb hb)
           clear HO_5
           clear HO_7
           clear HO_10
           clear HL282_0
           clear HL285_0
           clear HR276_0
           clear HR277_0
           clear HR282_0
           clear HR285_0
           clear HB
           have HO_5 := n0_
           have HO_7 := n1_
           have HO_10 := n2_
           have HL282_0 := n3_
           have HL285_0 := n4_
           have HO289 := n5_
           have HR276_0 := n6_
           have HR277_0 := n7_
           have HR282_0 := n8_
           have HR285_0 := n9_
           have HB := n10_
           clear n0_ n1_ n2_ n3_ n4_ n5_ n6_ n7_ n8_ n9_ n10_
           (try clear hb)
           (try clear hb2)
           (try clear hk)
           (try clear hi)
           (try clear ho0)
           obtain ⟨Ao43, co43, eo43⟩ := Kd.R_slice HO289.out
           (first | subst eo43 | (injection eo43 with f1_ f2_ f3_; have f4_ := f1_.symm; have f5_ := f3_.symm; clear f1_ f2_ f3_; subst f4_; subst f5_))
           refine hK.out _ _ ⟨HS0_, HS1_, HS2_⟩ (fun hHeld => ?_)
           clear hK K
           refine norm_ (a' := ?_) ?_ ?_
           rotate_left
           ·show Act.put _ (some 78) _ = _
            simp only [Act.put, xA, xB, xC, i64_w, i32_w]
            rfl
           refine one_ (i := 11) (N := some 79) zA78 rfl rfl (one_of HT_.out (by kernel_rfl)) (by decide) (fun K hK => ?_)
           refine goes_ Try.func30 (by kernel_rfl) rfl #[.int .i64 a0, .slice Ao43 t287.length co43] (by rfl) rfl rfl zm ?_
           with_reducible refine (spec_l07Normal.calls k5 a0 _ _ t287 t290 _ ?side1 ?side2 A36.out).mono ?_
           (case side1 => exact zc HO289.out)
           (case side2 => exact (Kd.R_reads' HO289.out).2.1)
           rintro e w44 ⟨v291, rfl, ho0, hb⟩
           have HS0_ := zk hb (hHeld.1)
           have HS1_ := zk hb (hHeld.2.1)
           have HS2_ := zk hb (hHeld.2.2)
           refine ⟨_, rfl, ?_⟩
           have n0_ := aM (Kd.V_elder' (mV_ HO_5.out) (Kd.R_base ho0) hb)
           have n1_ := aM (Kd.V_elder' (mV_ HO_7.out) (Kd.R_base ho0) hb)
           have n2_ := aM (Kd.R_elder' (mR_ HO_10.out) (Kd.R_base ho0) hb)
           have n3_ := aM (Kd.V_elder' (mV_ HL282_0.out) (Kd.R_base ho0) hb)
           have n4_ := aM (Kd.V_elder' (mV_ HL285_0.out) (Kd.R_base ho0) hb)
           have n5_ := aM (Kd.R_elder' (mR_ HO289.out) (Kd.R_base ho0) hb)
           have n6_ := aM (Kd.R_lower (Kd.R_new' (Kd.R_new' (Kd.R_newM (M := fun k_ => (w.heap.size ≤ k_)) ho0 (below_size zb) (fun k_ h_ => h_)) (Kd.R_lt (mR_ HO_10.out))) (Kd.R_lt (mR_ HO289.out))) (below_size zb))
           have n7_ := aM (Kd.C_below (mQ_ HR276_0.out) hb)
           have n8_ := aM (Kd.C_below (mQ_ HR277_0.out) hb)
           have n9_ := aM (Kd.C_below (mQ_ HR282_0.out) hb)
           have n10_ := aM (Kd.C_below (mQ_ HR285_0.out) hb)
           have n11_ := aM (below_step zb hb)
           clear HO_5
           clear HO_7
           clear HO_10
           clear HL282_0
           clear HL285_0
           clear HO289
           clear HR276_0
           clear HR277_0
           clear HR282_0
           clear HR285_0
           clear HB
           have HO_5 := n0_
           have HO_7 := n1_
           have HO_10 := n2_
           have HL282_0 := n3_
           have HL285_0 := n4_
           have HO289 := n5_
           have HO292 := n6_
           have HR276_0 := n7_
           have HR277_0 := n8_
           have HR282_0 := n9_
           have HR285_0 := n10_
           have HB := n11_
           clear n0_ n1_ n2_ n3_ n4_ n5_ n6_ n7_ n8_ n9_ n10_ n11_
           (try clear hb)
           (try clear hb2)
           (try clear hk)
           (try clear hi)
           (try clear ho0)
           obtain ⟨Ao45, co45, eo45⟩ := Kd.V_slice HO_7.out
           (first | subst eo45 | (injection eo45 with f1_ f2_ f3_; have f4_ := f1_.symm; have f5_ := f3_.symm; clear f1_ f2_ f3_; subst f4_; subst f5_))
           obtain ⟨Ao46, co46, eo46⟩ := Kd.R_slice HO292.out
           (first | subst eo46 | (injection eo46 with f1_ f2_ f3_; have f4_ := f1_.symm; have f5_ := f3_.symm; clear f1_ f2_ f3_; subst f4_; subst f5_))
           refine hK.out _ _ ⟨HS0_, HS1_, HS2_⟩ (fun hHeld => ?_)
           clear hK K
           refine norm_ (a' := ?_) ?_ ?_
           rotate_left
           ·show Act.put _ (some 79) _ = _
            simp only [Act.put, xA, xB, xC, i64_w, i32_w]
            rfl
           refine one_ (i := 12) (N := some 80) zA79 rfl rfl (one_of HT_.out (by kernel_rfl)) (by decide) (fun K hK => ?_)
           refine goes_ Try.func29 (by kernel_rfl) rfl #[.slice Ao45 x7_5.length co45, .slice Ao46 t290.length co46] (by rfl) rfl rfl zm ?_
           with_reducible refine (spec_l03Add.calls k5 (fun k_ => ((((w.heap.size ≤ k_) ∧ some k_ ≠ (.slice (some ad283) t279.length co38 : Value).ownBlock) ∧ some k_ ≠ (.slice Ao43 t287.length co43 : Value).ownBlock) ∧ some k_ ≠ (.slice Ao46 t290.length co46 : Value).ownBlock)) _ _ x7_5 (fun k_ => some k_ = (.slice Ao46 t290.length co46 : Value).ownBlock) _ _ t290 t293 _ ?side1 ?side2 A37.out).mono ?_
           (case side1 => exact HO_7.out)
           (case side2 => exact Kd.R_V (Kd.R_tight rfl (HO292.out)))
           rintro e w47 ⟨v294, rfl, ho0, hb⟩
           have HS0_ := zk hb (hHeld.1)
           have HS1_ := zk hb (hHeld.2.1)
           have HS2_ := zk hb (hHeld.2.2)
           refine ⟨_, rfl, ?_⟩
           have n0_ := aM (Kd.V_below (mV_ HO_5.out) hb)
           have n1_ := aM (Kd.V_below (mV_ HO_7.out) hb)
           have n2_ := aM (Kd.R_below (mR_ HO_10.out) hb)
           have n3_ := aM (Kd.V_below (mV_ HL282_0.out) hb)
           have n4_ := aM (Kd.V_below (mV_ HL285_0.out) hb)
           have n5_ := aM (Kd.R_below (mR_ HO289.out) hb)
           have n6_ := aM (Kd.R_below (mR_ HO292.out) hb)
           have n7_ := aM (Kd.V_lower (Kd.V_mono (ok' := fun k_ => (w.heap.size ≤ k_) ∧ some k_ ≠ (.slice (some ad283) t279.length co38 : Value).ownBlock ∧ some k_ ≠ (.slice Ao43 t287.length co43 : Value).ownBlock) ho0 (fun k_ hk_ => ⟨Or.elim hk_ (fun hs_ => Or.elim hs_ (fun hs_ => hs_.1.1.1) (fun hs_ => ((HO292.out).1 k_ hs_.symm).1.1.1)) (fun hn_ => (Nat.le_trans (below_size zb) hn_)), Or.elim hk_ (fun hs_ => Or.elim hs_ (fun hs_ => hs_.1.1.2) (fun hs_ => ((HO292.out).1 k_ hs_.symm).1.2)) (fun hn_ => (Kd.fresh' (Kd.R_lt (mR_ HO_10.out)) k_ hn_)), Or.elim hk_ (fun hs_ => Or.elim hs_ (fun hs_ => hs_.1.2) (fun hs_ => ((HO292.out).1 k_ hs_.symm).2)) (fun hn_ => (Kd.fresh' (Kd.R_lt (mR_ HO289.out)) k_ hn_))⟩)) (below_size zb))
           have n8_ := aM (Kd.C_below (mQ_ HR276_0.out) hb)
           have n9_ := aM (Kd.C_below (mQ_ HR277_0.out) hb)
           have n10_ := aM (Kd.C_below (mQ_ HR282_0.out) hb)
           have n11_ := aM (Kd.C_below (mQ_ HR285_0.out) hb)
           have n12_ := aM (below_step zb hb)
           clear HO_5
           clear HO_7
           clear HO_10
           clear HL282_0
           clear HL285_0
           clear HO289
           clear HO292
           clear HR276_0
           clear HR277_0
           clear HR282_0
           clear HR285_0
           clear HB
           have HO_5 := n0_
           have HO_7 := n1_
           have HO_10 := n2_
           have HL282_0 := n3_
           have HL285_0 := n4_
           have HO289 := n5_
           have HO292 := n6_
           have HO295 := n7_
           have HR276_0 := n8_
           have HR277_0 := n9_
           have HR282_0 := n10_
           have HR285_0 := n11_
           have HB := n12_
           clear n0_ n1_ n2_ n3_ n4_ n5_ n6_ n7_ n8_ n9_ n10_ n11_ n12_
           (try clear hb)
           (try clear hb2)
           (try clear hk)
           (try clear hi)
           (try clear ho0)
           refine hK.out _ _ ⟨HS0_, HS1_, HS2_⟩ (fun hHeld => ?_)
           clear hK K
           refine norm_ (a' := ?_) ?_ ?_
           rotate_left
           ·show Act.put _ (some 80) _ = _
            simp only [Act.put, xA, xB, xC, i64_w, i32_w]
            rfl
           refine zp 13 (some 7) ?_ zA80 rfl rfl (Or.inl ⟨by rfl, ?_⟩) ?_ ?_ ?_
           rotate_left
           ·intro w'
            go_simp
            with_reducible rfl
           rotate_left
           ·simp only [Act.put, xA, xB, xC, i64_w, i32_w]
            rfl
           refine done_ (done_of HT_.out (by kernel_rfl)) ?_
           try go_wp2
           go_roundg k5
           case measure => have := HJ2.out; have := HK2.out; have := HK3.out; have := HK4.out; have := HK5.out; omega
           case rel => exact ⟨(t293), (wrap64 (x11_5 + 1)), zr, H', ⟨by have := HJ2.out; have := HK2.out; have := HK3.out; have := HK4.out; have := HK5.out; omega⟩, ⟨zd9 HO_5.out⟩, ⟨zd10 HO295.out⟩, ⟨zd8 HO_10.out⟩, ⟨mQ_ HR276_0.out⟩, ⟨mQ_ HR277_0.out⟩, ⟨zb⟩⟩
end Go.Proofs.Ytibbjiehblpmfaa.F
end
section
namespace Go.Proofs.Ytibbjiehblpmfaa.F
open Go.RowKit Go.Proofs.YtibbjiehblpmfaaW.PrintWords Go.Proofs.YtibbjiehblpmfaaW.PrintLast Go.Proofs.YtibbjiehblpmfaaW.PrintMore
attribute [local go_sem] max2_int min2_int max_two min_two max_three min_three max_four min_four
set_option linter.unusedVariables false
set_option linter.unusedSimpArgs false
attribute [local go_sem high] eqA43
def sortS_lays_ren : Go.Shelf.Ren := ⟨fun | 6 => 64 | 15 => 73 | 14 => 72 | 28 => 85 | 29 => 86 | 20 => 77 | 21 => 78 | 22 => 79 | 23 => 80 | 24 => 81 | 25 => 82 | 26 => 83 | 27 => 84 | 46 => 95 | 47 => 96 | 48 => 97 | 49 => 98 | 50 => 99 | 57 => 103 | n => n, fun | 22 => 22 | 24 => 36 | 25 => 68 | 3 => 3 | 39 => 78 | 0 => 0 | 53 => 90 | 55 => 92 | 4 => 4 | 46 => 83 | 45 => 82 | 50 => 87 | 5 => 5 | 9 => 9 | 66 => 98 | 70 => 102 | 76 => 106 | 77 => 107 | n => n, fun n => n⟩
theorem sortS_lays : SlLaysF.n6 Try.prog sortS_lays_ren where
  mixed := by kernel_rfl
  f6 := ⟨Try.f64.name, by kernel_rfl, Try.func64.trans (congrArg some (by kernel_rfl))⟩
  f14 := ⟨Try.f72.name, by kernel_rfl, Try.func72.trans (congrArg some (by kernel_rfl))⟩
  f15 := Try.func73.trans (congrArg some (by kernel_rfl))
  f20 := ⟨Try.f77.name, by kernel_rfl, Try.func77.trans (congrArg some (by kernel_rfl))⟩
  f21 := ⟨Try.f78.name, by kernel_rfl, Try.func78.trans (congrArg some (by kernel_rfl))⟩
  f22 := ⟨Try.f79.name, by kernel_rfl, Try.func79.trans (congrArg some (by kernel_rfl))⟩
  f23 := ⟨Try.f80.name, by kernel_rfl, Try.func80.trans (congrArg some (by kernel_rfl))⟩
  f24 := ⟨Try.f81.name, by kernel_rfl, Try.func81.trans (congrArg some (by kernel_rfl))⟩
  f25 := ⟨Try.f82.name, by kernel_rfl, Try.func82.trans (congrArg some (by kernel_rfl))⟩
  f26 := ⟨Try.f83.name, by kernel_rfl, Try.func83.trans (congrArg some (by kernel_rfl))⟩
  f27 := ⟨Try.f84.name, by kernel_rfl, Try.func84.trans (congrArg some (by kernel_rfl))⟩
  f28 := Try.func85.trans (congrArg some (by kernel_rfl))
  f29 := Try.func86.trans (congrArg some (by kernel_rfl))
  f46 := ⟨Try.f95.name, by kernel_rfl, Try.func95.trans (congrArg some (by kernel_rfl))⟩
  f47 := Try.func96.trans (congrArg some (by kernel_rfl))
  f48 := Try.func97.trans (congrArg some (by kernel_rfl))
  f49 := ⟨Try.f98.name, by kernel_rfl, Try.func98.trans (congrArg some (by kernel_rfl))⟩
  f50 := ⟨Try.f99.name, by kernel_rfl, Try.func99.trans (congrArg some (by kernel_rfl))⟩
  f57 := ⟨Try.f103.name, by kernel_rfl, Try.func103.trans (congrArg some (by kernel_rfl))⟩
  t0 := Try.underlying0
  a0 := Try.isAgg0
  z0 := Try.sizeOf0
  v0 := Try.zeroValue0
  t3 := Try.underlying3
  a3 := Try.isAgg3
  z3 := Try.sizeOf3
  v3 := Try.zeroValue3
  t4 := Try.underlying4
  a4 := Try.isAgg4
  z4 := Try.sizeOf4
  v4 := Try.zeroValue4
  t5 := Try.underlying5
  a5 := Try.isAgg5
  z5 := Try.sizeOf5
  v5 := Try.zeroValue5
  t9 := Try.underlying9
  a9 := Try.isAgg9
  z9 := Try.sizeOf9
  v9 := Try.zeroValue9
  t22 := Try.underlying22
  a22 := Try.isAgg22
  z22 := Try.sizeOf22
  v22 := Try.zeroValue22
  a24 := Try.isAgg36
  z24 := Try.sizeOf36
  t25 := Try.underlying68
  a25 := Try.isAgg68
  z25 := Try.sizeOf68
  v25 := Try.zeroValue68
  t39 := Try.underlying78
  a39 := Try.isAgg78
  z39 := Try.sizeOf78
  v39 := Try.zeroValue78
  t45 := Try.underlying82
  a45 := Try.isAgg82
  z45 := Try.sizeOf82
  v45 := Try.zeroValue82
  t46 := Try.underlying83
  a46 := Try.isAgg83
  z46 := Try.sizeOf83
  v46 := Try.zeroValue83
  t50 := Try.underlying87
  a50 := Try.isAgg87
  z50 := Try.sizeOf87
  v50 := Try.zeroValue87
  t53 := Try.underlying90
  a53 := Try.isAgg90
  z53 := Try.sizeOf90
  v53 := Try.zeroValue90
  t55 := Try.underlying92
  a55 := Try.isAgg92
  z55 := Try.sizeOf92
  v55 := Try.zeroValue92
  t66 := Try.underlying98
  a66 := Try.isAgg98
  z66 := Try.sizeOf98
  v66 := Try.zeroValue98
  t70 := Try.underlying102
  a70 := Try.isAgg102
  z70 := Try.sizeOf102
  v70 := Try.zeroValue102
  t76 := Try.underlying106
  a76 := Try.isAgg106
  z76 := Try.sizeOf106
  v76 := Try.zeroValue106
  t77 := Try.underlying107
  a77 := Try.isAgg107
  z77 := Try.sizeOf107
  v77 := Try.zeroValue107
open Go.Sort
def ordL : List S43 → List S43 → Int
  | [], _ => 0
  | _ :: _, [] => 0
  | a :: r, b :: s => if cmpV a b = 0 then ordL r s else cmpV a b
def ordS (a b : List S43) : Int := if a.length = b.length then ordL a b else if a.length < b.length then -1 else 1
theorem cI_self (a : Int) : cI a a = 0 := by unfold cI; simp
theorem cI_anti (a b : Int) : cI b a = -cI a b := by unfold cI; repeat' split
                                                     all_goals omega
theorem cmpV_self (x : S43) : cmpV x x = 0 := by unfold cmpV; simp [cI_self]
theorem cmpV_anti (x y : S43) : cmpV y x = -cmpV x y := by
  unfold cmpV
  have h0 := cI_anti x.f0 y.f0
  have h1 := cI_anti x.f1 y.f1
  try have h2 := cI_anti x.f2 y.f2
  repeat' split
  all_goals omega
theorem lt_iff (x y : S43) : ltOf cmpV x y = false ↔ 0 ≤ cmpV x y := by
  unfold ltOf
  rw [decide_eq_false_iff_not]
  omega
theorem cmpV_zero {x y : S43} (h : cmpV x y = 0) : x = y := antiV x y ((lt_iff x y).2 (by omega)) ((lt_iff y x).2 (by rw [cmpV_anti]; omega))
theorem cmpV_trans {x y z : S43} (h1 : cmpV x y ≤ 0) (h2 : cmpV y z ≤ 0) : cmpV x z ≤ 0 := by
  have h := (lt_iff z x).1 (swoV.ntrans z y x ((lt_iff z y).2 (by rw [cmpV_anti]; omega)) ((lt_iff y x).2 (by rw [cmpV_anti]; omega)))
  rw [cmpV_anti] at h
  omega
theorem ordL_self : ∀ a : List S43, ordL a a = 0
  | [] => rfl
  | a :: r => by unfold ordL; rw [cmpV_self, if_pos rfl, ordL_self r]
theorem ordL_anti : ∀ a b : List S43, a.length = b.length → ordL b a = -ordL a b
  | [], [], _ => rfl
  | [], b :: s, h => by simp at h
  | a :: r, [], h => by simp at h
  | a :: r, b :: s, h => by
    unfold ordL
    have ih := ordL_anti r s (by simpa using h)
    have hc := cmpV_anti a b
    by_cases e : cmpV a b = 0
    · rw [if_pos e, if_pos (by omega)]; exact ih
    · rw [if_neg e, if_neg (by omega)]; exact hc
theorem ordL_zero : ∀ a b : List S43, a.length = b.length → ordL a b = 0 → a = b
  | [], [], _, _ => rfl
  | [], b :: s, h, _ => by simp at h
  | a :: r, [], h, _ => by simp at h
  | a :: r, b :: s, h, h0 => by
    unfold ordL at h0
    by_cases e : cmpV a b = 0
    · rw [if_pos e] at h0
      rw [cmpV_zero e, ordL_zero r s (by simpa using h) h0]
    · rw [if_neg e] at h0
      exact absurd h0 e
theorem ordL_trans : ∀ a b c : List S43, a.length = b.length → b.length = c.length → ordL a b ≤ 0 → ordL b c ≤ 0 → ordL a c ≤ 0
  | [], _, _, _, _, _, _ => by unfold ordL; omega
  | a :: r, [], _, h, _, _, _ => by simp at h
  | a :: r, b :: s, [], _, h, _, _ => by simp at h
  | a :: r, b :: s, c :: t, h1, h2, h3, h4 => by
    unfold ordL at h3 h4 ⊢
    have hab := cmpV_anti a b
    have hbc := cmpV_anti b c
    have hac := cmpV_anti a c
    by_cases e1 : cmpV a b = 0
    · obtain rfl := cmpV_zero e1
      rw [if_pos e1] at h3
      by_cases e2 : cmpV a c = 0
      · rw [if_pos e2] at h4 ⊢
        exact ordL_trans r s t (by simpa using h1) (by simpa using h2) h3 h4
      · rw [if_neg e2] at h4 ⊢
        exact h4
    · rw [if_neg e1] at h3
      by_cases e2 : cmpV b c = 0
      · obtain rfl := cmpV_zero e2
        rw [if_neg e1]
        exact h3
      · rw [if_neg e2] at h4
        have h5 := cmpV_trans h3 h4
        by_cases e3 : cmpV a c = 0
        · obtain rfl := cmpV_zero e3
          omega
        · rw [if_neg e3]
          exact h5
theorem ordS_self (a : List S43) : ordS a a = 0 := by unfold ordS; rw [if_pos rfl, ordL_self]
theorem ordS_anti (a b : List S43) : ordS b a = -ordS a b := by
  unfold ordS
  by_cases e : a.length = b.length
  · rw [if_pos e, if_pos e.symm, ordL_anti a b e]
  · rw [if_neg e, if_neg (fun x => e x.symm)]
    repeat' split
    all_goals omega
theorem ordS_zero {a b : List S43} (h : ordS a b = 0) : a = b := by
  unfold ordS at h
  by_cases e : a.length = b.length
  · rw [if_pos e] at h; exact ordL_zero a b e h
  · rw [if_neg e] at h
    split at h <;> omega
theorem ordS_trans {a b c : List S43} (h1 : ordS a b ≤ 0) (h2 : ordS b c ≤ 0) : ordS a c ≤ 0 := by
  unfold ordS at h1 h2 ⊢
  by_cases e1 : a.length = b.length
  · rw [if_pos e1] at h1
    by_cases e2 : b.length = c.length
    · rw [if_pos e2] at h2
      rw [if_pos (e1.trans e2)]
      exact ordL_trans a b c e1 e2 h1 h2
    · rw [if_neg e2] at h2
      rw [if_neg (by omega)]
      split at h2 <;> split <;> omega
  · rw [if_neg e1] at h1
    by_cases e2 : b.length = c.length
    · rw [if_neg (by omega)]
      split at h1 <;> split <;> omega
    · rw [if_neg e2] at h2
      split at h1
      · split at h2
        · rw [if_neg (by omega), if_pos (by omega)]; omega
        · omega
      · omega
theorem ltS_iff (x y : List S43) : ltOf ordS x y = false ↔ 0 ≤ ordS x y := by
  unfold ltOf
  rw [decide_eq_false_iff_not]
  omega
theorem swoS : SWO (ltOf ordS) where
  irrefl x := by rw [ltS_iff, ordS_self]; omega
  trans x y z h1 h2 := by
    unfold ltOf at *
    rw [decide_eq_true_eq] at *
    have h3 := ordS_trans (a := x) (b := y) (c := z) (by omega) (by omega)
    by_cases e : ordS x z = 0
    · have := ordS_zero e
      subst this
      have := ordS_anti x y
      omega
    · omega
  ntrans x y z h1 h2 := by
    rw [ltS_iff] at *
    have h3 := ordS_trans (a := z) (b := y) (c := x) (by rw [ordS_anti]; omega) (by rw [ordS_anti]; omega)
    rw [ordS_anti] at h3
    omega
theorem antiS (x y : List S43) (h1 : ltOf ordS x y = false) (h2 : ltOf ordS y x = false) : x = y := by
  rw [ltS_iff] at *
  rw [ordS_anti] at h2
  exact ordS_zero (by omega)
def sortS (l : List (List S43)) : List (List S43) := l.mergeSort fun x y => !ltOf ordS y x
structure El (W0 : World) (ok : Nat → Prop) where
  v : Value
  l : List S43
  j : Nat
  has : Kd.FK (Kd.slice 43 k43) W0 ok l [v]
theorem FK_nil0 (W0 : World) (ok : Nat → Prop) : Kd.FK (Kd.slice 43 k43) W0 ok [] [.slice none 0 0] := fun W' _ => ⟨none, 0, rfl, Nat.le_refl _, Kd.C_nil _ _⟩
instance instEl (W0 : World) (ok : Nat → Prop) : Inhabited (El W0 ok) := ⟨⟨.slice none 0 0, [], 0, FK_nil0 _ _⟩⟩
section
variable {W0 w W : World} {ok : Nat → Prop} {base g cap n m : Nat} {os : Array Obj}
theorem El.one (x : El W0 ok) : x.v.oneCell' = true := (Kd.slice 43 k43).K_one (Kd.FK_now x.has) x.v (by simp)
def Same (W0 w : World) (ok : Nat → Prop) : Prop := ∀ k, ok k → k < W0.heap.size → w.heap[k]? = W0.heap[k]?
theorem Same.refl (w : World) (ok : Nat → Prop) : Same w w ok := fun _ _ _ => rfl
theorem Same.grown (h : Same W0 w ok) (hg : w.grownBy W (some g)) (hok : ¬ ok g) : Same W0 W ok := fun k hk hlt =>
  (hg.block k (heap_lt (h k hk hlt) hlt) (fun e => hok (by injection e with e; exact e ▸ hk))).trans (h k hk hlt)
theorem El.now (x : El W0 ok) (h : Same W0 w ok) : ∃ A c, x.v = .slice A x.l.length c ∧ x.l.length ≤ c ∧ Kd.C k43 w A x.l.length x.l := by
  obtain ⟨A, c, e, h1, h2⟩ := Kd.FK_now (Kd.FK_step x.has h)
  exact ⟨A, c, by simpa using e, h1, h2⟩
def cfE (x y : El W0 ok) : Int := ordS x.l y.l
theorem swoE : SWO (ltOf (cfE (W0 := W0) (ok := ok))) where
  irrefl x := swoS.irrefl x.l
  trans x y z := swoS.trans x.l y.l z.l
  ntrans x y z := swoS.ntrans x.l y.l z.l
theorem sortW1_grown {α : Type} [Inhabited α] (enc : α → Value) (w : World) (g n : Nat) (d : Array α) (os : Array Obj) : w.grownBy (sortWorld enc w g 0 n d os) (some g) := by
  refine ⟨rfl, rfl, rfl, ?_, fun k hk hne => ?_⟩
  · show w.heap.size ≤ ((w.heap.modify g _) ++ os).size
    simp
  · show ((w.heap.modify g _) ++ os)[k]? = w.heap[k]?
    rw [Array.getElem?_append_left (by simpa using hk), Array.getElem?_modify, if_neg]
    intro e
    exact hne (by rw [e])
theorem sortW1_heap {α : Type} [Inhabited α] (enc : α → Value) (w : World) (g n : Nat) (d : Array α) (os : Array Obj) {cur : Array Value} {e : TypeId} {fr : Nat × Nat} (h : w.heap[g]? = some (.cells cur e fr)) : (sortWorld enc w g 0 n d os).heap[g]? = some (.cells (Go.Sort.putCells enc 0 d cur) e fr) := by
  have hlt : g < w.heap.size := (Array.getElem?_eq_some_iff.1 h).1
  show ((w.heap.modify g _) ++ os)[g]? = _
  rw [Array.getElem?_append_left (by simpa using hlt), Array.getElem?_modify, if_pos rfl, h]
  rfl
theorem putCells1_take {α : Type} [Inhabited α] (enc : α → Value) (d : Array α) (cur : Array Value) (h : d.size ≤ cur.size) : (Go.Sort.putCells enc 0 d cur).toList.take d.size = d.toList.map enc := by
  apply List.ext_getElem?
  intro i
  by_cases hi : i < d.size
  · rw [List.getElem?_take_of_lt hi]
    simp only [Go.Sort.putCells, Array.getElem?_toList, Array.getElem?_mapIdx, List.getElem?_map]
    rw [Array.getElem?_eq_getElem (show i < cur.size by omega), Array.getElem?_eq_getElem hi, Option.map_some, Option.map_some, if_pos (by omega)]
    simp [getElem!_pos d i hi]
  · rw [List.getElem?_eq_none (by simp; omega), List.getElem?_eq_none (by simp; omega)]
structure At (w : World) (base g cap : Nat) (d : Array (El W0 ok)) : Prop where
  base : base ≤ g
  max : cap ≤ maxLen
  size : d.size ≤ cap
  cells : ∃ cur, w.heap[g]? = some (.cells cur 36 (0, 0)) ∧ cur.size = cap ∧ cur.toList.take d.size = d.toList.map El.v
theorem At.lt {d : Array (El W0 ok)} (h : At w base g cap d) : g < w.heap.size := by
  obtain ⟨cur, h1, _⟩ := h.cells
  exact (Array.getElem?_eq_some_iff.1 h1).1
theorem At.holds {d : Array (El W0 ok)} (h : At w base g cap d) : Holds El.v w g 0 d := by
  obtain ⟨cur, h1, h2, h3⟩ := h.cells
  intro t ht
  refine ⟨?_, by rw [Nat.zero_add]; exact blk_frozen h1 t⟩
  rw [Nat.zero_add, blk_cell h1 t]
  have e1 : cur[t]? = (d.toList.map El.v)[t]? := by
    rw [← h3, List.getElem?_take_of_lt ht, Array.getElem?_toList]
  rw [e1, List.getElem?_map, Array.getElem?_toList, Array.getElem?_eq_getElem ht, getElem!_pos d t ht]
  rfl
theorem At.sorted {d d' : Array (El W0 ok)} (h : At w base g cap d) (hs : d'.size = d.size) : At (sortWorld El.v w g 0 n d' os) base g cap d' := by
  obtain ⟨cur, h1, h2, h3⟩ := h.cells
  refine ⟨h.base, h.max, hs ▸ h.size, _, sortW1_heap El.v w g n d' os h1, by simpa [Go.Sort.putCells] using h2, putCells1_take El.v d' cur ?_⟩
  have := h.size
  omega
theorem At.cut {d : Array (El W0 ok)} (h : At w base g cap d) (q : Nat) (hq : q ≤ d.size) : At w base g cap (d.toList.take q).toArray := by
  obtain ⟨cur, h1, h2, h3⟩ := h.cells
  have hs := h.size
  refine ⟨h.base, h.max, by simp; omega, cur, h1, h2, ?_⟩
  have e : (d.toList.take q).toArray.size = q := by simp; omega
  rw [e]
  show _ = (d.toList.take q).map El.v
  rw [List.map_take, ← h3, List.take_take, Nat.min_eq_left hq]
theorem At.raw {d : Array (El W0 ok)} (h : At w base g cap d) : (Kd.raw 1).R 36 w base (fun k => some k = (Value.slice (some ⟨g, 0, none⟩) d.size cap).ownBlock) (.slice (some ⟨g, 0, none⟩) d.size cap) (d.toList.map fun x => [x.v]) := by
  obtain ⟨cur, h1, h2, h3⟩ := h.cells
  have hl : (d.toList.map fun x : El W0 ok => [x.v]).length = d.size := by simp
  refine ⟨fun k hk => hk.symm, d.toList.map El.v, ⟨by rw [hl]; simp [Kd.raw], .inr ⟨g, cap, cur, by rw [hl], h.base, h1, by rw [hl]; exact h.size, h.max, by simpa [Kd.raw] using h2, by rw [hl]; simpa [Kd.raw] using h3⟩⟩, by rw [hl]; simp [Kd.raw], ?_⟩
  intro j p hp
  rw [List.getElem?_map, Option.map_eq_some_iff] at hp
  obtain ⟨x, hx, rfl⟩ := hp
  have hj : j < (d.toList.map El.v).length := by
    have := (List.getElem?_eq_some_iff.1 hx).1
    simpa using this
  have e : ((d.toList.map El.v).drop (j * (Kd.raw 1).sz)).take (Kd.raw 1).sz = [x.v] := by
    show ((d.toList.map El.v).drop (j * 1)).take 1 = _
    rw [Nat.mul_one, List.drop_eq_getElem_cons hj]
    have : (d.toList.map El.v)[j]? = some x.v := by rw [List.getElem?_map, hx]; rfl
    rw [List.getElem?_eq_getElem hj] at this
    simp [Option.some.inj this]
  rw [e]
  exact ⟨rfl, rfl, fun u hu => by rw [List.mem_singleton.1 hu]; exact x.one⟩
end
section
variable {w W : World} {ok : Nat → Prop} {base g cap n : Nat} {xs : List (List S43)}
abbrev inn (ok : Nat → Prop) (g : Nat) : Nat → Prop := fun k => ok k ∧ k ≠ g
theorem inn_of {k : Nat} {c : Nat} (h : ok k ∧ some k ≠ (Value.slice (some ⟨g, 0, none⟩) n c).ownBlock) : inn ok g k := ⟨h.1, fun e => h.2 (by rw [e]; rfl)⟩
theorem inn_to {k : Nat} {c : Nat} (h : inn ok g k) : ok k ∧ some k ≠ (Value.slice (some ⟨g, 0, none⟩) n c).ownBlock := ⟨h.1, fun e => h.2 (by injection e)⟩
end
theorem compareF_rounds (a b : List S43) (hl : a.length = b.length) (hs : a.length ≤ 9223372036854775807) : ∀ (suf pre : List S43), a = pre ++ suf → ∀ k, suf.length < k → impl_Cell_69__impl_compareCells.l0 k a b a (a.length : Int) (pre.length : Int) = some (ordL suf (b.drop pre.length)) := by
  intro suf
  induction suf with
  | nil =>
    intro pre hx k hk
    obtain ⟨k, rfl⟩ : ∃ m, k = m + 1 := ⟨k - 1, by omega⟩
    rw [List.append_nil] at hx
    subst hx
    simp only [impl_Cell_69__impl_compareCells.l0]
    rw [if_neg (by omega), if_neg (by omega)]
    rfl
  | cons c suf ih =>
    intro pre hx k hk
    obtain ⟨k, rfl⟩ : ∃ m, k = m + 1 := ⟨k - 1, by omega⟩
    have hla : a.length = pre.length + (suf.length + 1) := by rw [hx]; simp
    have hpb : pre.length < b.length := by omega
    have ea : rd_T43 a (pre.length : Int) = c := by
      unfold rd_T43
      rw [hx]
      simp [List.getD]
    have eb : rd_T43 b (pre.length : Int) = b[pre.length] := by
      unfold rd_T43
      rw [List.getD_eq_getElem?_getD, Int.toNat_natCast, List.getElem?_eq_getElem hpb]
      rfl
    have ew : wrap64 ((pre.length : Int) + 1) = ((pre ++ [c]).length : Int) := by
      rw [List.length_append, List.length_singleton]
      simp only [wrap64]
      omega
    have hi := ih (pre ++ [c]) (by rw [hx]; simp) k (by simp at hk; omega)
    simp only [impl_Cell_69__impl_compareCells.l0]
    rw [if_pos (by omega), if_pos (by omega), if_pos (by omega), if_neg (by omega), if_pos (by omega), ea, eb, cmpV_eq, Option.bind_some, ew, hi, List.drop_eq_getElem_cons hpb, ordL, List.length_append, List.length_singleton]
    split <;> rfl
theorem compare_rounds (a b : List S43) (hs : a.length ≤ 9223372036854775807) : ∃ k, impl_compareShapes.f k a b = some (ordS a b) := by
  refine ⟨a.length + 1, ?_⟩
  unfold impl_compareShapes.f ordS
  by_cases hl : a.length = b.length
  · rw [if_pos hl, if_pos (by omega)]
    have := compareF_rounds a b hl hs a [] rfl (a.length + 1) (by omega)
    unfold impl_Cell_69__impl_compareCells.f
    simp only [List.length_nil, Int.natCast_zero, List.drop_zero] at this
    rw [this]
    rfl
  · rw [if_neg hl, if_neg (by omega)]
    split
    · rw [if_pos (by omega)]
    · rw [if_neg (by omega)]
set_option maxHeartbeats 4000000 in
theorem impl_Cell_64__impl_compareShapes.raw {W0 w : World} {ok : Nat → Prop} {base g cap : Nat} (d : Array (El W0 ok)) (hA : At w base g cap d) (hS : Same W0 w ok) (hg : ¬ ok g) (hsz : d.size < 4611686018427387904) :
    Calls Try.prog 64 #[.slice (some ⟨g, 0, none⟩) d.size cap, .func (.func 61) #[] #[]] w fun e w' => e = .returned (.tuple #[]) ∧ ∃ (d' : Array (El W0 ok)) (n : Nat) (os : Array Obj), d'.toList.Perm d.toList ∧ d'.toList.map El.l = sortS (d.toList.map El.l) ∧ w' = sortWorld El.v w g 0 n d' os := by
  have eg : ∀ args w, (callFunc 61 args).run Try.prog w = .ok (.enter 61 args) w := enters_of Try.func61 (by kernel_rfl) rfl
  have hcmp : CmpLays1 Try.prog 61 #[] El.v cfE g 0 d.size w := fun m os dk hdk x y => by
    have hgw := sortW1_grown El.v w g m dk os
    obtain ⟨A0, c0, e0, hc0, hC0⟩ := x.now (hS.grown hgw hg)
    obtain ⟨A1, c1, e1, hc1, hC1⟩ := y.now (hS.grown hgw hg)
    obtain ⟨k, hk⟩ := compare_rounds x.l y.l hC0.2.1
    rw [e0, e1]
    exact (impl_compareShapes.callsG k A0 c0 x.l A1 c1 y.l (ordS x.l y.l) _ hC0 hc0 hC1 hc1 hk).mono fun _ _ hh => ⟨hh.1, hh.2.gr⟩
  have hcon := Any.slices_SortFunc sortS_lays El.v El.one cfE swoE 61 #[] g 0 cap d w eg hcmp hA.holds hA.lt hsz
  refine (show Calls Try.prog 64 #[.slice (some ⟨g, 0, none⟩) d.size cap, .func (.func 61) #[] #[]] w _ from hcon).mono ?_
  rintro e w' ⟨rfl, d', n, os, hp, hs', rfl⟩
  have hP : d'.toList.Perm d.toList := by
    have := hp.2.2
    have e1 : d'.extract 0 d.size = d' := by rw [← hp.1]; exact Array.extract_size
    have e2 : d.extract 0 d.size = d := Array.extract_size
    rwa [e1, e2] at this
  refine ⟨rfl, d', n, os, hP, ?_, rfl⟩
  refine List.Perm.eq_of_pairwise (le := fun x y => (!ltOf ordS y x) = true) ?_ ?_ ?_ ((hP.map El.l).trans (List.mergeSort_perm _ _).symm)
  · intro a b _ _ h1 h2
    simp only [Bool.not_eq_true'] at h1 h2
    exact antiS a b h2 h1
  · rw [List.pairwise_map, List.pairwise_iff_getElem]
    intro i j hi hj hij
    have hi' : i < d'.size := by simpa using hi
    have hj' : j < d'.size := by simpa using hj
    have := hs' i j (Nat.zero_le _) hij (by rw [← hp.1]; exact hj')
    rw [getElem!_pos d' i hi', getElem!_pos d' j hj'] at this
    simp only [Bool.not_eq_true', Array.getElem_toList]
    exact this
  · have := List.pairwise_mergeSort (le := fun x y : List S43 => !ltOf ordS y x) (fun a b c h1 h2 => by
      simp only [Bool.not_eq_true'] at *
      exact swoS.ntrans c b a h2 h1) (fun a b => by
      rw [Bool.or_eq_true]
      by_cases e : ltOf ordS b a = true
      · right
        simp only [Bool.not_eq_true']
        rw [ltS_iff]
        unfold ltOf at e
        rw [decide_eq_true_eq] at e
        rw [ordS_anti]
        omega
      · left
        simpa using e) (d.toList.map El.l)
    exact this
def impl_Cell_33.l0 : Nat → List (S43) → List (S43) → Int → Int → Option (Bool)
 | 0, _, _, _, _ => none
 | k + 1, x0, x1, x12, x13 => if x13 < x12 then (if 0 ≤ x13 then (if x13 < (x0.length : Int) then (if x13 < (x1.length : Int) then (if (!(((rd_T43 x0 x13).f0) == ((rd_T43 x1 x13).f0)) || (!(((rd_T43 x0 x13).f1) == ((rd_T43 x1 x13).f1)))) = true then (some false) else (impl_Cell_33.l0 k x0 x1 x12 (wrap64 (x13 + 1)))) else (none)) else (none)) else (none)) else (some true)
def impl_Cell_33.f (k : Nat) (l0 : List (S43)) (l1 : List (S43)) : Option (Bool) := if (l0.length : Int) = (l1.length : Int) then (impl_Cell_33.l0 k l0 l1 (l0.length : Int) 0) else (some false)
theorem impl_Cell_33.calls (k : Nat) (A0 : Option Addr) (c0 : Nat) (l0 : List (S43)) (A1 : Option Addr) (c1 : Nat) (l1 : List (S43)) (r : Bool) (w : World) (hr0 : Kd.C k43 w A0 l0.length l0) (hc0 : l0.length ≤ c0) (hr1 : Kd.C k43 w A1 l1.length l1) (hc1 : l1.length ≤ c1) (h : impl_Cell_33.f k l0 l1 = some r) :
  Calls Try.prog 33 #[.slice A0 l0.length c0, .slice A1 l1.length c1] w fun e w' => e = .returned (.bool r) ∧ Drawn0 w w' := by
 have hu43 := Try.underlying43
 have HR0 := aM hr0
 have HC0 := aM hc0
 clear hr0 hc0
 have HR1 := aM hr1
 have HC1 := aM hc1
 clear hr1 hc1
 have H : (if (l0.length : Int) = (l1.length : Int) then (impl_Cell_33.l0 k l0 l1 (l0.length : Int) 0) else (some false)) = some r := h
 clear h
 by_cases c3 : (l0.length : Int) = (l1.length : Int)
 rotate_left
 ·rw [if_neg c3] at H
  have c3b0 : ((l0.length : Int) == (l1.length : Int)) = false := beq_eq_false_iff_ne.mpr c3
  have c3b1 : ((l0.length : Int) != (l1.length : Int)) = true := bne_iff_ne.mpr c3
  have c3b2 : (l0.length == l1.length) = false := by first | simpa using c3 | (simp at c3 ⊢; omega)
  obtain rfl := Option.some.inj H
  go_enter Try.func33, Try.ntmps33
  go_wp2
  repeat (go_quiet (fail); try go_wp2)
  go_ret
  exact ⟨by first | rfl | (simp; done) | (simp [*]; done), by repeat (first | exact Drawn0.refl _ | apply Drawn0.step)⟩
 rw [if_pos c3] at H
 have c3b0 : ((l0.length : Int) == (l1.length : Int)) = true := beq_iff_eq.mpr c3
 have c3b1 : ((l0.length : Int) != (l1.length : Int)) = false := bne_eq_false_iff_eq.mpr c3
 have c3b2 : (l0.length == l1.length) = true := by first | simpa using c3 | (simp at c3 ⊢; omega)
 clear c3
 have H' := aM H
 clear H
 go_enter Try.func33, Try.ntmps33
 go_wp2
 repeat (go_quiet (fail); try go_wp2)
 go_loopg [13] k (fun kq v13 w' => ∃ (x13_1 : Int), v13 = .int .i64 x13_1 ∧ Aside0 (impl_Cell_33.l0 kq l0 l1 (l0.length : Int) x13_1 = some r) ∧ Aside0 (kq ≤ k) ∧ Drawn0 w w')
 case atStart => exact ⟨(0), zr, H', ⟨Nat.le_refl _⟩, by repeat (first | exact Drawn0.refl _ | apply Drawn0.step)⟩
 case round =>
  clear H'
  try clear c1
  try clear p2
  try clear c3
  try clear c3b0
  try clear c3b1
  try clear c3b2
  obtain ⟨x13_1, rfl, HA, HK1, ⟨m1, rfl⟩⟩ := hrel
  cases gk with
  | zero => exact absurd HA.out (by simp [impl_Cell_33.l0])
  | succ k1 =>
   have H := HA.out
   clear HA
   simp only [impl_Cell_33.l0] at H
   by_cases c4 : x13_1 < (l0.length : Int)
   rotate_left
   ·rw [if_neg c4] at H
    have c4b0 : decide (x13_1 < (l0.length : Int)) = false := decide_eq_false c4
    clear c4
    obtain rfl := Option.some.inj H
    go_wp2
    repeat (go_quiet (fail); try go_wp2)
    go_ret
    exact ⟨by first | rfl | (simp; done) | (simp [*]; done), by repeat (first | exact Drawn0.refl _ | apply Drawn0.step)⟩
   rw [if_pos c4] at H
   have c4b0 : decide (x13_1 < (l0.length : Int)) = true := decide_eq_true c4
   clear c4
   by_cases c5 : 0 ≤ x13_1
   rotate_left
   ·rw [if_neg c5] at H
    exact absurd H (by simp)
   rw [if_pos c5] at H
   have c5b0 : decide (0 ≤ x13_1) = true := decide_eq_true c5
   clear c5
   by_cases c6 : x13_1 < (l0.length : Int)
   rotate_left
   ·rw [if_neg c6] at H
    exact absurd H (by simp)
   rw [if_pos c6] at H
   have c6b0 : decide (x13_1 < (l0.length : Int)) = true := decide_eq_true c6
   clear c6
   by_cases c7 : x13_1 < (l1.length : Int)
   rotate_left
   ·rw [if_neg c7] at H
    exact absurd H (by simp)
   rw [if_pos c7] at H
   have c7b0 : decide (x13_1 < (l1.length : Int)) = true := decide_eq_true c7
   clear c7
   by_cases c8 : (!(((rd_T43 l0 x13_1).f0) == ((rd_T43 l1 x13_1).f0)) || (!(((rd_T43 l0 x13_1).f1) == ((rd_T43 l1 x13_1).f1)))) = true
   ·rw [if_pos c8] at H
    have c8b0 : (!(((rd_T43 l0 x13_1).f0) == ((rd_T43 l1 x13_1).f0)) || (!(((rd_T43 l0 x13_1).f1) == ((rd_T43 l1 x13_1).f1)))) = true := c8
    clear c8
    obtain rfl := Option.some.inj H
    have p315 : 0 ≤ (x13_1 : Int) := of_decide_eq_true za
    have q315 : x13_1 < (l0.length : Int) := of_decide_eq_true za
    obtain ⟨ad315, e315, hx315_0, hx315_1⟩ := at_T43 HR0.out x13_1 p315 q315
    cases e315
    replace p315 := eq_true p315
    replace q315 := eq_true q315
    have p316 : 0 ≤ (x13_1 : Int) := of_decide_eq_true za
    have q316 : x13_1 < (l1.length : Int) := of_decide_eq_true za
    obtain ⟨ad316, e316, hx316_0, hx316_1⟩ := at_T43 HR1.out x13_1 p316 q316
    cases e316
    replace p316 := eq_true p316
    replace q316 := eq_true q316
    go_wp2
    repeat (go_quiet (fail); try go_wp2)
    go_ret
    exact ⟨by first | rfl | (simp; done) | (simp [*]; done), by repeat (first | exact Drawn0.refl _ | apply Drawn0.step)⟩
   rw [if_neg c8] at H
   have c8b0 : (!(((rd_T43 l0 x13_1).f0) == ((rd_T43 l1 x13_1).f0)) || (!(((rd_T43 l0 x13_1).f1) == ((rd_T43 l1 x13_1).f1)))) = false := by simpa using c8
   clear c8
   have H' := aM H
   clear H
   have p315 : 0 ≤ (x13_1 : Int) := of_decide_eq_true za
   have q315 : x13_1 < (l0.length : Int) := of_decide_eq_true za
   obtain ⟨ad315, e315, hx315_0, hx315_1⟩ := at_T43 HR0.out x13_1 p315 q315
   cases e315
   replace p315 := eq_true p315
   replace q315 := eq_true q315
   have p316 : 0 ≤ (x13_1 : Int) := of_decide_eq_true za
   have q316 : x13_1 < (l1.length : Int) := of_decide_eq_true za
   obtain ⟨ad316, e316, hx316_0, hx316_1⟩ := at_T43 HR1.out x13_1 p316 q316
   cases e316
   replace p316 := eq_true p316
   replace q316 := eq_true q316
   go_wp2
   repeat (go_quiet (fail); try go_wp2)
   go_roundg k1
   case measure => have := HK1.out; omega
   case rel => exact ⟨(wrap64 (x13_1 + 1)), zr, H', ⟨by have := HK1.out; omega⟩, by repeat (first | exact Drawn0.refl _ | apply Drawn0.step)⟩
def impl_equalShapes.f (k : Nat) (l0 : List (S43)) (l1 : List (S43)) : Option (Bool) := (impl_Cell_33.f k l0 l1).bind fun t317 => (some t317)
theorem impl_equalShapes.calls (k : Nat) (A0 : Option Addr) (c0 : Nat) (l0 : List (S43)) (A1 : Option Addr) (c1 : Nat) (l1 : List (S43)) (r : Bool) (w : World) (hr0 : Kd.C k43 w A0 l0.length l0) (hc0 : l0.length ≤ c0) (hr1 : Kd.C k43 w A1 l1.length l1) (hc1 : l1.length ≤ c1) (h : impl_equalShapes.f k l0 l1 = some r) :
  Calls Try.prog 66 #[.slice A0 l0.length c0, .slice A1 l1.length c1] w fun e w' => e = .returned (.bool r) ∧ Drawn0 w w' := by
 have HR0 := aM hr0
 have HC0 := aM hc0
 clear hr0 hc0
 have HR1 := aM hr1
 have HC1 := aM hc1
 clear hr1 hc1
 have H : ((impl_Cell_33.f k l0 l1).bind fun t317 => (some t317)) = some r := h
 clear h
 replace H := Option.bind_eq_some_iff.mp H
 obtain ⟨t317, A30, H⟩ := H
 replace H : (some t317) = some r := H
 have A3 := aM A30
 clear A30
 obtain rfl := Option.some.inj H
 go_enter Try.func66, Try.ntmps66
 go_wp2_with (first | ((with_reducible refine gate_callee (f := 33) rfl ?_); refine goesL_ (some 7) rfl rfl Try.func33 (by kernel_rfl) rfl #[.slice A0 l0.length c0, .slice A1 l1.length c1] rfl zm ?_; (with_reducible refine (impl_Cell_33.calls k _ _ l0 _ _ l1 t317 _ ?side1 ?side2 ?side3 ?side4 A3.out).mono ?_); (case side1 => repeat (first | exact HR0.out | (with_reducible refine Kd.C_alloc ?_ _) | (with_reducible refine Kd.C_drewN ?_ _) | (with_reducible refine Kd.C_drew ?_))); (case side2 => exact HC0.out); (case side3 => repeat (first | exact HR1.out | (with_reducible refine Kd.C_alloc ?_ _) | (with_reducible refine Kd.C_drewN ?_ _) | (with_reducible refine Kd.C_drew ?_))); (case side4 => exact HC1.out); rintro e w' ⟨rfl, ⟨nd, rfl⟩⟩; refine ⟨_, rfl, ?_⟩))
 go_ret
 exact ⟨by first | rfl | (simp; done) | (simp [*]; done), by repeat (first | exact Drawn0.refl _ | apply Drawn0.step)⟩
end Go.Proofs.Ytibbjiehblpmfaa.F
end
section
namespace Go.Proofs.Ytibbjiehblpmfaa.F
open Go.RowKit Go.Proofs.YtibbjiehblpmfaaW.PrintWords Go.Proofs.YtibbjiehblpmfaaW.PrintLast Go.Proofs.YtibbjiehblpmfaaW.PrintMore
attribute [local go_sem] max2_int min2_int max_two min_two max_three min_three max_four min_four
set_option linter.unusedVariables false
set_option linter.unusedSimpArgs false
open Go.Sort
def compG {β : Type} [DecidableEq β] (p : β) : List β → List β
  | [] => []
  | b :: r => if b = p then compG b r else b :: compG b r
def compF {β : Type} [DecidableEq β] : List β → List β
  | [] => []
  | a :: r => a :: compG a r
theorem compG_snoc {β : Type} [DecidableEq β] : ∀ (l : List β) (p b : β), compG p (l ++ [b]) = if b = (p :: l).getLast (by simp) then compG p l else compG p l ++ [b]
  | [], p, b => by
    by_cases h : b = p
    · simp [compG, h]
    · simp [compG, h]
  | a :: r, p, b => by
    have ih := compG_snoc r a b
    rw [List.cons_append, compG, compG, ih]
    have e : (p :: a :: r).getLast (by simp) = (a :: r).getLast (by simp) := List.getLast_cons (by simp)
    rw [e]
    by_cases h : a = p
    · rw [if_pos h, if_pos h]
    · rw [if_neg h, if_neg h]
      split
      · rfl
      · rfl
theorem compF_snoc {β : Type} [DecidableEq β] (l : List β) (b : β) (h : l ≠ []) : compF (l ++ [b]) = if b = l.getLast h then compF l else compF l ++ [b] := by
  cases l with
  | nil => exact absurd rfl h
  | cons a r =>
    rw [List.cons_append, compF, compF, compG_snoc]
    split
    · rfl
    · rfl
theorem compG_len {β : Type} [DecidableEq β] : ∀ (l : List β) (p : β), (compG p l).length ≤ l.length
  | [], _ => Nat.le_refl _
  | a :: r, p => by
    rw [compG]
    have := compG_len r a
    split
    · rw [List.length_cons]; omega
    · rw [List.length_cons, List.length_cons]; omega
theorem compF_len {β : Type} [DecidableEq β] (l : List β) : (compF l).length ≤ l.length := by
  cases l with
  | nil => exact Nat.le_refl _
  | cons a r => rw [compF, List.length_cons, List.length_cons]; have := compG_len r a; omega
theorem take_snoc_get {β : Type} (l : List β) (m : Nat) (h : m < l.length) : l.take (m + 1) = l.take m ++ [l[m]] := by
  rw [List.take_succ_eq_append_getElem h]
theorem compF_step {β : Type} [DecidableEq β] (l : List β) (m : Nat) (h : m < l.length) (h0 : 0 < m) : compF (l.take (m + 1)) = if l[m] = l[m - 1]'(by omega) then compF (l.take m) else compF (l.take m) ++ [l[m]] := by
  have hn : l.take m ≠ [] := by
    intro e
    have := congrArg List.length e
    rw [List.length_take, List.length_nil] at this
    omega
  rw [take_snoc_get l m h, compF_snoc _ _ hn]
  have e : (l.take m).getLast hn = l[m - 1]'(by omega) := by
    rw [List.getLast_eq_getElem]
    simp only [List.length_take, List.getElem_take]
    congr 1
    omega
  rw [e]
theorem take_sub {β : Type} (l : List β) {n m : Nat} (h : n ≤ m) : (l.take n).Sublist (l.take m) := by
  have : l.take n = (l.take m).take n := by rw [List.take_take, Nat.min_eq_left h]
  rw [this]
  exact List.take_sublist _ _
structure CompIv {α β : Type} [Inhabited α] [DecidableEq β] (key : α → β) (d : Array α) (m kk : Nat) (dk : Array α) : Prop where
  size : dk.size = d.size
  lt : kk < m
  le : m ≤ d.size
  low : (dk.toList.take kk).map key = compF ((d.toList.map key).take m)
  high : ∀ j, kk ≤ j → dk[j]! = d[j]!
  sub : (dk.toList.take kk).Sublist (d.toList.take m)
section
variable {α β : Type} [Inhabited α] [DecidableEq β] {key : α → β} {d dk : Array α} {m kk : Nat}
def AllKeep (key : α → β) (d : Array α) (m : Nat) : Prop := m ≤ d.size ∧ compF ((d.toList.map key).take m) = (d.toList.map key).take m
omit [Inhabited α] in
theorem AllKeep.one (h : 1 ≤ d.size) : AllKeep key d 1 := by
  refine ⟨h, ?_⟩
  cases hd : d.toList with
  | nil =>
    have e : d.toList.length = 0 := by rw [hd]; rfl
    rw [Array.length_toList] at e
    omega
  | cons a r => simp [compF, compG]
omit [DecidableEq β] in
theorem key_get (h : m < d.size) : (d.toList.map key)[m]'(by simpa using h) = key d[m]! := by
  rw [List.getElem_map, getElem!_pos d m h]
  simp
theorem AllKeep.step (h : AllKeep key d m) (h0 : 0 < m) (hm : m < d.size) (hk : key d[m]! ≠ key d[m - 1]!) : AllKeep key d (m + 1) := by
  refine ⟨hm, ?_⟩
  have hl : m < (d.toList.map key).length := by simpa using hm
  rw [compF_step _ m hl h0, key_get hm, key_get (by omega), if_neg hk, h.2, take_snoc_get _ m hl, key_get hm]
theorem CompIv.start (h : AllKeep key d kk) (h0 : 0 < kk) (hm : kk < d.size) (hk : key d[kk]! = key d[kk - 1]!) : CompIv key d (kk + 1) kk d where
  size := rfl
  lt := Nat.lt_succ_self _
  le := hm
  low := by
    have hl : kk < (d.toList.map key).length := by simpa using hm
    rw [compF_step _ kk hl h0, key_get hm, key_get (by omega), if_pos hk, h.2, List.map_take]
  high := fun _ _ => rfl
  sub := take_sub _ (Nat.le_succ _)
theorem CompIv.skip (h : CompIv key d m kk dk) (hm : m < d.size) (hk : key d[m]! = key d[m - 1]!) : CompIv key d (m + 1) kk dk where
  size := h.size
  lt := by have := h.lt; omega
  le := hm
  low := by
    have hl : m < (d.toList.map key).length := by simpa using hm
    have := h.lt
    rw [compF_step _ m hl (by omega), key_get hm, key_get (by omega), if_pos hk, h.low]
  high := h.high
  sub := h.sub.trans (take_sub _ (Nat.le_succ _))
omit [Inhabited α] in
theorem take_set {l : List α} {k : Nat} {x : α} (h : k < l.length) : (l.set k x).take (k + 1) = l.take k ++ [x] := by
  rw [take_snoc_get _ k (by simpa using h), List.take_set_of_le (Nat.le_refl _)]
  simp
theorem CompIv.keep (h : CompIv key d m kk dk) (hm : m < d.size) (hk : key d[m]! ≠ key d[m - 1]!) : CompIv key d (m + 1) (kk + 1) (dk.setIfInBounds kk d[m]!) where
  size := by simp [h.size]
  lt := by have := h.lt; omega
  le := hm
  low := by
    have hl : m < (d.toList.map key).length := by simpa using hm
    have h1 := h.lt
    have h2 := h.size
    rw [compF_step _ m hl (by omega), key_get hm, key_get (by omega), if_neg hk, ← h.low]
    have hkk : kk < dk.toList.length := by simp; omega
    rw [Array.toList_setIfInBounds, take_set hkk, List.map_append]
    rfl
  high := fun j hj => by rw [Go.Sort.getElem!_set_other dk kk j _ (by omega), h.high j (by omega)]
  sub := by
    have h1 := h.lt
    have h2 := h.size
    have hkk : kk < dk.toList.length := by simp; omega
    have hmm : m < d.toList.length := by simpa using hm
    rw [Array.toList_setIfInBounds, take_set hkk, take_snoc_get _ m hmm]
    refine h.sub.append ?_
    rw [getElem!_pos d m hm]
    simp
end
section
variable {α : Type} [Inhabited α] {enc : α → Value} {w0 W : World} {blk off : Nat} {dk : Array α}
theorem SW_set (h : SW enc w0 blk off dk W) (hblk : blk < w0.heap.size) (i : Nat) (hi : i < dk.size) (x : α) : SW enc w0 blk off (dk.setIfInBounds i x) (W.setCell ⟨blk, off + i, none⟩ (enc x)) := by
  obtain ⟨n, os, rfl⟩ := h
  refine ⟨n, os, ?_⟩
  unfold sortWorld
  rw [← putRow_grow enc (Go.Sort.ahead w0 n) os blk off dk hblk, Go.Sort.putRow_set enc _ blk off dk i x hi, putRow_grow enc (Go.Sort.ahead w0 n) os blk off _ hblk]
theorem SW_clear (h : SW enc w0 blk off dk W) (hblk : blk < w0.heap.size) (k : Nat) (xs : List α) (hk : k + xs.length ≤ dk.size) : ∃ dk' : Array α, dk'.size = dk.size ∧ dk'.toList.take k = dk.toList.take k ∧ SW enc w0 blk off dk' (W.setCells blk (off + k) (xs.map enc)) := by
  obtain ⟨m, os, rfl⟩ := h
  have hs : (Go.Lib.lay dk k xs).size = dk.size := by
    have : ∀ (xs : List α) (d : Array α) (k : Nat), (Go.Lib.lay d k xs).size = d.size := by
      intro xs
      induction xs with
      | nil => intro d k; rfl
      | cons x r ih => intro d k; rw [Go.Lib.lay, ih]; simp
    exact this _ _ _
  refine ⟨Go.Lib.lay dk k xs, hs, ?_, m, os, ?_⟩
  · apply List.ext_getElem?
    intro j
    by_cases hj : j < k
    · rw [List.getElem?_take_of_lt hj, List.getElem?_take_of_lt hj, Array.getElem?_toList, Go.Lib.lay_get? _ _ _ _ hk, if_neg (by omega), Array.getElem?_toList]
    · rw [List.getElem?_eq_none (by simp; omega), List.getElem?_eq_none (by simp; omega)]
  · unfold sortWorld
    rw [← putRow_grow enc (Go.Sort.ahead w0 m) os blk off dk hblk, Go.Lib.putRow_setCells enc _ blk off _ dk k hk, putRow_grow enc (Go.Sort.ahead w0 m) os blk off _ hblk]
end
theorem quietAt {P : Program} {f : FuncId} {args : Array Value} {w : World} {q a : Nat} {v : Value} (h : Calls P f args (w.drewN (q + a)) fun e w' => e = .returned v ∧ ∃ n, w' = (w.drewN (q + a)).drewN n) : Calls P f args (w.drewN (q + a)) fun e w' => e = .returned v ∧ ∃ n, w' = w.drewN (q + n) :=
  h.mono fun _ _ ⟨he, m, hm⟩ => ⟨he, a + m, by rw [hm, World.drewN_drewN, Nat.add_assoc]⟩
open Go.Sort
instance instDecC : DecidableEq S43 := fun a b => if h : a.f0 = b.f0 ∧ a.f1 = b.f1 then .isTrue (by obtain ⟨a0, a1⟩ := a; obtain ⟨b0, b1⟩ := b; simp_all) else .isFalse (fun e => h (by rw [e]; exact ⟨rfl, rfl⟩))
theorem flat_at {d : Array S43} {i : Nat} (hi : i < d.size) : (flatK encC 2 d)[i * 2]! = .int .i64 d[i]!.f0 ∧ (flatK encC 2 d)[i * 2 + 1]! = .int .i64 d[i]!.f1 := by
  rw [get_flatK encC 2 d (i * 2) (by omega), get_flatK encC 2 d (i * 2 + 1) (by omega), show i * 2 / 2 = i by omega, show i * 2 % 2 = 0 by omega, show (i * 2 + 1) / 2 = i by omega, show (i * 2 + 1) % 2 = 1 by omega]
  exact ⟨rfl, rfl⟩
theorem cells_at {W : World} {b : Nat} {d : Array S43} (h : Holds id W b 0 (flatK encC 2 d)) {i : Nat} (hi : i < d.size) : (W.cell? ⟨b, i * 2, none⟩ = some (.int .i64 d[i]!.f0) ∧ W.cell? ⟨b, i * 2 + 1, none⟩ = some (.int .i64 d[i]!.f1)) ∧ W.frozen? ⟨b, i * 2, none⟩ = false ∧ W.frozen? ⟨b, i * 2 + 1, none⟩ = false := by
  obtain ⟨h1, h2⟩ := h (i * 2) (by rw [size_flatK]; omega)
  obtain ⟨h3, h4⟩ := h (i * 2 + 1) (by rw [size_flatK]; omega)
  rw [Nat.zero_add] at h1 h2 h3 h4
  obtain ⟨e1, e2⟩ := flat_at hi
  rw [e1] at h1
  rw [e2] at h3
  exact ⟨⟨h1, h3⟩, h2, h4⟩
theorem flat_set (d : Array S43) (i : Nat) (hi : i < d.size) (x : S43) : ((flatK encC 2 d).setIfInBounds (i * 2) (.int .i64 x.f0)).setIfInBounds (i * 2 + 1) (.int .i64 x.f1) = flatK encC 2 (d.setIfInBounds i x) := by
  apply Array.ext
  · simp
  · intro t h1 h2
    have ht : t < d.size * 2 := by simpa using h1
    have e2 := get_flatK encC 2 (d.setIfInBounds i x) t (by simpa using ht)
    rw [getElem!_pos _ t h2] at e2
    rw [e2, Array.getElem_setIfInBounds, Array.getElem_setIfInBounds]
    by_cases ea : i * 2 + 1 = t
    · rw [if_pos ea, ← ea, show (i * 2 + 1) / 2 = i by omega, show (i * 2 + 1) % 2 = 1 by omega, Go.Sort.getElem!_set_same d i x hi]
      rfl
    · rw [if_neg ea]
      by_cases eb : i * 2 = t
      · rw [if_pos eb, ← eb, show i * 2 / 2 = i by omega, show i * 2 % 2 = 0 by omega, Go.Sort.getElem!_set_same d i x hi]
        rfl
      · rw [if_neg eb, Go.Sort.getElem!_set_other d i (t / 2) x (by omega)]
        have e3 := get_flatK encC 2 d t ht
        rwa [getElem!_pos _ t (by simpa using ht)] at e3
    all_goals simpa using ht
theorem flat_cut (d : Array S43) (q : Nat) (hq : q ≤ d.size) : (flatK encC 2 d).toList.take (q * 2) = (flatK encC 2 (d.toList.take q).toArray).toList := by
  have hs : (d.toList.take q).toArray.size = q := by simp; omega
  apply List.ext_getElem?
  intro t
  by_cases ht : t < q * 2
  · rw [List.getElem?_take_of_lt ht, flat_get d t (by omega), flat_get _ t (by rw [hs]; exact ht)]
    have e : d[t / 2]! = (d.toList.take q).toArray[t / 2]! := by
      rw [getElem!_pos d (t / 2) (by omega), getElem!_pos _ (t / 2) (by rw [hs]; omega)]
      simp
    rw [e]
  · rw [List.getElem?_eq_none (by simp; omega), List.getElem?_eq_none (by simp; omega)]
theorem R_openC {w : World} {base g cap n : Nat} {ok : Nat → Prop} {xs : List S43} (h : Kd.R k43 43 w base ok (.slice (some ⟨g, 0, none⟩) n cap) xs) : ok g ∧ n = xs.length ∧ base ≤ g ∧ n ≤ cap ∧ cap ≤ maxLen ∧ ∃ cur, w.heap[g]? = some (.cells cur 43 (0, 0)) ∧ cur.size = cap * 2 := by
  obtain ⟨h1, inner, ⟨h2, h3⟩, h4, h5⟩ := h
  rcases h3 with ⟨h3, _⟩ | ⟨g', cap', cur, h3, h6, h7, h8, h9, h10, h11⟩
  · cases h3
  injection h3 with h3 h13 h12
  injection h3 with h3
  injection h3 with h3
  subst h3 h12
  exact ⟨h1 g rfl, h13, h6, by omega, h9, cur, h7, h10⟩
theorem R_closeC {w0 w : World} {base g cap : Nat} {ok : Nat → Prop} {cur : Array Value} {dk : Array S43} {F : Array Value} {n : Nat} {os : Array Obj} (hok : ok g) (hb : base ≤ g) (hm : cap ≤ maxLen) (hg : w0.heap[g]? = some (.cells cur 43 (0, 0))) (hc : cur.size = cap * 2) (q : Nat) (hq : q ≤ dk.size) (hd : dk.size ≤ cap)
    (hF : F.size = dk.size * 2) (hT : F.toList.take (q * 2) = (flatK encC 2 dk).toList.take (q * 2)) (hw : w = sortWorld id w0 g 0 n F os) : Kd.R k43 43 w base ok (.slice (some ⟨g, 0, none⟩) q cap) (dk.toList.take q) := by
  subst hw
  have hlt : g < w0.heap.size := (Array.getElem?_eq_some_iff.1 hg).1
  have hh : (sortWorld id w0 g 0 n F os).heap[g]? = some (.cells (Go.Sort.putCells id 0 F cur) 43 (0, 0)) := by
    show ((w0.heap.modify g _) ++ os)[g]? = _
    rw [Array.getElem?_append_left (by simpa using hlt), Array.getElem?_modify, if_pos rfl, hg]
    rfl
  have hl : (dk.toList.take q).length = q := by simp; omega
  have hi : (Go.Sort.putCells id 0 F cur).toList.take (q * 2) = (flatK encC 2 (dk.toList.take q).toArray).toList := by
    have h1 := putCells_take F cur (by omega)
    have h2 : ∀ l : List Value, l.take (q * 2) = (l.take F.size).take (q * 2) := fun l => by rw [List.take_take, Nat.min_eq_left (by omega)]
    rw [h2, h1, hT, flat_cut dk q hq]
  have hr := flat_reps (dk.toList.take q).toArray (sortWorld id w0 g 0 n F os) base (fun k => ok k ∧ some k ≠ (Value.slice (some ⟨g, 0, none⟩) q cap).ownBlock)
  refine ⟨fun k hk => ?_, (flatK encC 2 (dk.toList.take q).toArray).toList, ⟨?_, .inr ⟨g, cap, _, by rw [hl], hb, hh, by rw [hl]; omega, hm, ?_, ?_⟩⟩, show Reps _ 2 _ _ from by simpa using hr⟩
  · simp [Value.ownBlock] at hk
    exact hk ▸ hok
  · show _ = _ * 2
    simp
  · show (Go.Sort.putCells id 0 F cur).size = cap * 2
    simpa [Go.Sort.putCells] using hc
  · rw [hl]
    exact hi
end Go.Proofs.Ytibbjiehblpmfaa.F
end
