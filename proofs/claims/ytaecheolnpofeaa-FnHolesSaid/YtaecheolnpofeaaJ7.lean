/- The row of FnHoles, with what it needs: text 8 of 12. -/
import Derived.Test.YtaecheolnpofeaaJ6
set_option maxHeartbeats 8000000
set_option maxRecDepth 100000
section
namespace Go.Proofs.Ytaecheolnpofeaa.F
open Go.RowKit Go.Proofs.YtaecheolnpofeaaW.PrintWords Go.Proofs.YtaecheolnpofeaaW.PrintLast Go.Proofs.YtaecheolnpofeaaW.PrintMore
attribute [local go_sem] max2_int min2_int max_two min_two max_three min_three max_four min_four
set_option linter.unusedVariables false
set_option linter.unusedSimpArgs false
def spec_HolesOf.l0 : Nat → List (List (S44)) → List Int → Int → Option (List Int × Int)
 | 0, _, _, _ => none
 | k + 1, x5, x6, x7 => if x7 < (x5.length : Int) then (if 0 ≤ x7 then (if x6.length < 17592186044416 then (spec_HolesOf.l0 k x5 (x6 ++ [((rd_L2 x5 x7).length : Int)]) (wrap64 (x7 + 1))) else (none)) else (none)) else (some (x6, 0))
def spec_HolesOf.f (k : Nat) (l0 : List (S44)) : Option (List Int × Int) := (spec_l06Code.f k l0).bind fun t479 => (if t479 = 0 then ((spec_l06Holes.f k l0).bind fun t480 => (spec_HolesOf.l0 k t480 (([] : List Int)) 0)) else (some (([] : List Int), t479)))
theorem spec_HolesOf.calls (k : Nat) (A0 : Option Addr) (c0 : Nat) (l0 : List (S44)) (r1 : List Int) (r2 : Int) (w : World) (hr0 : Kd.C k44 w A0 l0.length l0) (hc0 : l0.length ≤ c0) (h : spec_HolesOf.f k l0 = some (r1, r2)) :
  Calls Try.prog 19 #[.slice A0 l0.length c0] w fun e w' => ∃ v0_ : Value, e = .returned (.tuple #[v0_, .int .i64 r2]) ∧ Kd.R (Kd.int .i64) 2 w' w.heap.size (fun _ => True) v0_ r1 ∧ Below w.heap.size w w' := by
 have HR0 := aM hr0
 have HC0 := aM hc0
 clear hr0 hc0
 have HB := aM (Below.refl w.heap.size w)
 have H : ((spec_l06Code.f k l0).bind fun t479 => (if t479 = 0 then ((spec_l06Holes.f k l0).bind fun t480 => (spec_HolesOf.l0 k t480 (([] : List Int)) 0)) else (some (([] : List Int), t479)))) = some (r1, r2) := h
 clear h
 replace H := Option.bind_eq_some_iff.mp H
 obtain ⟨t479, A20, H⟩ := H
 replace H : (if t479 = 0 then ((spec_l06Holes.f k l0).bind fun t480 => (spec_HolesOf.l0 k t480 (([] : List Int)) 0)) else (some (([] : List Int), t479))) = some (r1, r2) := H
 have A2 := aM A20
 clear A20
 by_cases c3 : t479 = 0
 rotate_left
 ·rw [if_neg c3] at H
  have c3b0 : (t479 == 0) = false := beq_eq_false_iff_ne.mpr c3
  have c3b1 : (t479 != 0) = true := bne_iff_ne.mpr c3
  simp only [Option.some.injEq, Prod.mk.injEq] at H
  obtain ⟨rfl, rfl⟩ := H
  go_enter Try.func19, Try.ntmps19
  go_wp2_with (first | ((with_reducible refine gate_callee (f := 43) rfl ?_); refine goesL_ (some 9) rfl rfl Try.func43 (by kernel_rfl) rfl #[.slice A0 l0.length c0] rfl zm ?_; (with_reducible refine (spec_l06Code.calls k _ _ l0 t479 _ ?side1 ?side2 A2.out).mono ?_); (case side1 => repeat (first | exact HR0.out | (with_reducible refine Kd.C_alloc ?_ _) | (with_reducible refine Kd.C_drewN ?_ _) | (with_reducible refine Kd.C_drew ?_))); (case side2 => exact HC0.out); rintro e w15 ⟨rfl, hb⟩; refine ⟨_, rfl, ?_⟩; have n0_ := aM (below_step zb hb); clear HB; have HB := n0_; clear n0_; (try clear hb); (try clear hb2); (try clear hk); (try clear hi)))
  go_ret2
  exact ⟨_, zw, by first | exact Kd.R_nil _ _ _ _ _ | exact Kd.N_nil _ _ _ _ _ | exact Kd.V_nil _ _ _ _ _ | exact Kd.Q_nil _ _ _ _ _ | exact Kd.S_nil _ _ _ _ _, zb⟩
 rw [if_pos c3] at H
 have c3b0 : (t479 == 0) = true := beq_iff_eq.mpr c3
 have c3b1 : (t479 != 0) = false := bne_eq_false_iff_eq.mpr c3
 clear c3
 replace H := Option.bind_eq_some_iff.mp H
 obtain ⟨t480, A40, H⟩ := H
 replace H : (spec_HolesOf.l0 k t480 (([] : List Int)) 0) = some (r1, r2) := H
 have A4 := aM A40
 clear A40
 obtain ⟨y483, hy483⟩ : ∃ y_ : List Int, y_ = (([] : List Int)) := ⟨_, rfl⟩
 replace H : (spec_HolesOf.l0 k t480 y483 0) = some (r1, r2) := zy H hy483
 have Ny483 := aM hy483
 clear hy483
 have H' := aM H
 clear H
 go_enter Try.func19, Try.ntmps19
 go_wp2_with (first | ((with_reducible refine gate_callee (f := 43) rfl ?_); refine goesL_ (some 9) rfl rfl Try.func43 (by kernel_rfl) rfl #[.slice A0 l0.length c0] rfl zm ?_; (with_reducible refine (spec_l06Code.calls k _ _ l0 t479 _ ?side1 ?side2 A2.out).mono ?_); (case side1 => repeat (first | exact HR0.out | (with_reducible refine Kd.C_alloc ?_ _) | (with_reducible refine Kd.C_drewN ?_ _) | (with_reducible refine Kd.C_drew ?_))); (case side2 => exact HC0.out); rintro e w5 ⟨rfl, hb⟩; refine ⟨_, rfl, ?_⟩; have n0_ := aM (below_step zb hb); clear HB; have HB := n0_; clear n0_; (try clear hb); (try clear hb2); (try clear hk); (try clear hi)) | ((with_reducible refine gate_callee (f := 44) rfl ?_); refine goesL_ (some 14) rfl rfl Try.func44 (by kernel_rfl) rfl #[.slice A0 l0.length c0] rfl zm ?_; (with_reducible refine (spec_l06Holes.calls k _ _ l0 t480 _ ?side1 ?side2 A4.out).mono ?_); (case side1 => repeat (first | exact (Kd.C_below HR0.out HB.out) | (with_reducible refine Kd.C_alloc ?_ _) | (with_reducible refine Kd.C_drewN ?_ _) | (with_reducible refine Kd.C_drew ?_))); (case side2 => exact HC0.out); rintro e w6 ⟨v481, rfl, ho0, hb⟩; refine ⟨_, rfl, ?_⟩; have n0_ := aM (Kd.S_lower ho0 (below_size zb)); have n1_ := aM (below_step zb hb); clear HB; have HO482 := n0_; have HB := n1_; clear n0_ n1_; (try clear hb); (try clear hb2); (try clear hk); (try clear hi); (try clear ho0)) | ((with_reducible refine gate_dst (N := 15) rfl ?_); refine Kd.R_lit (Kd.int .i64) _ 2 ?hg (N := 15) ?hd (xs := ([] : List Int)) (inner := []) (ok := fun _ => True) (okp := fun _ => True) ?hr ?hp (fun _ hk => hk) trivial (Below.refl _ _) (Nat.le_refl _) (by simp) ?_; (case hd => rfl); (case hg => rfl); (case hr => first | (go_simp; done) | (go_simp; rfl)); (case hp => exact (Reps.none _ _)); intro v484 w7 ho8 hb hg_ hnew_; clear hg_ hnew_; (first | rw [← Ny483.out] at ho8 | (simp only [Int.reduceToNat] at ho8; rw [← Ny483.out] at ho8)); have n0_ := aM (Kd.S_below (mS_ HO482.out) hb); have n1_ := aM (Kd.R_lower ho8 (below_size zb)); have n2_ := aM (below_step zb hb); clear HO482 HB; have HO482 := n0_; have HO485 := n1_; have HB := n2_; clear n0_ n1_ n2_; clear hb ho8))
 go_loopg [6, 7] k (fun kq v6 v7 w' => ∃ (x6_1 : List Int) (x7_1 : Int), v7 = .int .i64 x7_1 ∧ Aside0 (spec_HolesOf.l0 kq t480 x6_1 x7_1 = some (r1, r2)) ∧ Aside0 (kq ≤ k) ∧ Aside0 (Kd.S (Kd.slice 44 k44) 26 w' w.heap.size (fun _ => True) v481 t480) ∧ Aside0 (Kd.R (Kd.int .i64) 2 w' w.heap.size (fun _ => True) v6 x6_1) ∧ Aside0 (Below w.heap.size w w'))
 case atStart => exact ⟨(y483), (0), zr, H', ⟨Nat.le_refl _⟩, ⟨mS_ HO482.out⟩, ⟨mR_ HO485.out⟩, ⟨zb⟩⟩
 case round =>
  clear H'
  try clear c1
  try clear p2
  try clear c3
  try clear c3b0
  try clear c3b1
  try clear c4
  obtain ⟨x6_1, x7_1, rfl, HA, HK1, HO_5, HO_6, HB⟩ := hrel
  cases gk with
  | zero => exact absurd HA.out (by simp [spec_HolesOf.l0])
  | succ k1 =>
   have H := HA.out
   clear HA
   simp only [spec_HolesOf.l0] at H
   by_cases c9 : x7_1 < (t480.length : Int)
   rotate_left
   ·rw [if_neg c9] at H
    have c9b0 : decide (x7_1 < (t480.length : Int)) = false := decide_eq_false c9
    clear c9
    simp only [Option.some.injEq, Prod.mk.injEq] at H
    obtain ⟨rfl, rfl⟩ := H
    obtain ⟨Ao14, co14, eo14⟩ := Kd.S_slice HO_5.out
    subst eo14
    go_wp2
    go_ret2
    exact ⟨_, zw, mR_ HO_6.out, zb⟩
   rw [if_pos c9] at H
   have c9b0 : decide (x7_1 < (t480.length : Int)) = true := decide_eq_true c9
   clear c9
   by_cases c10 : 0 ≤ x7_1
   rotate_left
   ·rw [if_neg c10] at H
    exact absurd H (by simp)
   rw [if_pos c10] at H
   have c10b0 : decide (0 ≤ x7_1) = true := decide_eq_true c10
   clear c10
   by_cases c11 : x6_1.length < 17592186044416
   rotate_left
   ·rw [if_neg c11] at H
    exact absurd H (by simp)
   rw [if_pos c11] at H
   have LMc11 := aM c11
   clear c11
   obtain ⟨y487, hy487⟩ : ∃ y_ : List Int, y_ = (x6_1 ++ [((rd_L2 t480 x7_1).length : Int)]) := ⟨_, rfl⟩
   replace H : (spec_HolesOf.l0 k1 t480 y487 (wrap64 (x7_1 + 1))) = some (r1, r2) := zy H hy487
   have Ny487 := aM hy487
   clear hy487
   have H' := aM H
   clear H
   obtain ⟨Ao12, co12, eo12⟩ := Kd.S_slice HO_5.out
   subst eo12
   have p486 : 0 ≤ (x7_1 : Int) := of_decide_eq_true za
   have q486 : x7_1 < (t480.length : Int) := of_decide_eq_true za
   obtain ⟨ad486, A486_0, c486_0, e486, hx486_0, hl486_0, hi486_0⟩ := at_L2 (Kd.S_reads' HO_5.out).2.2 x7_1 p486 q486
   cases e486
   obtain ⟨ce486, hce486, hMe486, hcc486⟩ := Kd.S_get HO_5.out [] x7_1 p486 (by first | exact q486 | exact of_decide_eq_true za | (have e_ := (Kd.S_reads' HO_5.out).1; omega))
   obtain ⟨ve486_0, rfl, ge486_0⟩ := hMe486
   have hv486_0 := hcc486 0 _ rfl
   rw [Nat.add_zero, show ((Kd.slice 44 k44)).sz = 1 from rfl, Nat.mul_one] at hv486_0
   replace hv486_0 := Option.some.inj (hv486_0.symm.trans hx486_0)
   rw [hv486_0] at ge486_0
   have HL486_0 := aM (show Kd.R k44 44 _ _ _ _ (rd_L2 t480 x7_1) from ge486_0)
   clear hv486_0 ge486_0
   clear hcc486 hce486
   have HR486_0 := aM hi486_0
   have HC486_0 := aM hl486_0
   clear hi486_0 hl486_0
   replace p486 := eq_true p486
   replace q486 := eq_true q486
   go_wp2_with (first | ((with_reducible refine gate_builtin (b := .append) (xs := #[.tmp 22, .tmp 28]) rfl ?_); at_builtin; refine Kd.R_append (Kd.int .i64) (w0 := w) w.heap.size rfl (.tmp 22) (.tmp 28) 33 2 (.int .i64 0) 8 rfl Try.underlying33 info2 rfl (by decide) (by omega) u6 x6_1 ((rd_L2 t480 x7_1).length : Int) [.int .i64 ((rd_L2 t480 x7_1).length : Int)] (fun _ => True) (fun _ => False) rfl rfl ?aP (fun _ hk => hk.elim) ?aF ?aO ?aB ?aS ?aL ?_; (case aP => exact rfl); (case aB => exact zb); (case aF => exact (fun _ _ => trivial)); (case aO => exact (mR_ HO_6.out)); (case aS => exact (below_size zb)); (case aL => have := LMc11.out; omega); intro v488 w13 ho hb hg hat; rw [← Ny487.out] at ho; have n0_ := aM (Kd.S_over' (mS_ HO_5.out) (Kd.R_typed (mR_ HO_6.out)) (by decide) hg); have n1_ := aM (Kd.R_over' (mR_ HL486_0.out) (Kd.R_typed (mR_ HO_6.out)) (by decide) hg); have n2_ := aM (hb); have n3_ := aM (ho); clear HO_5 HL486_0 HB HO_6; have HO_5 := n0_; have HL486_0 := n1_; have HB := n2_; have HO489 := n3_; clear n0_ n1_ n2_ n3_; clear ho hb hg hat))
   go_roundg k1
   case measure => have := HK1.out; omega
   case rel => exact ⟨(y487), (wrap64 (x7_1 + 1)), zr, H', ⟨by have := HK1.out; omega⟩, ⟨mS_ HO_5.out⟩, ⟨mR_ HO489.out⟩, ⟨zb⟩⟩
def impl_HolesOf.l0 : Nat → List Int → List (List (S44)) → Int → Int → Option (List Int × Int)
 | 0, _, _, _, _ => none
 | k + 1, x5, x15, x16, x17 => if x17 < x16 then (if 0 ≤ x17 then (if x17 < (x15.length : Int) then (if x5.length < 17592186044416 then (impl_HolesOf.l0 k (x5 ++ [((rd_L2 x15 x17).length : Int)]) x15 x16 (wrap64 (x17 + 1))) else (none)) else (none)) else (none)) else (some (x5, 0))
def impl_HolesOf.f (k : Nat) (l0 : List (S44)) : Option (List Int × Int) := (impl_shapeCode.f k l0).bind fun t584 => (if t584 = 0 then ((impl_holes.f k l0).bind fun t588 => (impl_HolesOf.l0 k (([] : List Int)) t588 (t588.length : Int) 0)) else (some (([] : List Int), t584)))
theorem impl_HolesOf.calls (k : Nat) (A0 : Option Addr) (c0 : Nat) (l0 : List (S44)) (r1 : List Int) (r2 : Int) (w : World) (hr0 : Kd.C k44 w A0 l0.length l0) (hc0 : l0.length ≤ c0) (h : impl_HolesOf.f k l0 = some (r1, r2)) :
  Calls Try.prog 20 #[.slice A0 l0.length c0] w fun e w' => ∃ v0_ : Value, e = .returned (.tuple #[v0_, .int .i64 r2]) ∧ Kd.R (Kd.int .i64) 2 w' w.heap.size (fun _ => True) v0_ r1 ∧ Below w.heap.size w w' := by
 have HR0 := aM hr0
 have HC0 := aM hc0
 clear hr0 hc0
 have HB := aM (Below.refl w.heap.size w)
 have H : ((impl_shapeCode.f k l0).bind fun t584 => (if t584 = 0 then ((impl_holes.f k l0).bind fun t588 => (impl_HolesOf.l0 k (([] : List Int)) t588 (t588.length : Int) 0)) else (some (([] : List Int), t584)))) = some (r1, r2) := h
 clear h
 replace H := Option.bind_eq_some_iff.mp H
 obtain ⟨t584, A20, H⟩ := H
 replace H : (if t584 = 0 then ((impl_holes.f k l0).bind fun t588 => (impl_HolesOf.l0 k (([] : List Int)) t588 (t588.length : Int) 0)) else (some (([] : List Int), t584))) = some (r1, r2) := H
 have A2 := aM A20
 clear A20
 by_cases c3 : t584 = 0
 rotate_left
 ·rw [if_neg c3] at H
  have c3b0 : (t584 == 0) = false := beq_eq_false_iff_ne.mpr c3
  have c3b1 : (t584 != 0) = true := bne_iff_ne.mpr c3
  simp only [Option.some.injEq, Prod.mk.injEq] at H
  obtain ⟨rfl, rfl⟩ := H
  go_enter Try.func20, Try.ntmps20
  go_wp2_with (first | ((with_reducible refine gate_callee (f := 45) rfl ?_); refine goesL_ (some 9) rfl rfl Try.func45 (by kernel_rfl) rfl #[.slice A0 l0.length c0] rfl zm ?_; (with_reducible refine (impl_shapeCode.calls k _ _ l0 t584 _ ?side1 ?side2 A2.out).mono ?_); (case side1 => repeat (first | exact HR0.out | (with_reducible refine Kd.C_alloc ?_ _) | (with_reducible refine Kd.C_drewN ?_ _) | (with_reducible refine Kd.C_drew ?_))); (case side2 => exact HC0.out); rintro e w15 ⟨rfl, hb⟩; refine ⟨_, rfl, ?_⟩; have n0_ := aM (below_step zb hb); clear HB; have HB := n0_; clear n0_; (try clear hb); (try clear hb2); (try clear hk); (try clear hi)))
  go_ret2
  exact ⟨_, zw, by first | exact Kd.R_nil _ _ _ _ _ | exact Kd.N_nil _ _ _ _ _ | exact Kd.V_nil _ _ _ _ _ | exact Kd.Q_nil _ _ _ _ _ | exact Kd.S_nil _ _ _ _ _, zb⟩
 rw [if_pos c3] at H
 have c3b0 : (t584 == 0) = true := beq_iff_eq.mpr c3
 have c3b1 : (t584 != 0) = false := bne_eq_false_iff_eq.mpr c3
 clear c3
 obtain ⟨y585, hy585⟩ : ∃ y_ : List Int, y_ = (([] : List Int)) := ⟨_, rfl⟩
 replace H : ((impl_holes.f k l0).bind fun t588 => (impl_HolesOf.l0 k y585 t588 (t588.length : Int) 0)) = some (r1, r2) := zy H hy585
 have Ny585 := aM hy585
 clear hy585
 replace H := Option.bind_eq_some_iff.mp H
 obtain ⟨t588, A40, H⟩ := H
 replace H : (impl_HolesOf.l0 k y585 t588 (t588.length : Int) 0) = some (r1, r2) := H
 have A4 := aM A40
 clear A40
 have H' := aM H
 clear H
 go_enter Try.func20, Try.ntmps20
 go_wp2_with (first | ((with_reducible refine gate_callee (f := 45) rfl ?_); refine goesL_ (some 9) rfl rfl Try.func45 (by kernel_rfl) rfl #[.slice A0 l0.length c0] rfl zm ?_; (with_reducible refine (impl_shapeCode.calls k _ _ l0 t584 _ ?side1 ?side2 A2.out).mono ?_); (case side1 => repeat (first | exact HR0.out | (with_reducible refine Kd.C_alloc ?_ _) | (with_reducible refine Kd.C_drewN ?_ _) | (with_reducible refine Kd.C_drew ?_))); (case side2 => exact HC0.out); rintro e w5 ⟨rfl, hb⟩; refine ⟨_, rfl, ?_⟩; have n0_ := aM (below_step zb hb); clear HB; have HB := n0_; clear n0_; (try clear hb); (try clear hb2); (try clear hk); (try clear hi)) | ((with_reducible refine gate_dst (N := 13) rfl ?_); refine Kd.R_lit (Kd.int .i64) _ 2 ?hg (N := 13) ?hd (xs := ([] : List Int)) (inner := []) (ok := fun _ => True) (okp := fun _ => True) ?hr ?hp (fun _ hk => hk) trivial (Below.refl _ _) (Nat.le_refl _) (by simp) ?_; (case hd => rfl); (case hg => rfl); (case hr => first | (go_simp; done) | (go_simp; rfl)); (case hp => exact (Reps.none _ _)); intro v586 w6 ho7 hb hg_ hnew_; clear hg_ hnew_; (first | rw [← Ny585.out] at ho7 | (simp only [Int.reduceToNat] at ho7; rw [← Ny585.out] at ho7)); have n0_ := aM (Kd.R_lower ho7 (below_size zb)); have n1_ := aM (below_step zb hb); clear HB; have HO587 := n0_; have HB := n1_; clear n0_ n1_; clear hb ho7) | ((with_reducible refine gate_callee (f := 46) rfl ?_); refine goesL_ (some 15) rfl rfl Try.func46 (by kernel_rfl) rfl #[.slice A0 l0.length c0] rfl zm ?_; (with_reducible refine (impl_holes.calls k _ _ l0 t588 _ ?side1 ?side2 A4.out).mono ?_); (case side1 => repeat (first | exact (Kd.C_below HR0.out HB.out) | (with_reducible refine Kd.C_alloc ?_ _) | (with_reducible refine Kd.C_drewN ?_ _) | (with_reducible refine Kd.C_drew ?_))); (case side2 => exact HC0.out); rintro e w8 ⟨v589, rfl, ho0, hb⟩; refine ⟨_, rfl, ?_⟩; have n0_ := aM (Kd.R_below (mR_ HO587.out) hb); have n1_ := aM (Kd.N_lower (Kd.N_mono (ok' := fun k_ => some k_ ≠ (v586 : Value).ownBlock) ho0 (fun k_ hk_ => (Kd.fresh' (Kd.R_lt (mR_ HO587.out)) k_ hk_))) (below_size zb)); have n2_ := aM (below_step zb hb); clear HO587 HB; have HO587 := n0_; have HO590 := n1_; have HB := n2_; clear n0_ n1_ n2_; (try clear hb); (try clear hb2); (try clear hk); (try clear hi); (try clear ho0); obtain ⟨Ao9, co9, eo9⟩ := Kd.N_slice HO590.out; subst eo9))
 go_loopg [5, 17] k (fun kq v5 v17 w' => ∃ (x5_1 : List Int) (x17_1 : Int), v17 = .int .i64 x17_1 ∧ Aside0 (impl_HolesOf.l0 kq x5_1 t588 (t588.length : Int) x17_1 = some (r1, r2)) ∧ Aside0 (kq ≤ k) ∧ Aside0 (Kd.R (Kd.int .i64) 2 w' w.heap.size (fun _ => True) v5 x5_1) ∧ Aside0 (Kd.N (Kd.slice 44 k44) 26 w' w.heap.size (fun k_ => some k_ ≠ (v5 : Value).ownBlock) (.slice Ao9 t588.length co9) t588) ∧ Aside0 (Below w.heap.size w w'))
 case atStart => exact ⟨(y585), (0), zr, H', ⟨Nat.le_refl _⟩, ⟨mR_ HO587.out⟩, ⟨mN_ HO590.out⟩, ⟨zb⟩⟩
 case round =>
  clear H'
  try clear c2
  try clear p2
  try clear c3
  try clear c3b0
  try clear c3b1
  try clear c4
  obtain ⟨x5_1, x17_1, rfl, HA, HK1, HO_5, HO_15, HB⟩ := hrel
  cases gk with
  | zero => exact absurd HA.out (by simp [impl_HolesOf.l0])
  | succ k1 =>
   have H := HA.out
   clear HA
   simp only [impl_HolesOf.l0] at H
   by_cases c10 : x17_1 < (t588.length : Int)
   rotate_left
   ·rw [if_neg c10] at H
    have c10b0 : decide (x17_1 < (t588.length : Int)) = false := decide_eq_false c10
    clear c10
    simp only [Option.some.injEq, Prod.mk.injEq] at H
    obtain ⟨rfl, rfl⟩ := H
    go_wp2
    go_ret2
    exact ⟨_, zw, mR_ HO_5.out, zb⟩
   rw [if_pos c10] at H
   have c10b0 : decide (x17_1 < (t588.length : Int)) = true := decide_eq_true c10
   clear c10
   by_cases c11 : 0 ≤ x17_1
   rotate_left
   ·rw [if_neg c11] at H
    exact absurd H (by simp)
   rw [if_pos c11] at H
   have c11b0 : decide (0 ≤ x17_1) = true := decide_eq_true c11
   clear c11
   by_cases c12 : x17_1 < (t588.length : Int)
   rotate_left
   ·rw [if_neg c12] at H
    exact absurd H (by simp)
   rw [if_pos c12] at H
   have c12b0 : decide (x17_1 < (t588.length : Int)) = true := decide_eq_true c12
   clear c12
   by_cases c13 : x5_1.length < 17592186044416
   rotate_left
   ·rw [if_neg c13] at H
    exact absurd H (by simp)
   rw [if_pos c13] at H
   have LMc13 := aM c13
   clear c13
   obtain ⟨y592, hy592⟩ : ∃ y_ : List Int, y_ = (x5_1 ++ [((rd_L2 t588 x17_1).length : Int)]) := ⟨_, rfl⟩
   replace H : (impl_HolesOf.l0 k1 y592 t588 (t588.length : Int) (wrap64 (x17_1 + 1))) = some (r1, r2) := zy H hy592
   have Ny592 := aM hy592
   clear hy592
   have H' := aM H
   clear H
   have p591 : 0 ≤ (x17_1 : Int) := of_decide_eq_true za
   have q591 : x17_1 < (t588.length : Int) := of_decide_eq_true za
   obtain ⟨ad591, A591_0, c591_0, e591, hx591_0, hl591_0, hi591_0⟩ := at_L2 (Kd.N_reads' HO_15.out).2.2 x17_1 p591 q591
   cases e591
   obtain ⟨ce591, hce591, hMe591, hcc591⟩ := Kd.N_get HO_15.out [] x17_1 p591 (by first | exact q591 | exact of_decide_eq_true za | (have e_ := (Kd.N_reads' HO_15.out).1; omega))
   obtain ⟨ua591_0, uc591_0, rfl, ul591_0, ge591_0⟩ := Kd.FK_slice_open hMe591
   have hv591_0 := hcc591 0 _ rfl
   rw [Nat.add_zero, show ((Kd.slice 44 k44)).sz = 1 from rfl, Nat.mul_one] at hv591_0
   replace hv591_0 := Option.some.inj (hv591_0.symm.trans hx591_0)
   injection hv591_0 with hva_ hvn_ hvc_
   rw [hva_] at ge591_0
   rw [hvc_] at ul591_0
   have HL591_0 := aM (show Kd.V k44 44 _ w.heap.size _ _ (rd_L2 t588 x17_1) from Kd.V_mk ul591_0 ge591_0)
   clear hva_ hvn_ hvc_ ge591_0 ul591_0
   clear hcc591 hce591
   have HR591_0 := aM hi591_0
   have HC591_0 := aM hl591_0
   clear hi591_0 hl591_0
   replace p591 := eq_true p591
   replace q591 := eq_true q591
   go_wp2_with (first | ((with_reducible refine gate_builtin (b := .append) (xs := #[.tmp 21, .tmp 24]) rfl ?_); at_builtin; refine Kd.R_append (Kd.int .i64) (w0 := w) w.heap.size rfl (.tmp 21) (.tmp 24) 33 2 (.int .i64 0) 8 rfl Try.underlying33 info2 rfl (by decide) (by omega) u5 x5_1 ((rd_L2 t588 x17_1).length : Int) [.int .i64 ((rd_L2 t588 x17_1).length : Int)] (fun _ => True) (fun _ => False) rfl rfl ?aP (fun _ hk => hk.elim) ?aF ?aO ?aB ?aS ?aL ?_; (case aP => exact rfl); (case aB => exact zb); (case aF => exact (fun _ _ => trivial)); (case aO => exact (mR_ HO_5.out)); (case aS => exact (below_size zb)); (case aL => have := LMc13.out; omega); intro v593 w14 ho hb hg hat; rw [← Ny592.out] at ho; have n0_ := aM (Kd.N_afterv (ok := (fun _ => True)) (zd17 HO_15.out) hg hat); have n1_ := aM (Kd.V_afterv (ok := (fun k_ => some k_ ≠ (.slice (some ad591) t588.length co9 : Value).ownBlock)) (zd16 HL591_0.out) hg hat); have n2_ := aM (hb); have n3_ := aM (ho); clear HO_15 HL591_0 HB HO_5; have HO_15 := n0_; have HL591_0 := n1_; have HB := n2_; have HO594 := n3_; clear n0_ n1_ n2_ n3_; clear ho hb hg hat))
   go_roundg k1
   case measure => have := HK1.out; omega
   case rel => exact ⟨(y592), (wrap64 (x17_1 + 1)), zr, H', ⟨by have := HK1.out; omega⟩, ⟨mR_ HO594.out⟩, ⟨zd18 HO_15.out⟩, ⟨zb⟩⟩
end Go.Proofs.Ytaecheolnpofeaa.F
end
section
namespace Go.Proofs.Ytaecheolnpofeaa.F
open Go.RowKit Go.Proofs.YtaecheolnpofeaaW.PrintWords Go.Proofs.YtaecheolnpofeaaW.PrintLast Go.Proofs.YtaecheolnpofeaaW.PrintMore
attribute [local go_sem] max2_int min2_int max_two min_two max_three min_three max_four min_four
set_option linter.unusedVariables false
set_option linter.unusedSimpArgs false
def spec_FillHoles.l0 : Nat → List (S44) → List (List (S44)) → Int → Option ((List (S44)) × Int)
 | 0, _, _, _ => none
 | k + 1, x5, x6, x7 => if x7 < (x6.length : Int) then (if 0 ≤ x7 then (if x5.length + (rd_L2 x6 x7).length < 8796093022208 then (spec_FillHoles.l0 k (x5 ++ (rd_L2 x6 x7)) x6 (wrap64 (x7 + 1))) else (none)) else (none)) else (if (x5.length : Int) > 40 then (some (([] : List (S44)), 3)) else ((spec_l02Sort.f k x5).bind fun t650 => (some (t650, 0))))
def spec_FillHoles.f (k : Nat) (l0 : List (S44)) : Option ((List (S44)) × Int) := (spec_l06Code.f k l0).bind fun t636 => (if t636 = 0 then ((some (([] : List (S44)) : List (S44))).bind fun y637 => (if y637.length + l0.length < 8796093022208 then ((spec_l06Holes.f k l0).bind fun t643 => (spec_FillHoles.l0 k (y637 ++ l0) t643 0)) else (none))) else (some (([] : List (S44)), t636)))
theorem spec_FillHoles.calls (k : Nat) (A0 : Option Addr) (c0 : Nat) (l0 : List (S44)) (r1 : List (S44)) (r2 : Int) (w : World) (hr0 : Kd.C k44 w A0 l0.length l0) (hc0 : l0.length ≤ c0) (h : spec_FillHoles.f k l0 = some (r1, r2)) :
  Calls Try.prog 25 #[.slice A0 l0.length c0] w fun e w' => ∃ v0_ : Value, e = .returned (.tuple #[v0_, .int .i64 r2]) ∧ Kd.R k44 44 w' w.heap.size (fun _ => True) v0_ r1 ∧ Below w.heap.size w w' := by
 have HR0 := aM hr0
 have HC0 := aM hc0
 clear hr0 hc0
 have HB := aM (Below.refl w.heap.size w)
 have H : ((spec_l06Code.f k l0).bind fun t636 => (if t636 = 0 then ((some (([] : List (S44)) : List (S44))).bind fun y637 => (if y637.length + l0.length < 8796093022208 then ((spec_l06Holes.f k l0).bind fun t643 => (spec_FillHoles.l0 k (y637 ++ l0) t643 0)) else (none))) else (some (([] : List (S44)), t636)))) = some (r1, r2) := h
 clear h
 replace H := Option.bind_eq_some_iff.mp H
 obtain ⟨t636, A20, H⟩ := H
 replace H : (if t636 = 0 then ((some (([] : List (S44)) : List (S44))).bind fun y637 => (if y637.length + l0.length < 8796093022208 then ((spec_l06Holes.f k l0).bind fun t643 => (spec_FillHoles.l0 k (y637 ++ l0) t643 0)) else (none))) else (some (([] : List (S44)), t636))) = some (r1, r2) := H
 have A2 := aM A20
 clear A20
 by_cases c3 : t636 = 0
 rotate_left
 ·rw [if_neg c3] at H
  have c3b0 : (t636 == 0) = false := beq_eq_false_iff_ne.mpr c3
  have c3b1 : (t636 != 0) = true := bne_iff_ne.mpr c3
  simp only [Option.some.injEq, Prod.mk.injEq] at H
  obtain ⟨rfl, rfl⟩ := H
  go_enter Try.func25, Try.ntmps25
  go_wp2_with (first | ((with_reducible refine gate_callee (f := 43) rfl ?_); refine goesL_ (some 9) rfl rfl Try.func43 (by kernel_rfl) rfl #[.slice A0 l0.length c0] rfl zm ?_; (with_reducible refine (spec_l06Code.calls k _ _ l0 t636 _ ?side1 ?side2 A2.out).mono ?_); (case side1 => repeat (first | exact HR0.out | (with_reducible refine Kd.C_alloc ?_ _) | (with_reducible refine Kd.C_drewN ?_ _) | (with_reducible refine Kd.C_drew ?_))); (case side2 => exact HC0.out); rintro e w23 ⟨rfl, hb⟩; refine ⟨_, rfl, ?_⟩; have n0_ := aM (below_step zb hb); clear HB; have HB := n0_; clear n0_; (try clear hb); (try clear hb2); (try clear hk); (try clear hi)))
  go_ret2
  exact ⟨_, zw, by first | exact Kd.R_nil _ _ _ _ _ | exact Kd.N_nil _ _ _ _ _ | exact Kd.V_nil _ _ _ _ _ | exact Kd.Q_nil _ _ _ _ _ | exact Kd.S_nil _ _ _ _ _, zb⟩
 rw [if_pos c3] at H
 have c3b0 : (t636 == 0) = true := beq_iff_eq.mpr c3
 have c3b1 : (t636 != 0) = false := bne_eq_false_iff_eq.mpr c3
 clear c3
 obtain ⟨y637, hy637⟩ : ∃ y_ : List (S44), y_ = (([] : List (S44))) := ⟨_, rfl⟩
 replace H : (if y637.length + l0.length < 8796093022208 then ((spec_l06Holes.f k l0).bind fun t643 => (spec_FillHoles.l0 k (y637 ++ l0) t643 0)) else (none)) = some (r1, r2) := zy H hy637
 have Ny637 := aM hy637
 clear hy637
 by_cases c4 : y637.length + l0.length < 8796093022208
 rotate_left
 ·rw [if_neg c4] at H
  exact absurd H (by simp)
 rw [if_pos c4] at H
 have LMc4 := aM c4
 clear c4
 obtain ⟨y640, hy640⟩ : ∃ y_ : List (S44), y_ = (y637 ++ l0) := ⟨_, rfl⟩
 replace H : ((spec_l06Holes.f k l0).bind fun t643 => (spec_FillHoles.l0 k y640 t643 0)) = some (r1, r2) := zy H hy640
 have Ny640 := aM hy640
 clear hy640
 replace H := Option.bind_eq_some_iff.mp H
 obtain ⟨t643, A50, H⟩ := H
 replace H : (spec_FillHoles.l0 k y640 t643 0) = some (r1, r2) := H
 have A5 := aM A50
 clear A50
 have H' := aM H
 clear H
 go_enter Try.func25, Try.ntmps25
 go_wp2_with (first | ((with_reducible refine gate_callee (f := 43) rfl ?_); refine goesL_ (some 9) rfl rfl Try.func43 (by kernel_rfl) rfl #[.slice A0 l0.length c0] rfl zm ?_; (with_reducible refine (spec_l06Code.calls k _ _ l0 t636 _ ?side1 ?side2 A2.out).mono ?_); (case side1 => repeat (first | exact HR0.out | (with_reducible refine Kd.C_alloc ?_ _) | (with_reducible refine Kd.C_drewN ?_ _) | (with_reducible refine Kd.C_drew ?_))); (case side2 => exact HC0.out); rintro e w6 ⟨rfl, hb⟩; refine ⟨_, rfl, ?_⟩; have n0_ := aM (below_step zb hb); clear HB; have HB := n0_; clear n0_; (try clear hb); (try clear hb2); (try clear hk); (try clear hi)) | ((with_reducible refine gate_dst (N := 13) rfl ?_); refine Kd.R_lit k44 _ 44 ?hg (N := 13) ?hd (xs := ([] : List (S44))) (inner := []) (ok := fun _ => True) (okp := fun _ => True) ?hr ?hp (fun _ hk => hk) trivial (Below.refl _ _) (Nat.le_refl _) (by simp) ?_; (case hd => rfl); (case hg => rfl); (case hr => first | (go_simp; done) | (go_simp; rfl)); (case hp => exact (Reps.none _ _)); intro v638 w7 ho8 hb hg_ hnew_; clear hg_ hnew_; (first | rw [← Ny637.out] at ho8 | (simp only [Int.reduceToNat] at ho8; rw [← Ny637.out] at ho8)); have n0_ := aM (Kd.R_lower ho8 (below_size zb)); have n1_ := aM (below_step zb hb); clear HB; have HO639 := n0_; have HB := n1_; clear n0_ n1_; clear hb ho8) | ((with_reducible refine gate_builtin (b := .append) (xs := #[.tmp 13, .tmp 14]) rfl ?_); at_builtin; refine Kd.R_append_rows k44 (w0 := w) w.heap.size rfl (.tmp 13) (.tmp 14) 26 44 (.agg #[(.int .i64 0), (.int .i64 0)]) 16 rfl Try.underlying26 info44 rfl (by decide) (by omega) v638 y637 l0 _ _ _ (fun _ => True) (fun _ => False) rfl rfl ?aO ?aR (fun _ _ h => h) (fun _ h => h.elim) ?aF ?aB ?aS ?aL ?_; (case aR => repeat (first | exact (Kd.C_below HR0.out HB.out) | (with_reducible refine Kd.C_alloc ?_ _) | (with_reducible refine Kd.C_drewN ?_ _) | (with_reducible refine Kd.C_drew ?_))); (case aB => exact zb); (case aF => exact (fun _ _ => trivial)); (case aO => exact (mR_ HO639.out)); (case aS => exact (below_size zb)); (case aL => have := LMc4.out; omega); intro v641 w9 ho hb hg hat; rw [← Ny640.out] at ho; have n0_ := aM (hb); have n1_ := aM (ho); clear HB HO639; have HB := n0_; have HO642 := n1_; clear n0_ n1_; clear ho hb hg hat) | ((with_reducible refine gate_callee (f := 44) rfl ?_); refine goesL_ (some 17) rfl rfl Try.func44 (by kernel_rfl) rfl #[.slice A0 l0.length c0] rfl zm ?_; (with_reducible refine (spec_l06Holes.calls k _ _ l0 t643 _ ?side1 ?side2 A5.out).mono ?_); (case side1 => repeat (first | exact (Kd.C_below HR0.out HB.out) | (with_reducible refine Kd.C_alloc ?_ _) | (with_reducible refine Kd.C_drewN ?_ _) | (with_reducible refine Kd.C_drew ?_))); (case side2 => exact HC0.out); rintro e w10 ⟨v644, rfl, ho0, hb⟩; refine ⟨_, rfl, ?_⟩; have n0_ := aM (Kd.R_below (mR_ HO642.out) hb); have n1_ := aM (Kd.S_lower (Kd.S_new' ho0 (Kd.R_lt (mR_ HO642.out))) (below_size zb)); have n2_ := aM (below_step zb hb); clear HO642 HB; have HO642 := n0_; have HO645 := n1_; have HB := n2_; clear n0_ n1_ n2_; (try clear hb); (try clear hb2); (try clear hk); (try clear hi); (try clear ho0)))
 go_loopg [5, 7] k (fun kq v5 v7 w' => ∃ (x5_1 : List (S44)) (x7_1 : Int), v7 = .int .i64 x7_1 ∧ Aside0 (spec_FillHoles.l0 kq x5_1 t643 x7_1 = some (r1, r2)) ∧ Aside0 (kq ≤ k) ∧ Aside0 (Kd.R k44 44 w' w.heap.size (fun _ => True) v5 x5_1) ∧ Aside0 (Kd.S (Kd.slice 44 k44) 26 w' w.heap.size (fun k_ => some k_ ≠ (v5 : Value).ownBlock) v644 t643) ∧ Aside0 (Below w.heap.size w w'))
 case atStart => exact ⟨(y640), (0), zr, H', ⟨Nat.le_refl _⟩, ⟨mR_ HO642.out⟩, ⟨zd3 HO645.out⟩, ⟨zb⟩⟩
 case round =>
  clear H'
  try clear c2
  try clear p2
  try clear c3
  try clear c3b0
  try clear c3b1
  try clear c4
  obtain ⟨x5_1, x7_1, rfl, HA, HK1, HO_5, HO_6, HB⟩ := hrel
  cases gk with
  | zero => exact absurd HA.out (by simp [spec_FillHoles.l0])
  | succ k1 =>
   have H := HA.out
   clear HA
   simp only [spec_FillHoles.l0] at H
   by_cases c11 : x7_1 < (t643.length : Int)
   rotate_left
   ·rw [if_neg c11] at H
    have c11b0 : decide (x7_1 < (t643.length : Int)) = false := decide_eq_false c11
    clear c11
    by_cases c16 : (x5_1.length : Int) > 40
    ·rw [if_pos c16] at H
     have c16b0 : decide (40 < (x5_1.length : Int)) = true := decide_eq_true c16
     have c16b1 : decide (40 < x5_1.length) = true := decide_eq_true (by omega)
     clear c16
     simp only [Option.some.injEq, Prod.mk.injEq] at H
     obtain ⟨rfl, rfl⟩ := H
     obtain ⟨Ao17, co17, eo17⟩ := Kd.S_slice HO_6.out
     subst eo17
     obtain ⟨Ao18, co18, eo18⟩ := Kd.R_slice HO_5.out
     subst eo18
     go_wp2
     go_ret2
     exact ⟨_, zw, by first | exact Kd.R_nil _ _ _ _ _ | exact Kd.N_nil _ _ _ _ _ | exact Kd.V_nil _ _ _ _ _ | exact Kd.Q_nil _ _ _ _ _ | exact Kd.S_nil _ _ _ _ _, zb⟩
    rw [if_neg c16] at H
    have c16b0 : decide (40 < (x5_1.length : Int)) = false := decide_eq_false c16
    have c16b1 : decide (40 < x5_1.length) = false := decide_eq_false (by omega)
    clear c16
    replace H := Option.bind_eq_some_iff.mp H
    obtain ⟨t650, A190, H⟩ := H
    replace H : (some (t650, 0)) = some (r1, r2) := H
    have A19 := aM A190
    clear A190
    simp only [Option.some.injEq, Prod.mk.injEq] at H
    obtain ⟨rfl, rfl⟩ := H
    obtain ⟨Ao20, co20, eo20⟩ := Kd.S_slice HO_6.out
    subst eo20
    obtain ⟨Ao21, co21, eo21⟩ := Kd.R_slice HO_5.out
    subst eo21
    go_wp2_with (first | ((with_reducible refine gate_callee (f := 47) rfl ?_); refine goesL_ (some 34) rfl rfl Try.func47 (by kernel_rfl) rfl #[.slice Ao21 x5_1.length co21] rfl zm ?_; (with_reducible refine (spec_l02Sort.calls k1 _ _ x5_1 t650 _ ?side1 ?side2 A19.out).mono ?_); (case side1 => exact zc HO_5.out); (case side2 => exact (Kd.R_reads' HO_5.out).2.1); rintro e w22 ⟨v651, rfl, ho0, hb⟩; refine ⟨_, rfl, ?_⟩; have n0_ := aM (Kd.R_elder' (mR_ HO_5.out) (Kd.R_base ho0) hb); have n1_ := aM (Kd.S_elder' (mS_ HO_6.out) (Kd.R_base ho0) hb); have n2_ := aM (Kd.R_lower (Kd.R_new' ho0 (Kd.R_lt (mR_ HO_5.out))) (below_size zb)); have n3_ := aM (below_step zb hb); clear HO_5 HO_6 HB; have HO_5 := n0_; have HO_6 := n1_; have HO652 := n2_; have HB := n3_; clear n0_ n1_ n2_ n3_; (try clear hb); (try clear hb2); (try clear hk); (try clear hi); (try clear ho0)))
    go_ret2
    exact ⟨_, zw, zd1 HO652.out, zb⟩
   rw [if_pos c11] at H
   have c11b0 : decide (x7_1 < (t643.length : Int)) = true := decide_eq_true c11
   clear c11
   by_cases c12 : 0 ≤ x7_1
   rotate_left
   ·rw [if_neg c12] at H
    exact absurd H (by simp)
   rw [if_pos c12] at H
   have c12b0 : decide (0 ≤ x7_1) = true := decide_eq_true c12
   clear c12
   by_cases c13 : x5_1.length + (rd_L2 t643 x7_1).length < 8796093022208
   rotate_left
   ·rw [if_neg c13] at H
    exact absurd H (by simp)
   rw [if_pos c13] at H
   have LMc13 := aM c13
   clear c13
   obtain ⟨y647, hy647⟩ : ∃ y_ : List (S44), y_ = (x5_1 ++ (rd_L2 t643 x7_1)) := ⟨_, rfl⟩
   replace H : (spec_FillHoles.l0 k1 y647 t643 (wrap64 (x7_1 + 1))) = some (r1, r2) := zy H hy647
   have Ny647 := aM hy647
   clear hy647
   have H' := aM H
   clear H
   obtain ⟨Ao14, co14, eo14⟩ := Kd.S_slice HO_6.out
   subst eo14
   have p646 : 0 ≤ (x7_1 : Int) := of_decide_eq_true za
   have q646 : x7_1 < (t643.length : Int) := of_decide_eq_true za
   obtain ⟨ad646, A646_0, c646_0, e646, hx646_0, hl646_0, hi646_0⟩ := at_L2 (Kd.S_reads' HO_6.out).2.2 x7_1 p646 q646
   cases e646
   obtain ⟨ce646, hce646, hMe646, hcc646⟩ := Kd.S_get HO_6.out [] x7_1 p646 (by first | exact q646 | exact of_decide_eq_true za | (have e_ := (Kd.S_reads' HO_6.out).1; omega))
   obtain ⟨ve646_0, rfl, ge646_0⟩ := hMe646
   have hv646_0 := hcc646 0 _ rfl
   rw [Nat.add_zero, show ((Kd.slice 44 k44)).sz = 1 from rfl, Nat.mul_one] at hv646_0
   replace hv646_0 := Option.some.inj (hv646_0.symm.trans hx646_0)
   rw [hv646_0] at ge646_0
   have HL646_0 := aM (show Kd.R k44 44 _ _ _ _ (rd_L2 t643 x7_1) from ge646_0)
   clear hv646_0 ge646_0
   clear hcc646 hce646
   have HR646_0 := aM hi646_0
   have HC646_0 := aM hl646_0
   clear hi646_0 hl646_0
   replace p646 := eq_true p646
   replace q646 := eq_true q646
   go_wp2_with (first | ((with_reducible refine gate_builtin (b := .append) (xs := #[.tmp 24, .tmp 28]) rfl ?_); at_builtin; refine Kd.R_append_rows k44 (w0 := w) w.heap.size rfl (.tmp 24) (.tmp 28) 26 44 (.agg #[(.int .i64 0), (.int .i64 0)]) 16 rfl Try.underlying26 info44 rfl (by decide) (by omega) u5 x5_1 (rd_L2 t643 x7_1) _ _ _ (fun _ => True) (fun _ => False) rfl rfl ?aO ?aR (fun _ _ h => h) (fun _ h => h.elim) ?aF ?aB ?aS ?aL ?_; (case aR => repeat (first | exact (mQ_ HR646_0.out) | (with_reducible refine Kd.C_alloc ?_ _) | (with_reducible refine Kd.C_drewN ?_ _) | (with_reducible refine Kd.C_drew ?_))); (case aB => exact zb); (case aF => exact (fun _ _ => trivial)); (case aO => exact (mR_ HO_5.out)); (case aS => exact (below_size zb)); (case aL => have := LMc13.out; omega); intro v648 w15 ho hb hg hat; rw [← Ny647.out] at ho; have n0_ := aM (Kd.S_after (ok := (fun _ => True)) (zd20 HO_6.out) hg hat); have n1_ := aM (Kd.R_after (ok := (fun k_ => some k_ ≠ (.slice (some ad646) t643.length co14 : Value).ownBlock)) (zd19 HL646_0.out) hg hat); have n2_ := aM (hb); have n3_ := aM (ho); clear HO_6 HL646_0 HB HO_5; have HO_6 := n0_; have HL646_0 := n1_; have HB := n2_; have HO649 := n3_; clear n0_ n1_ n2_ n3_; clear ho hb hg hat))
   go_roundg k1
   case measure => have := HK1.out; omega
   case rel => exact ⟨(y647), (wrap64 (x7_1 + 1)), zr, H', ⟨by have := HK1.out; omega⟩, ⟨mR_ HO649.out⟩, ⟨zd3 HO_6.out⟩, ⟨zb⟩⟩
def impl_Cell_48.f (l0 : List S44) : Option (List S44) := if l0.length ≤ 1000000000000 then some l0 else none
set_option maxHeartbeats 4000000 in
theorem impl_Cell_48.calls (A0 : Option Addr) (c0 : Nat) (l0 : List S44) (r : List S44) (w : World) (hr0 : Kd.C k44 w A0 l0.length l0) (hc0 : l0.length ≤ c0) (h : impl_Cell_48.f l0 = some r) :
    Calls Try.prog 48 #[.slice A0 l0.length c0] w fun e w' => ∃ v0_ : Value, e = .returned (v0_) ∧ Kd.R k44 44 w' w.heap.size (fun _ => True) v0_ r ∧ Below w.heap.size w w' := by
  unfold impl_Cell_48.f at h
  by_cases hl : l0.length ≤ 1000000000000
  · rw [if_pos hl] at h
    obtain rfl := Option.some.inj h
    have q22 : ∀ (w : World) (a : Option Addr) (n c n' c' : Nat), (binOp .eql 26 (.slice a n c) (.slice none n' c')).run Try.prog w = .ok (.bool a.isNone) w := fun w a n c n' c' => Lib.run_eql_slice_nil w _ _ a n c n' c' Try.underlying26
    have u22 : ∀ w, Sem.run Try.prog (underlying 26) w = .ok (TypeDesc.slice 44) w := run_underlying Try.underlying26
    cases A0 with
    | none =>
      have h0 : l0 = [] := by
        refine List.length_eq_zero_iff.1 (Nat.eq_zero_of_not_pos fun hp => ?_)
        obtain ⟨ad, he, _⟩ := hr0.2.2 hp
        cases he
      subst h0
      clear hr0
      go_enter Try.func48, Try.ntmps48
      go_wp2
      go_ret
      exact ⟨_, rfl, Kd.R_nil _ _ _ _ _, Below.refl _ _⟩
    | some ad =>
      obtain ⟨inner, hreps, hcell⟩ := ReadsRow.inner_ hr0
      obtain ⟨i0, hi, hzz⟩ := Option.map_eq_some_iff.1 info44
      simp only [Prod.mk.injEq] at hzz
      obtain ⟨hz0, hz1, hz2⟩ := hzz
      have hil : inner.length = l0.length * 2 := hreps.1
      have h1 : ∀ u ∈ inner, u.oneCell' = true := by
        intro u hu
        obtain ⟨j, hj, e⟩ := List.getElem_of_mem hu
        have hjl : j / 2 < l0.length := by omega
        have hk := hreps.2 (j / 2) l0[j / 2] (List.getElem?_eq_getElem hjl)
        refine k44.K_one hk u ?_
        refine List.mem_of_getElem? (i := j % 2) ?_
        rw [List.getElem?_take_of_lt (show j % 2 < k44.sz from Nat.mod_lt _ (by decide)), List.getElem?_drop]
        rw [show j / 2 * k44.sz + j % 2 = j from by show j / 2 * 2 + j % 2 = j; omega, List.getElem?_eq_getElem hj, e]
      have A := aM hcell
      have HR := aM hreps
      have H1 := aM h1
      clear hr0 hcell hreps h1
      go_enter Try.func48, Try.ntmps48
      go_wp2_with (at_builtin; refine wpList_append_own _ rfl _ _ 26 rfl w.heap.size 44 i0 _ 2 16 Try.underlying26 hi hz0 hz1 hz2 rfl (by decide) _ _ _ rfl (World.ownsRow_made w #[] 0 (Nat.le_refl _) (Nat.zero_le _) (by simp)) ad l0.length c0 inner rfl ?qc1 ?qc2 ?qc3 ?qc4 ?qc5 ?qc6 ?_)
      (try case qc1 => exact hil)
      case qc2 =>
        intro j u hj
        exact Lib.cell?_alloc_some _ (A.out j u hj)
      case qc3 => exact H1.out
      case qc4 => simp only [maxLen]; omega
      case qc5 => omega
      (try case qc6 => simp)
      intro v' w1 hown hgrow hnil
      go_wp2
      go_ret
      have hB : Below w.heap.size w w1 := ((Below.refl _ w).alloc (Nat.le_refl _) _).grown hgrow (by simp) (by intro k hk; simp [Value.ownBlock] at hk; omega)
      refine ⟨v', rfl, ⟨fun _ _ => trivial, inner, (show w1.ownsRow w.heap.size 44 2 v' l0.length inner by simpa using hown), HR.out.1, fun j p hp => ?_⟩, hB⟩
      obtain ⟨c1, c2, e, e1, e2⟩ := HR.out.2 j p hp
      exact ⟨c1, c2, e, e1, e2⟩
  · rw [if_neg hl] at h
    exact absurd h (by simp)
def sortC_lays_ren : Go.Shelf.Ren := ⟨fun | 6 => 70 | 15 => 79 | 14 => 78 | 28 => 90 | 29 => 91 | 20 => 82 | 21 => 83 | 22 => 84 | 23 => 85 | 24 => 86 | 25 => 87 | 26 => 88 | 27 => 89 | 46 => 92 | 47 => 93 | 48 => 94 | 49 => 95 | 50 => 96 | 57 => 97 | n => n, fun | 22 => 26 | 24 => 44 | 25 => 65 | 3 => 3 | 39 => 84 | 0 => 0 | 53 => 93 | 55 => 95 | 4 => 4 | 46 => 87 | 45 => 86 | 50 => 81 | 5 => 5 | 9 => 9 | 66 => 96 | 70 => 100 | 76 => 102 | 77 => 103 | n => n, fun n => n⟩
theorem sortC_lays : SlLaysF0.n6 Try.prog sortC_lays_ren where
  mixed := by kernel_rfl
  f6 := ⟨Try.f70.name, by kernel_rfl, Try.func70.trans (congrArg some (by kernel_rfl))⟩
  f14 := ⟨Try.f78.name, by kernel_rfl, Try.func78.trans (congrArg some (by kernel_rfl))⟩
  f15 := Try.func79.trans (congrArg some (by kernel_rfl))
  f20 := ⟨Try.f82.name, by kernel_rfl, Try.func82.trans (congrArg some (by kernel_rfl))⟩
  f21 := ⟨Try.f83.name, by kernel_rfl, Try.func83.trans (congrArg some (by kernel_rfl))⟩
  f22 := ⟨Try.f84.name, by kernel_rfl, Try.func84.trans (congrArg some (by kernel_rfl))⟩
  f23 := ⟨Try.f85.name, by kernel_rfl, Try.func85.trans (congrArg some (by kernel_rfl))⟩
  f24 := ⟨Try.f86.name, by kernel_rfl, Try.func86.trans (congrArg some (by kernel_rfl))⟩
  f25 := ⟨Try.f87.name, by kernel_rfl, Try.func87.trans (congrArg some (by kernel_rfl))⟩
  f26 := ⟨Try.f88.name, by kernel_rfl, Try.func88.trans (congrArg some (by kernel_rfl))⟩
  f27 := ⟨Try.f89.name, by kernel_rfl, Try.func89.trans (congrArg some (by kernel_rfl))⟩
  f28 := Try.func90.trans (congrArg some (by kernel_rfl))
  f29 := Try.func91.trans (congrArg some (by kernel_rfl))
  f46 := ⟨Try.f92.name, by kernel_rfl, Try.func92.trans (congrArg some (by kernel_rfl))⟩
  f47 := Try.func93.trans (congrArg some (by kernel_rfl))
  f48 := Try.func94.trans (congrArg some (by kernel_rfl))
  f49 := ⟨Try.f95.name, by kernel_rfl, Try.func95.trans (congrArg some (by kernel_rfl))⟩
  f50 := ⟨Try.f96.name, by kernel_rfl, Try.func96.trans (congrArg some (by kernel_rfl))⟩
  f57 := ⟨Try.f97.name, by kernel_rfl, Try.func97.trans (congrArg some (by kernel_rfl))⟩
  t0 := Try.underlying0
  a0 := Try.isAgg0
  z0 := Try.sizeOf0
  v0 := Try.zeroValue0
  t3 := Try.underlying3
  a3 := Try.isAgg3
  z3 := Try.sizeOf3
  v3 := Try.zeroValue3
  t4 := Try.underlying4
  a4 := Try.isAgg4
  z4 := Try.sizeOf4
  v4 := Try.zeroValue4
  t5 := Try.underlying5
  a5 := Try.isAgg5
  z5 := Try.sizeOf5
  v5 := Try.zeroValue5
  t9 := Try.underlying9
  a9 := Try.isAgg9
  z9 := Try.sizeOf9
  v9 := Try.zeroValue9
  t22 := Try.underlying26
  a22 := Try.isAgg26
  z22 := Try.sizeOf26
  v22 := Try.zeroValue26
  t25 := Try.underlying65
  a25 := Try.isAgg65
  z25 := Try.sizeOf65
  v25 := Try.zeroValue65
  t39 := Try.underlying84
  a39 := Try.isAgg84
  z39 := Try.sizeOf84
  v39 := Try.zeroValue84
  t45 := Try.underlying86
  a45 := Try.isAgg86
  z45 := Try.sizeOf86
  v45 := Try.zeroValue86
  t46 := Try.underlying87
  a46 := Try.isAgg87
  z46 := Try.sizeOf87
  v46 := Try.zeroValue87
  t50 := Try.underlying81
  a50 := Try.isAgg81
  z50 := Try.sizeOf81
  v50 := Try.zeroValue81
  t53 := Try.underlying93
  a53 := Try.isAgg93
  z53 := Try.sizeOf93
  v53 := Try.zeroValue93
  t55 := Try.underlying95
  a55 := Try.isAgg95
  z55 := Try.sizeOf95
  v55 := Try.zeroValue95
  t66 := Try.underlying96
  a66 := Try.isAgg96
  z66 := Try.sizeOf96
  v66 := Try.zeroValue96
  t70 := Try.underlying100
  a70 := Try.isAgg100
  z70 := Try.sizeOf100
  v70 := Try.zeroValue100
  t76 := Try.underlying102
  a76 := Try.isAgg102
  z76 := Try.sizeOf102
  v76 := Try.zeroValue102
  t77 := Try.underlying103
  a77 := Try.isAgg103
  z77 := Try.sizeOf103
  v77 := Try.zeroValue103
def cI (a b : Int) : Int := if a < b then -1 else if a > b then 1 else 0
def cmpV (x y : S44) : Int := if cI x.f1 y.f1 = 0 then cI x.f0 y.f0 else cI x.f1 y.f1
open Go.Sort
instance instSortC : Inhabited S44 := ⟨z44⟩
abbrev encC (x : S44) : List Value := [.int .i64 x.f0, .int .i64 x.f1]
theorem putRow_heap (w : World) (g : Nat) (F : Array Value) {cur : Array Value} {e : TypeId} {fr : Nat × Nat} (h : w.heap[g]? = some (.cells cur e fr)) : (Go.Sort.putRow id w g 0 F).heap[g]? = some (.cells (Go.Sort.putCells id 0 F cur) e fr) := by
  unfold Go.Sort.putRow Go.Sort.mapBlock
  rw [Array.getElem?_modify, if_pos rfl, h]
  rfl
theorem putCells_take (F cur : Array Value) (h : F.size ≤ cur.size) : (Go.Sort.putCells id 0 F cur).toList.take F.size = F.toList := by
  apply List.ext_getElem?
  intro i
  by_cases hi : i < F.size
  · rw [List.getElem?_take_of_lt hi]
    simp only [Go.Sort.putCells, Array.getElem?_toList, Array.getElem?_mapIdx]
    rw [Array.getElem?_eq_getElem (show i < cur.size by omega), Array.getElem?_eq_getElem hi, Option.map_some, if_pos (by omega)]
    simp [getElem!_pos F i hi]
  · rw [List.getElem?_eq_none (by simp; omega), List.getElem?_eq_none (by simp; omega)]
theorem own_put {w : World} {base g cap n size : Nat} {e : TypeId} {xs : List Value} (h : w.ownsRow base e size (.slice (some ⟨g, 0, none⟩) n cap) n xs) (F : Array Value) (hF : F.size = n * size) : (Go.Sort.putRow id w g 0 F).ownsRow base e size (.slice (some ⟨g, 0, none⟩) n cap) n F.toList := by
  obtain ⟨h1, h2⟩ := h
  refine ⟨by simpa using hF, ?_⟩
  rcases h2 with ⟨h2, _⟩ | ⟨g', cap', cur, h2, h3, h4, h5, h6, h7, h8⟩
  · cases h2
  · injection h2 with h2 _ h9
    injection h2 with h2
    injection h2 with h2
    subst h2 h9
    refine .inr ⟨g, cap, _, rfl, h3, putRow_heap w g F h4, h5, h6, by simpa [Go.Sort.putCells] using h7, ?_⟩
    rw [← hF]
    exact putCells_take F cur (by rw [hF, h7]; exact Nat.mul_le_mul_right _ h5)
theorem flat_get (d : Array S44) (t : Nat) (ht : t < d.size * 2) : (flatK encC 2 d).toList[t]? = (encC d[t / 2]!)[t % 2]? := by
  have hs : (flatK encC 2 d).size = d.size * 2 := size_flatK _ _ _
  have h := get_flatK encC 2 d t ht
  have ht' : t < (flatK encC 2 d).size := by rw [hs]; exact ht
  rw [Array.getElem?_toList, Array.getElem?_eq_getElem ht', ← getElem!_pos (flatK encC 2 d) t ht', h]
  have hm : t % 2 < (encC d[t / 2]!).length := Nat.mod_lt _ (by decide)
  rw [List.getElem?_eq_getElem hm, getElem!_pos (encC d[t / 2]!) (t % 2) hm]
theorem flat_reps (d : Array S44) (w : World) (base : Nat) (ok : Nat → Prop) : Reps (k44.M w base ok) 2 d.toList (flatK encC 2 d).toList := by
  refine ⟨by simp, fun j p hp => ?_⟩
  have hj : j < d.size := by
    have := List.getElem?_eq_some_iff.1 hp
    obtain ⟨h, _⟩ := this
    simpa using h
  have e : ((flatK encC 2 d).toList.drop (j * 2)).take 2 = encC p := by
    apply List.ext_getElem?
    intro i
    by_cases hi : i < 2
    · rw [List.getElem?_take_of_lt hi, List.getElem?_drop, flat_get d (j * 2 + i) (by omega)]
      have e1 : (j * 2 + i) / 2 = j := by omega
      have e2 : (j * 2 + i) % 2 = i := by omega
      rw [e1, e2]
      have e3 : d[j]! = p := by
        rw [getElem!_pos d j hj]
        rw [Array.getElem?_toList, Array.getElem?_eq_getElem hj] at hp
        exact Option.some.inj hp
      rw [e3]
    · rw [List.getElem?_eq_none (by simp; omega), List.getElem?_eq_none (by simp; omega)]
  rw [e]
  exact ⟨_, _, rfl, rfl, rfl⟩
theorem R_putK {w : World} {base g cap : Nat} {ok : Nat → Prop} {xs : List S44} (h : Kd.R k44 44 w base ok (.slice (some ⟨g, 0, none⟩) xs.length cap) xs) (d : Array S44) (hd : d.size = xs.length) : Kd.R k44 44 (putRowK encC 2 w g 0 d) base ok (.slice (some ⟨g, 0, none⟩) xs.length cap) d.toList := by
  obtain ⟨h1, inner, h2, h3⟩ := h
  have hl : d.toList.length = xs.length := by simpa using hd
  refine ⟨h1, (flatK encC 2 d).toList, ?_, flat_reps d _ _ _⟩
  rw [hl]
  exact own_put h2 _ (by rw [size_flatK, hd]; rfl)
theorem R_holds {w : World} {base g cap : Nat} {ok : Nat → Prop} {xs : List S44} (h : Kd.R k44 44 w base ok (.slice (some ⟨g, 0, none⟩) xs.length cap) xs) : HoldsK encC 2 w g 0 xs.toArray := by
  obtain ⟨h1, inner, ⟨h2, h3⟩, h4, h5⟩ := h
  rcases h3 with ⟨h3, _⟩ | ⟨g', cap', cur, h3, h6, h7, h8, h9, h10, h11⟩
  · cases h3
  · injection h3 with h3 _ h12
    injection h3 with h3
    injection h3 with h3
    subst h3 h12
    intro t ht
    rw [size_flatK] at ht
    have ht2 : t < xs.length * 2 := by simpa using ht
    refine ⟨?_, by rw [Nat.zero_add]; exact blk_frozen h7 t⟩
    rw [Nat.zero_add, blk_cell h7 t]
    have e1 : cur[t]? = inner[t]? := by
      rw [← h11, List.getElem?_take_of_lt (by exact ht2), Array.getElem?_toList]
    have hj : t / 2 < xs.length := by omega
    obtain ⟨c1, c2, hc, hc1, hc2⟩ := h5 (t / 2) xs[t / 2] (List.getElem?_eq_getElem hj)
    have e2 : inner[t]? = (encC xs[t / 2])[t % 2]? := by
      have e3 : ((inner.drop (t / 2 * 2)).take 2)[t % 2]? = inner[t]? := by
        rw [List.getElem?_take_of_lt (Nat.mod_lt _ (by decide)), List.getElem?_drop]
        congr 1
        omega
      rw [← e3]
      have : (inner.drop (t / 2 * 2)).take 2 = encC xs[t / 2] := by
        refine hc.trans ?_
        rw [show c1 = [.int .i64 (xs[t / 2]).f0] from hc1, show c2 = [.int .i64 (xs[t / 2]).f1] from hc2]
        rfl
      rw [this]
    have ht' : t < (flatK encC 2 xs.toArray).size := by rw [size_flatK]; exact ht
    have e4 := flat_get xs.toArray t ht
    rw [Array.getElem?_toList, Array.getElem?_eq_getElem ht'] at e4
    rw [e1, e2]
    have e5 : xs.toArray[t / 2]! = xs[t / 2] := by rw [getElem!_pos xs.toArray (t / 2) (by simpa using hj)]; simp
    rw [e5] at e4
    rw [← e4, getElem!_pos _ t ht']
    rfl
theorem cI_eq (a b : Int) : cmp_Compare_int64.f a b = some (cI a b) := by
  unfold cmp_Compare_int64.f cmp_isNaN_int64.f cI
  simp only [bne_self_eq_false, Option.bind_some, Bool.false_eq_true, if_false]
  split
  · rfl
  · split <;> rfl
theorem cmpV_eq (x y : S44) : impl_compareCells.f x.f0 x.f1 y.f0 y.f1 = some (cmpV x y) := by
  unfold impl_compareCells.f cmpV
  simp only [cI_eq, Option.bind_some]
  split <;> rfl
theorem ltV (x y : S44) : ltOf cmpV x y = decide (x.f1 < y.f1 ∨ x.f1 = y.f1 ∧ x.f0 < y.f0) := by
  unfold ltOf cmpV cI
  rw [Bool.eq_iff_iff]
  rw [decide_eq_true_eq (p := x.f1 < y.f1 ∨ x.f1 = y.f1 ∧ x.f0 < y.f0)]
  constructor
  · intro h
    rw [decide_eq_true_eq] at h
    repeat' split at h
    all_goals omega
  · intro h
    rw [decide_eq_true_eq]
    repeat' split
    all_goals omega
theorem swoV : SWO (ltOf cmpV) where
  irrefl x := by rw [ltV]; simp
  trans x y z h1 h2 := by
    rw [ltV] at *
    simp only [decide_eq_true_eq] at *
    omega
  ntrans x y z h1 h2 := by
    rw [ltV] at *
    simp only [decide_eq_false_iff_not] at *
    omega
theorem antiV (x y : S44) (h1 : ltOf cmpV x y = false) (h2 : ltOf cmpV y x = false) : x = y := by
  rw [ltV] at *
  simp only [decide_eq_false_iff_not] at *
  obtain ⟨a, b⟩ := x
  obtain ⟨c, d⟩ := y
  simp only [S44.mk.injEq]
  simp only at h1 h2
  omega
def sortC (l : List S44) : List S44 := l.mergeSort fun x y => !ltOf cmpV y x
theorem sortW_grown (w : World) (g n : Nat) (d : Array S44) (os : Array Obj) : w.grownBy (sortWorldK encC 2 w g 0 n d os) (some g) := by
  refine ⟨rfl, rfl, rfl, ?_, fun k hk hne => ?_⟩
  · show w.heap.size ≤ ((w.heap.modify g _) ++ os).size
    simp
  · show ((w.heap.modify g _) ++ os)[k]? = w.heap[k]?
    rw [Array.getElem?_append_left (by simpa using hk), Array.getElem?_modify, if_neg]
    intro e
    exact hne (by rw [e])
theorem R_growO {w : World} {base : Nat} {ok : Nat → Prop} {v : Value} {xs : List S44} (h : Kd.R k44 44 w base ok v xs) (os : Array Obj) : Kd.R k44 44 (grow w os) base ok v xs := by
  refine Kd.R_mono (Kd.R_move (Kd.R_bound h) (fun k hk => ?_)) (fun _ hk => hk.1)
  show (w.heap ++ os)[k]? = w.heap[k]?
  rw [Array.getElem?_append_left hk.2.2.1]
def impl_Cell_70__impl_compareCells.f (l0 : List S44) : Option (List S44) := if 0 < l0.length ∧ l0.length < 4611686018427387904 then some (sortC l0) else none
set_option maxHeartbeats 4000000 in
theorem impl_Cell_70__impl_compareCells.calls (P0_ : Nat → Prop) (u9000_ : Value) (l0 : List S44) (r : List S44) (w0 w : World) (hB : Below w0.heap.size w0 w) (ho0 : Kd.R k44 44 w w0.heap.size P0_ u9000_ l0) (h : impl_Cell_70__impl_compareCells.f l0 = some r) :
    Calls Try.prog 70 #[u9000_, .func (.func 56) #[] #[]] w fun e w' => e = .returned (.tuple #[]) ∧ Kd.R k44 44 w' w0.heap.size (fun k_ => (P0_ k_ ∨ w.heap.size ≤ k_)) u9000_ r ∧ Below w0.heap.size w0 w' ∧ Kept w w' (fun k_ => P0_ k_) := by
  unfold impl_Cell_70__impl_compareCells.f at h
  by_cases hl : 0 < l0.length ∧ l0.length < 4611686018427387904
  · rw [if_pos hl] at h
    obtain rfl := Option.some.inj h
    obtain ⟨g, cap, rfl, hbase, hlt, hcells⟩ := Kd.R_form ho0 hl.1
    have hH := R_holds ho0
    have eg : ∀ args w, (callFunc 56 args).run Try.prog w = .ok (.enter 56 args) w := enters_of Try.func56 (by kernel_rfl) rfl
    have hcmp : CmpLays Try.prog 56 #[] encC 2 cmpV g 0 l0.toArray.size w := fun m os dk hdk x y =>
      (impl_compareCells.callsG x.f0 x.f1 y.f0 y.f1 (cmpV x y) _ (cmpV_eq x y)).mono fun _ _ hh => ⟨hh.1, hh.2.gr⟩
    have hcon := AnyQ.slices_SortFunc sortC_lays 2 Try.isAgg44 Try.sizeOf44 encC (fun _ => rfl) (fun x v hv => by simp [encC] at hv; rcases hv with rfl | rfl <;> rfl) cmpV swoV 56 #[] g 0 cap l0.toArray w eg hcmp hH hlt (by simpa using hl.2)
    have hsz : l0.toArray.size = l0.length := by simp
    rw [hsz] at hcon
    refine (show Calls Try.prog 70 #[.slice (some ⟨g, 0, none⟩) l0.length cap, .func (.func 56) #[] #[]] w _ from hcon).mono ?_
    rintro e w' ⟨rfl, d', n, os, hp, hs, rfl⟩
    have hd : d'.size = l0.length := by rw [hp.1]; simp
    have hr : d'.toList = sortC l0 := by
      have := sorted_unique_holds swoV antiV l0.toArray d' (by rw [hsz]; exact hp) (by rw [hsz]; exact hs)
      simpa [sortC] using this
    have hgw := sortW_grown w g n d' os
    refine ⟨rfl, ?_, pw_below_grown hB (some g) hB.size hgw (fun k hk => by injection hk with hk; exact hk ▸ hbase), ?_⟩
    · have h1 : Kd.R k44 44 (Go.Sort.ahead w n) w0.heap.size P0_ (.slice (some ⟨g, 0, none⟩) l0.length cap) l0 := Kd.R_drewN ho0 n
      have h2 := R_growO (R_putK h1 d' hd) os
      rw [hr] at h2
      exact Kd.R_mono h2 (fun _ hk => .inl hk)
    · refine ⟨hgw.size, fun i hi hn => hgw.block i hi ?_⟩
      intro e
      injection e with e
      exact hn (e ▸ ho0.1 g rfl)
  · rw [if_neg hl] at h
    exact absurd h (by simp)
def impl_sorted.f (l0 : List (S44)) : Option ((List (S44))) := (impl_Cell_48.f l0).bind fun t653 => ((impl_Cell_70__impl_compareCells.f t653).bind fun t656 => (some t656))
theorem impl_sorted.calls (A0 : Option Addr) (c0 : Nat) (l0 : List (S44)) (r : List (S44)) (w : World) (hr0 : Kd.C k44 w A0 l0.length l0) (hc0 : l0.length ≤ c0) (h : impl_sorted.f l0 = some r) :
  Calls Try.prog 49 #[.slice A0 l0.length c0] w fun e w' => ∃ v0_ : Value, e = .returned (v0_) ∧ Kd.R k44 44 w' w.heap.size (fun _ => True) v0_ r ∧ Below w.heap.size w w' := by
 have HR0 := aM hr0
 have HC0 := aM hc0
 clear hr0 hc0
 have HB := aM (Below.refl w.heap.size w)
 have H : ((impl_Cell_48.f l0).bind fun t653 => ((impl_Cell_70__impl_compareCells.f t653).bind fun t656 => (some t656))) = some r := h
 clear h
 replace H := Option.bind_eq_some_iff.mp H
 obtain ⟨t653, A20, H⟩ := H
 replace H : ((impl_Cell_70__impl_compareCells.f t653).bind fun t656 => (some t656)) = some r := H
 have A2 := aM A20
 clear A20
 replace H := Option.bind_eq_some_iff.mp H
 obtain ⟨t656, A30, H⟩ := H
 replace H : (some t656) = some r := H
 have A3 := aM A30
 clear A30
 obtain rfl := Option.some.inj H
 go_enter Try.func49, Try.ntmps49
 go_wp2_with (first | ((with_reducible refine gate_callee (f := 48) rfl ?_); refine goesL_ (some 5) rfl rfl Try.func48 (by kernel_rfl) rfl #[.slice A0 l0.length c0] rfl zm ?_; (with_reducible refine (impl_Cell_48.calls _ _ l0 t653 _ ?side1 ?side2 A2.out).mono ?_); (case side1 => repeat (first | exact HR0.out | (with_reducible refine Kd.C_alloc ?_ _) | (with_reducible refine Kd.C_drewN ?_ _) | (with_reducible refine Kd.C_drew ?_))); (case side2 => exact HC0.out); rintro e w4 ⟨v654, rfl, ho0, hb⟩; refine ⟨_, rfl, ?_⟩; have n0_ := aM (Kd.R_lower ho0 (below_size zb)); have n1_ := aM (below_step zb hb); clear HB; have HO655 := n0_; have HB := n1_; clear n0_ n1_; (try clear hb); (try clear hb2); (try clear hk); (try clear hi); (try clear ho0); obtain ⟨Ao5, co5, eo5⟩ := Kd.R_slice HO655.out; subst eo5) | ((with_reducible refine gate_callee (f := 70) rfl ?_); refine goesL_ (some 7) rfl rfl Try.func70 (by kernel_rfl) rfl #[.slice Ao5 t653.length co5, .func (.func 56) #[] #[]] rfl zm ?_; (with_reducible refine (impl_Cell_70__impl_compareCells.calls (fun k_ => some k_ = (.slice Ao5 t653.length co5 : Value).ownBlock) (.slice Ao5 t653.length co5) t653  t656 w _ ?side1 ?side2 A3.out).mono ?_); (case side1 => repeat (first | (with_reducible first | exact HB.out | apply below_alloc | apply pw_below_drewN | apply below_drew1) | exact HB.out)); (case side2 => exact Kd.R_tight rfl HO655.out); rintro e w6 ⟨rfl, hy0, hb, hkp⟩; refine ⟨_, rfl, ?_⟩; have n0_ := aM (Kd.R_reok rfl hy0 (fun k_ e_ => HO655.out.1 k_ e_)); have n1_ := aM (hb); clear HO655 HB; have HO655 := n0_; have HB := n1_; clear n0_ n1_; (try clear hb); (try clear hkp); (try clear hy0)))
 go_ret
 exact ⟨_, zw, mR_ HO655.out, zb⟩
def impl_FillHoles.l0 : Nat → List (S44) → List (List (S44)) → Int → Int → Option ((List (S44)) × Int)
 | 0, _, _, _, _ => none
 | k + 1, x5, x16, x17, x18 => if x18 < x17 then (if 0 ≤ x18 then (if x18 < (x16.length : Int) then (if x5.length + (rd_L2 x16 x18).length < 8796093022208 then (impl_FillHoles.l0 k (x5 ++ (rd_L2 x16 x18)) x16 x17 (wrap64 (x18 + 1))) else (none)) else (none)) else (none)) else ((impl_sorted.f x5).bind fun t668 => ((impl_IsShape.f k t668).bind fun t671 => (if t671 = true then (some (t668, 0)) else (some (([] : List (S44)), 3)))))
def impl_FillHoles.f (k : Nat) (l0 : List (S44)) : Option ((List (S44)) × Int) := (impl_shapeCode.f k l0).bind fun t657 => (if t657 = 0 then ((impl_Cell_48.f l0).bind fun t658 => ((impl_holes.f k l0).bind fun t661 => (impl_FillHoles.l0 k t658 t661 (t661.length : Int) 0))) else (some (([] : List (S44)), t657)))
theorem impl_FillHoles.calls (k : Nat) (A0 : Option Addr) (c0 : Nat) (l0 : List (S44)) (r1 : List (S44)) (r2 : Int) (w : World) (hr0 : Kd.C k44 w A0 l0.length l0) (hc0 : l0.length ≤ c0) (h : impl_FillHoles.f k l0 = some (r1, r2)) :
  Calls Try.prog 26 #[.slice A0 l0.length c0] w fun e w' => ∃ v0_ : Value, e = .returned (.tuple #[v0_, .int .i64 r2]) ∧ Kd.R k44 44 w' w.heap.size (fun _ => True) v0_ r1 ∧ Below w.heap.size w w' := by
 have HR0 := aM hr0
 have HC0 := aM hc0
 clear hr0 hc0
 have HB := aM (Below.refl w.heap.size w)
 have H : ((impl_shapeCode.f k l0).bind fun t657 => (if t657 = 0 then ((impl_Cell_48.f l0).bind fun t658 => ((impl_holes.f k l0).bind fun t661 => (impl_FillHoles.l0 k t658 t661 (t661.length : Int) 0))) else (some (([] : List (S44)), t657)))) = some (r1, r2) := h
 clear h
 replace H := Option.bind_eq_some_iff.mp H
 obtain ⟨t657, A20, H⟩ := H
 replace H : (if t657 = 0 then ((impl_Cell_48.f l0).bind fun t658 => ((impl_holes.f k l0).bind fun t661 => (impl_FillHoles.l0 k t658 t661 (t661.length : Int) 0))) else (some (([] : List (S44)), t657))) = some (r1, r2) := H
 have A2 := aM A20
 clear A20
 by_cases c3 : t657 = 0
 rotate_left
 ·rw [if_neg c3] at H
  have c3b0 : (t657 == 0) = false := beq_eq_false_iff_ne.mpr c3
  have c3b1 : (t657 != 0) = true := bne_iff_ne.mpr c3
  simp only [Option.some.injEq, Prod.mk.injEq] at H
  obtain ⟨rfl, rfl⟩ := H
  go_enter Try.func26, Try.ntmps26
  go_wp2_with (first | ((with_reducible refine gate_callee (f := 45) rfl ?_); refine goesL_ (some 9) rfl rfl Try.func45 (by kernel_rfl) rfl #[.slice A0 l0.length c0] rfl zm ?_; (with_reducible refine (impl_shapeCode.calls k _ _ l0 t657 _ ?side1 ?side2 A2.out).mono ?_); (case side1 => repeat (first | exact HR0.out | (with_reducible refine Kd.C_alloc ?_ _) | (with_reducible refine Kd.C_drewN ?_ _) | (with_reducible refine Kd.C_drew ?_))); (case side2 => exact HC0.out); rintro e w26 ⟨rfl, hb⟩; refine ⟨_, rfl, ?_⟩; have n0_ := aM (below_step zb hb); clear HB; have HB := n0_; clear n0_; (try clear hb); (try clear hb2); (try clear hk); (try clear hi)))
  go_ret2
  exact ⟨_, zw, by first | exact Kd.R_nil _ _ _ _ _ | exact Kd.N_nil _ _ _ _ _ | exact Kd.V_nil _ _ _ _ _ | exact Kd.Q_nil _ _ _ _ _ | exact Kd.S_nil _ _ _ _ _, zb⟩
 rw [if_pos c3] at H
 have c3b0 : (t657 == 0) = true := beq_iff_eq.mpr c3
 have c3b1 : (t657 != 0) = false := bne_eq_false_iff_eq.mpr c3
 clear c3
 replace H := Option.bind_eq_some_iff.mp H
 obtain ⟨t658, A40, H⟩ := H
 replace H : ((impl_holes.f k l0).bind fun t661 => (impl_FillHoles.l0 k t658 t661 (t661.length : Int) 0)) = some (r1, r2) := H
 have A4 := aM A40
 clear A40
 replace H := Option.bind_eq_some_iff.mp H
 obtain ⟨t661, A50, H⟩ := H
 replace H : (impl_FillHoles.l0 k t658 t661 (t661.length : Int) 0) = some (r1, r2) := H
 have A5 := aM A50
 clear A50
 have H' := aM H
 clear H
 go_enter Try.func26, Try.ntmps26
 go_wp2_with (first | ((with_reducible refine gate_callee (f := 45) rfl ?_); refine goesL_ (some 9) rfl rfl Try.func45 (by kernel_rfl) rfl #[.slice A0 l0.length c0] rfl zm ?_; (with_reducible refine (impl_shapeCode.calls k _ _ l0 t657 _ ?side1 ?side2 A2.out).mono ?_); (case side1 => repeat (first | exact HR0.out | (with_reducible refine Kd.C_alloc ?_ _) | (with_reducible refine Kd.C_drewN ?_ _) | (with_reducible refine Kd.C_drew ?_))); (case side2 => exact HC0.out); rintro e w6 ⟨rfl, hb⟩; refine ⟨_, rfl, ?_⟩; have n0_ := aM (below_step zb hb); clear HB; have HB := n0_; clear n0_; (try clear hb); (try clear hb2); (try clear hk); (try clear hi)) | ((with_reducible refine gate_callee (f := 48) rfl ?_); refine goesL_ (some 14) rfl rfl Try.func48 (by kernel_rfl) rfl #[.slice A0 l0.length c0] rfl zm ?_; (with_reducible refine (impl_Cell_48.calls _ _ l0 t658 _ ?side1 ?side2 A4.out).mono ?_); (case side1 => repeat (first | exact (Kd.C_below HR0.out HB.out) | (with_reducible refine Kd.C_alloc ?_ _) | (with_reducible refine Kd.C_drewN ?_ _) | (with_reducible refine Kd.C_drew ?_))); (case side2 => exact HC0.out); rintro e w7 ⟨v659, rfl, ho0, hb⟩; refine ⟨_, rfl, ?_⟩; have n0_ := aM (Kd.R_lower ho0 (below_size zb)); have n1_ := aM (below_step zb hb); clear HB; have HO660 := n0_; have HB := n1_; clear n0_ n1_; (try clear hb); (try clear hb2); (try clear hk); (try clear hi); (try clear ho0)) | ((with_reducible refine gate_callee (f := 46) rfl ?_); refine goesL_ (some 16) rfl rfl Try.func46 (by kernel_rfl) rfl #[.slice A0 l0.length c0] rfl zm ?_; (with_reducible refine (impl_holes.calls k _ _ l0 t661 _ ?side1 ?side2 A5.out).mono ?_); (case side1 => repeat (first | exact (Kd.C_below HR0.out HB.out) | (with_reducible refine Kd.C_alloc ?_ _) | (with_reducible refine Kd.C_drewN ?_ _) | (with_reducible refine Kd.C_drew ?_))); (case side2 => exact HC0.out); rintro e w8 ⟨v662, rfl, ho0, hb⟩; refine ⟨_, rfl, ?_⟩; have n0_ := aM (Kd.R_below (mR_ HO660.out) hb); have n1_ := aM (Kd.N_lower (Kd.N_mono (ok' := fun k_ => some k_ ≠ (v659 : Value).ownBlock) ho0 (fun k_ hk_ => (Kd.fresh' (Kd.R_lt (mR_ HO660.out)) k_ hk_))) (below_size zb)); have n2_ := aM (below_step zb hb); clear HO660 HB; have HO660 := n0_; have HO663 := n1_; have HB := n2_; clear n0_ n1_ n2_; (try clear hb); (try clear hb2); (try clear hk); (try clear hi); (try clear ho0); obtain ⟨Ao9, co9, eo9⟩ := Kd.N_slice HO663.out; subst eo9))
 go_loopg [5, 18] k (fun kq v5 v18 w' => ∃ (x5_1 : List (S44)) (x18_1 : Int), v18 = .int .i64 x18_1 ∧ Aside0 (impl_FillHoles.l0 kq x5_1 t661 (t661.length : Int) x18_1 = some (r1, r2)) ∧ Aside0 (kq ≤ k) ∧ Aside0 (Kd.R k44 44 w' w.heap.size (fun _ => True) v5 x5_1) ∧ Aside0 (Kd.N (Kd.slice 44 k44) 26 w' w.heap.size (fun k_ => some k_ ≠ (v5 : Value).ownBlock) (.slice Ao9 t661.length co9) t661) ∧ Aside0 (Below w.heap.size w w'))
 case atStart => exact ⟨(t658), (0), zr, H', ⟨Nat.le_refl _⟩, ⟨mR_ HO660.out⟩, ⟨mN_ HO663.out⟩, ⟨zb⟩⟩
 case round =>
  clear H'
  try clear c2
  try clear p2
  try clear c3
  try clear c3b0
  try clear c3b1
  try clear c4
  obtain ⟨x5_1, x18_1, rfl, HA, HK1, HO_5, HO_16, HB⟩ := hrel
  cases gk with
  | zero => exact absurd HA.out (by simp [impl_FillHoles.l0])
  | succ k1 =>
   have H := HA.out
   clear HA
   simp only [impl_FillHoles.l0] at H
   by_cases c10 : x18_1 < (t661.length : Int)
   rotate_left
   ·rw [if_neg c10] at H
    have c10b0 : decide (x18_1 < (t661.length : Int)) = false := decide_eq_false c10
    clear c10
    replace H := Option.bind_eq_some_iff.mp H
    obtain ⟨t668, A150, H⟩ := H
    replace H : ((impl_IsShape.f k1 t668).bind fun t671 => (if t671 = true then (some (t668, 0)) else (some (([] : List (S44)), 3)))) = some (r1, r2) := H
    have A15 := aM A150
    clear A150
    replace H := Option.bind_eq_some_iff.mp H
    obtain ⟨t671, A160, H⟩ := H
    replace H : (if t671 = true then (some (t668, 0)) else (some (([] : List (S44)), 3))) = some (r1, r2) := H
    have A16 := aM A160
    clear A160
    by_cases c17 : t671 = true
    ·subst c17
     have H1 : (some (t668, 0)) = some (r1, r2) := by rw [if_pos rfl] at H; exact H
     clear H
     have H := H1
     clear H1
     simp only [Option.some.injEq, Prod.mk.injEq] at H
     obtain ⟨rfl, rfl⟩ := H
     obtain ⟨Ao18, co18, eo18⟩ := Kd.R_slice HO_5.out
     subst eo18
     go_wp2_with (first | ((with_reducible refine gate_callee (f := 49) rfl ?_); refine goesL_ (some 27) rfl rfl Try.func49 (by kernel_rfl) rfl #[.slice Ao18 x5_1.length co18] rfl zm ?_; (with_reducible refine (impl_sorted.calls _ _ x5_1 t668 _ ?side1 ?side2 A15.out).mono ?_); (case side1 => exact zc HO_5.out); (case side2 => exact (Kd.R_reads' HO_5.out).2.1); rintro e w19 ⟨v669, rfl, ho0, hb⟩; refine ⟨_, rfl, ?_⟩; have n0_ := aM (Kd.R_elder' (mR_ HO_5.out) (Kd.R_base ho0) hb); have n1_ := aM (Kd.N_elder' (mN_ HO_16.out) (Kd.R_base ho0) hb); have n2_ := aM (Kd.R_lower (Kd.R_new' ho0 (Kd.R_lt (mR_ HO_5.out))) (below_size zb)); have n3_ := aM (below_step zb hb); clear HO_5 HO_16 HB; have HO_5 := n0_; have HO_16 := n1_; have HO670 := n2_; have HB := n3_; clear n0_ n1_ n2_ n3_; (try clear hb); (try clear hb2); (try clear hk); (try clear hi); (try clear ho0); obtain ⟨Ao20, co20, eo20⟩ := Kd.R_slice HO670.out; subst eo20) | ((with_reducible refine gate_callee (f := 35) rfl ?_); refine goesL_ (some 29) rfl rfl Try.func35 (by kernel_rfl) rfl #[.slice Ao20 t668.length co20] rfl zm ?_; (with_reducible refine (impl_IsShape.calls k1 _ _ t668 true _ ?side1 ?side2 A16.out).mono ?_); (case side1 => exact zc HO670.out); (case side2 => exact (Kd.R_reads' HO670.out).2.1); rintro e w21 ⟨rfl, hb⟩; refine ⟨_, rfl, ?_⟩; have n0_ := aM (Kd.R_below (mR_ HO_5.out) hb); have n1_ := aM (Kd.N_below (mN_ HO_16.out) hb); have n2_ := aM (Kd.R_below (mR_ HO670.out) hb); have n3_ := aM (below_step zb hb); clear HO_5 HO_16 HO670 HB; have HO_5 := n0_; have HO_16 := n1_; have HO670 := n2_; have HB := n3_; clear n0_ n1_ n2_ n3_; (try clear hb); (try clear hb2); (try clear hk); (try clear hi)))
     go_ret2
     exact ⟨_, zw, zd1 HO670.out, zb⟩
    replace c17 := Bool.eq_false_iff.mpr c17
    subst c17
    have H1 : (some (([] : List (S44)), 3)) = some (r1, r2) := by rw [if_neg (show ¬ (false = true) by decide)] at H; exact H
    clear H
    have H := H1
    clear H1
    simp only [Option.some.injEq, Prod.mk.injEq] at H
    obtain ⟨rfl, rfl⟩ := H
    obtain ⟨Ao22, co22, eo22⟩ := Kd.R_slice HO_5.out
    subst eo22
    go_wp2_with (first | ((with_reducible refine gate_callee (f := 49) rfl ?_); refine goesL_ (some 27) rfl rfl Try.func49 (by kernel_rfl) rfl #[.slice Ao22 x5_1.length co22] rfl zm ?_; (with_reducible refine (impl_sorted.calls _ _ x5_1 t668 _ ?side1 ?side2 A15.out).mono ?_); (case side1 => exact zc HO_5.out); (case side2 => exact (Kd.R_reads' HO_5.out).2.1); rintro e w23 ⟨v669, rfl, ho0, hb⟩; refine ⟨_, rfl, ?_⟩; have n0_ := aM (Kd.R_elder' (mR_ HO_5.out) (Kd.R_base ho0) hb); have n1_ := aM (Kd.N_elder' (mN_ HO_16.out) (Kd.R_base ho0) hb); have n2_ := aM (Kd.R_lower (Kd.R_new' ho0 (Kd.R_lt (mR_ HO_5.out))) (below_size zb)); have n3_ := aM (below_step zb hb); clear HO_5 HO_16 HB; have HO_5 := n0_; have HO_16 := n1_; have HO670 := n2_; have HB := n3_; clear n0_ n1_ n2_ n3_; (try clear hb); (try clear hb2); (try clear hk); (try clear hi); (try clear ho0); obtain ⟨Ao24, co24, eo24⟩ := Kd.R_slice HO670.out; subst eo24) | ((with_reducible refine gate_callee (f := 35) rfl ?_); refine goesL_ (some 29) rfl rfl Try.func35 (by kernel_rfl) rfl #[.slice Ao24 t668.length co24] rfl zm ?_; (with_reducible refine (impl_IsShape.calls k1 _ _ t668 false _ ?side1 ?side2 A16.out).mono ?_); (case side1 => exact zc HO670.out); (case side2 => exact (Kd.R_reads' HO670.out).2.1); rintro e w25 ⟨rfl, hb⟩; refine ⟨_, rfl, ?_⟩; have n0_ := aM (Kd.R_below (mR_ HO_5.out) hb); have n1_ := aM (Kd.N_below (mN_ HO_16.out) hb); have n2_ := aM (Kd.R_below (mR_ HO670.out) hb); have n3_ := aM (below_step zb hb); clear HO_5 HO_16 HO670 HB; have HO_5 := n0_; have HO_16 := n1_; have HO670 := n2_; have HB := n3_; clear n0_ n1_ n2_ n3_; (try clear hb); (try clear hb2); (try clear hk); (try clear hi)))
    go_ret2
    exact ⟨_, zw, by first | exact Kd.R_nil _ _ _ _ _ | exact Kd.N_nil _ _ _ _ _ | exact Kd.V_nil _ _ _ _ _ | exact Kd.Q_nil _ _ _ _ _ | exact Kd.S_nil _ _ _ _ _, zb⟩
   rw [if_pos c10] at H
   have c10b0 : decide (x18_1 < (t661.length : Int)) = true := decide_eq_true c10
   clear c10
   by_cases c11 : 0 ≤ x18_1
   rotate_left
   ·rw [if_neg c11] at H
    exact absurd H (by simp)
   rw [if_pos c11] at H
   have c11b0 : decide (0 ≤ x18_1) = true := decide_eq_true c11
   clear c11
   by_cases c12 : x18_1 < (t661.length : Int)
   rotate_left
   ·rw [if_neg c12] at H
    exact absurd H (by simp)
   rw [if_pos c12] at H
   have c12b0 : decide (x18_1 < (t661.length : Int)) = true := decide_eq_true c12
   clear c12
   by_cases c13 : x5_1.length + (rd_L2 t661 x18_1).length < 8796093022208
   rotate_left
   ·rw [if_neg c13] at H
    exact absurd H (by simp)
   rw [if_pos c13] at H
   have LMc13 := aM c13
   clear c13
   obtain ⟨y665, hy665⟩ : ∃ y_ : List (S44), y_ = (x5_1 ++ (rd_L2 t661 x18_1)) := ⟨_, rfl⟩
   replace H : (impl_FillHoles.l0 k1 y665 t661 (t661.length : Int) (wrap64 (x18_1 + 1))) = some (r1, r2) := zy H hy665
   have Ny665 := aM hy665
   clear hy665
   have H' := aM H
   clear H
   have p664 : 0 ≤ (x18_1 : Int) := of_decide_eq_true za
   have q664 : x18_1 < (t661.length : Int) := of_decide_eq_true za
   obtain ⟨ad664, A664_0, c664_0, e664, hx664_0, hl664_0, hi664_0⟩ := at_L2 (Kd.N_reads' HO_16.out).2.2 x18_1 p664 q664
   cases e664
   obtain ⟨ce664, hce664, hMe664, hcc664⟩ := Kd.N_get HO_16.out [] x18_1 p664 (by first | exact q664 | exact of_decide_eq_true za | (have e_ := (Kd.N_reads' HO_16.out).1; omega))
   obtain ⟨ua664_0, uc664_0, rfl, ul664_0, ge664_0⟩ := Kd.FK_slice_open hMe664
   have hv664_0 := hcc664 0 _ rfl
   rw [Nat.add_zero, show ((Kd.slice 44 k44)).sz = 1 from rfl, Nat.mul_one] at hv664_0
   replace hv664_0 := Option.some.inj (hv664_0.symm.trans hx664_0)
   injection hv664_0 with hva_ hvn_ hvc_
   rw [hva_] at ge664_0
   rw [hvc_] at ul664_0
   have HL664_0 := aM (show Kd.V k44 44 _ w.heap.size _ _ (rd_L2 t661 x18_1) from Kd.V_mk ul664_0 ge664_0)
   clear hva_ hvn_ hvc_ ge664_0 ul664_0
   clear hcc664 hce664
   have HR664_0 := aM hi664_0
   have HC664_0 := aM hl664_0
   clear hi664_0 hl664_0
   replace p664 := eq_true p664
   replace q664 := eq_true q664
   go_wp2_with (first | ((with_reducible refine gate_builtin (b := .append) (xs := #[.tmp 22, .tmp 23]) rfl ?_); at_builtin; refine Kd.R_append_rows k44 (w0 := w) w.heap.size rfl (.tmp 22) (.tmp 23) 26 44 (.agg #[(.int .i64 0), (.int .i64 0)]) 16 rfl Try.underlying26 info44 rfl (by decide) (by omega) u5 x5_1 (rd_L2 t661 x18_1) _ _ _ (fun _ => True) (fun _ => False) rfl rfl ?aO ?aR (fun _ _ h => h) (fun _ h => h.elim) ?aF ?aB ?aS ?aL ?_; (case aR => repeat (first | exact (mQ_ HR664_0.out) | (with_reducible refine Kd.C_alloc ?_ _) | (with_reducible refine Kd.C_drewN ?_ _) | (with_reducible refine Kd.C_drew ?_))); (case aB => exact zb); (case aF => exact (fun _ _ => trivial)); (case aO => exact (mR_ HO_5.out)); (case aS => exact (below_size zb)); (case aL => have := LMc13.out; omega); intro v666 w14 ho hb hg hat; rw [← Ny665.out] at ho; have n0_ := aM (Kd.N_afterv (ok := (fun _ => True)) (zd17 HO_16.out) hg hat); have n1_ := aM (Kd.V_afterv (ok := (fun k_ => some k_ ≠ (.slice (some ad664) t661.length co9 : Value).ownBlock)) (zd16 HL664_0.out) hg hat); have n2_ := aM (hb); have n3_ := aM (ho); clear HO_16 HL664_0 HB HO_5; have HO_16 := n0_; have HL664_0 := n1_; have HB := n2_; have HO667 := n3_; clear n0_ n1_ n2_ n3_; clear ho hb hg hat))
   go_roundg k1
   case measure => have := HK1.out; omega
   case rel => exact ⟨(y665), (wrap64 (x18_1 + 1)), zr, H', ⟨by have := HK1.out; omega⟩, ⟨mR_ HO667.out⟩, ⟨zd18 HO_16.out⟩, ⟨zb⟩⟩
end Go.Proofs.Ytaecheolnpofeaa.F
end
section
namespace Go.Proofs.Ytaecheolnpofeaa.F
open Go.RowKit Go.Proofs.YtaecheolnpofeaaW.PrintWords Go.Proofs.YtaecheolnpofeaaW.PrintLast Go.Proofs.YtaecheolnpofeaaW.PrintMore
attribute [local go_sem] max2_int min2_int max_two min_two max_three min_three max_four min_four
set_option linter.unusedVariables false
set_option linter.unusedSimpArgs false
def spec_l02Draw.l0 : Nat → List (S44) → Int → List Int → Int → Int → Option ((List (S44)) × Int × Int)
 | 0, _, _, _, _, _ => none
 | k + 1, x5, x6, x1000, x1001, x1002 => (spec_l01Next.f x1000 x1001 x1002 2).bind fun bt312 => (if x6 < (wrap64 (40 + bt312.1)) then (if x5.length < 8796093022208 then (spec_l02Draw.l0 k (x5 ++ [(⟨x6, 0⟩ : S44)]) (wrap64 (x6 + 1)) x1000 bt312.2.1 bt312.2.2) else (none)) else (some (x5, bt312.2.1, bt312.2.2)))
def spec_l02Draw.f (k : Nat) (s0_0 : List Int) (s0_1 : Int) (s0_2 : Int) : Option ((List (S44)) × Int × Int) := (spec_l02DrawPoly.f k s0_0 s0_1 s0_2 8).bind fun bt274 => ((spec_l01Next.f s0_0 bt274.2.1 bt274.2.2 9).bind fun bt279 => ((spec_l01Next.f s0_0 bt279.2.1 bt279.2.2 9).bind fun bt282 => ((spec_l02Move.f k bt274.1 (wrap64 (bt279.1 - 4)) (wrap64 (bt282.1 - 4))).bind fun t285 => ((spec_l01Next.f s0_0 bt282.2.1 bt282.2.2 (t285.length : Int)).bind fun bt288 => ((spec_l01Next.f s0_0 bt288.2.1 bt288.2.2 24).bind fun bt291 => (if bt291.1 = 0 then ((some (([(-100), 100, 101] : List Int) : List Int)).bind fun y294 => ((spec_l01Next.f s0_0 bt291.2.1 bt291.2.2 3).bind fun bt297 => (if 0 ≤ bt297.1 then (if bt297.1 < (y294.length : Int) then (if 0 ≤ bt288.1 then (if bt288.1 < (t285.length : Int) then ((spec_l02Sort.f k (t285.set (bt288.1 : Int).toNat (⟨rd y294 bt297.1, (rd_T44 t285 bt288.1).f1⟩ : S44))).bind fun t302 => (some (t302, bt297.2.1, bt297.2.2))) else (none)) else (none)) else (none)) else (none)))) else (if bt291.1 = 1 then (if 0 ≤ bt288.1 then (if bt288.1 < (t285.length : Int) then (if t285.length < 8796093022208 then (some ((t285 ++ [(⟨(rd_T44 t285 bt288.1).f0, (rd_T44 t285 bt288.1).f1⟩ : S44)]), bt291.2.1, bt291.2.2)) else (none)) else (none)) else (none)) else (if bt291.1 = 2 then (some (([] : List (S44)), bt291.2.1, bt291.2.2)) else (if bt291.1 = 3 then (spec_l02Draw.l0 k (([] : List (S44))) 0 s0_0 bt291.2.1 bt291.2.2) else (if bt291.1 = 4 then (if 0 < (t285.length : Int) then (if 0 ≤ (wrap64 ((t285.length : Int) - 1)) then (if (wrap64 ((t285.length : Int) - 1)) < (t285.length : Int) then (if t285.length < 8796093022208 then (some ((t285 ++ [(⟨wrap64 (((rd_T44 t285 0).f0) + 3), wrap64 (((rd_T44 t285 (wrap64 ((t285.length : Int) - 1))).f1) + 2)⟩ : S44)]), bt291.2.1, bt291.2.2)) else (none)) else (none)) else (none)) else (none)) else (if bt291.1 = 5 then (if 0 < (t285.length : Int) then (if 0 ≤ (wrap64 ((t285.length : Int) - 1)) then (if (wrap64 ((t285.length : Int) - 1)) < (t285.length : Int) then (if t285.length < 8796093022208 then (some ((t285 ++ [(⟨wrap64 (((rd_T44 t285 0).f0) + 3), wrap64 (((rd_T44 t285 (wrap64 ((t285.length : Int) - 1))).f1) + 2)⟩ : S44)]), bt291.2.1, bt291.2.2)) else (none)) else (none)) else (none)) else (none)) else (some (t285, bt291.2.1, bt291.2.2)))))))))))))
def spec_l02Draw.T20 : Bool × List (List Nat × List Nat) := (true, [([], []), ([], []), ([1], [1]), ([2], [2]), ([3], [3]), ([4], [4]), ([], []), ([], []), ([7], [7]), ([8], [8]), ([6, 9], [6, 9]), ([10], [10]), ([11], [11]), ([12], [12]), ([5, 13], [5, 13]), ([14], [14]), ([0, 15], [0, 15]), ([16, 16, 0, 1, 2, 3, 4, 5, 6, 7, 8, 9, 10, 11, 12, 13, 14, 15, 16], [16])])
def spec_l02Draw.B20 : List Nat := [0, 0, 2, 6, 14, 30, 0, 0, 128, 384, 960, 1984, 4032, 8128, 16382, 32766, 65535, 131071]
theorem spec_l02Draw.tab20 : rtab .any (opsOf Try.f58 20) = spec_l02Draw.T20 := by kernel_rfl
theorem spec_l02Draw.bits20 : waitsOk spec_l02Draw.T20.2 spec_l02Draw.B20 = true := by kernel_rfl
end Go.Proofs.Ytaecheolnpofeaa.F
end
