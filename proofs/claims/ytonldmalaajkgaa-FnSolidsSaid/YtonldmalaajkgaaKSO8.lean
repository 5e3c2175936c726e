/- The row of FnSolids, with what it needs: text 9 of 13. -/
import Derived.Test.YtonldmalaajkgaaKSO7
set_option maxHeartbeats 8000000
set_option maxRecDepth 100000
section
namespace Go.Proofs.Ytonldmalaajkgaa.F
open Go.RowKit Go.Proofs.YtonldmalaajkgaaW.PrintWords Go.Proofs.YtonldmalaajkgaaW.PrintLast Go.Proofs.YtonldmalaajkgaaW.PrintMore
attribute [local go_sem] max2_int min2_int max_two min_two max_three min_three max_four min_four
set_option linter.unusedVariables false
set_option linter.unusedSimpArgs false
theorem spec_l09Cube.calls (a0_0 : Int) (a0_1 : Int) (a0_2 : Int) (r : Bool) (w : World) (h : spec_l09Cube.f a0_0 a0_1 a0_2 = some r) :
  Calls Try.prog 72 #[.agg #[.int .i64 a0_0, .int .i64 a0_1, .int .i64 a0_2]] w fun e w' => e = .returned (.bool r) ∧ Below w.heap.size w w' := by
 have hu63 := Try.underlying63
 have hu90 := Try.underlying90
 have HB := aM (Below.refl w.heap.size w)
 have H : ((spec_l02Cell.f a0_0 a0_1).bind fun t590 => (if t590 = true then ((spec_l01In.f a0_2 (-100) 100).bind fun t591 => (some t591)) else (some false))) = some r := h
 clear h
 replace H := Option.bind_eq_some_iff.mp H
 obtain ⟨t590, A20, H⟩ := H
 replace H : (if t590 = true then ((spec_l01In.f a0_2 (-100) 100).bind fun t591 => (some t591)) else (some false)) = some r := H
 have A2 := aM A20
 clear A20
 by_cases c3 : t590 = true
 rotate_left
 ·replace c3 := Bool.eq_false_iff.mpr c3
  subst c3
  have H1 : (some false) = some r := by rw [if_neg (show ¬ (false = true) by decide)] at H; exact H
  clear H
  have H := H1
  clear H1
  obtain rfl := Option.some.inj H
  go_enter Try.func72, Try.ntmps72
  go_wp2_with (first | ((with_reducible refine gate_dst (N := 1) rfl ?_); refine zx 1 #[.int .i64 a0_0, .int .i64 a0_1, .int .i64 a0_2] 63 ?_; intro gb589 hg w9 hbox hb; have n0_ := aM (below_step zb hb); have n1_ := aM (hbox); have n2_ := aM ((ze : w.heap.size ≤ gb589)); have n3_ := aM ((ze : w.heap.size ≤ gb589)); clear HB; have HB := n0_; have BK589 := n1_; have GW589 := n2_; have GE589 := n3_; clear n0_ n1_ n2_ n3_ hb hbox hg; have hcz10_0 : w9.cell? ⟨gb589, 0, none⟩ = some (.int .i64 a0_0) := (blk_cell BK589.out 0).trans rfl; have hcz10_1 : w9.cell? ⟨gb589, 1, none⟩ = some (.int .i64 a0_1) := (blk_cell BK589.out 1).trans rfl; have hcz10_2 : w9.cell? ⟨gb589, 2, none⟩ = some (.int .i64 a0_2) := (blk_cell BK589.out 2).trans rfl; have hfz10_0 := blk_frozen BK589.out 0; have hfz10_1 := blk_frozen BK589.out 1; have hfz10_2 := blk_frozen BK589.out 2) | ((with_reducible refine gate_callee (f := 83) rfl ?_); refine goesL_ (some 8) rfl rfl Try.func83 (by kernel_rfl) rfl #[.agg #[.int .i64 a0_0, .int .i64 a0_1]] rfl zm ?_; (with_reducible refine (spec_l02Cell.calls a0_0 a0_1 false _ A2.out).mono ?_); rintro e w11 ⟨rfl, hb⟩; refine ⟨_, rfl, ?_⟩; have n0_ := aM (blk_below (g := gb589) (o := .cells #[.int .i64 a0_0, .int .i64 a0_1, .int .i64 a0_2] 63 (0, 0)) (mB_ BK589.out) hb); have n1_ := aM (below_step (zs GE589.out) hb); clear BK589 HB; have BK589 := n0_; have HB := n1_; clear n0_ n1_; (try clear hb); (try clear hb2); (try clear hk); (try clear hi)))
  go_ret
  exact ⟨zw, zs GE589.out⟩
 subst c3
 have H1 : ((spec_l01In.f a0_2 (-100) 100).bind fun t591 => (some t591)) = some r := by rw [if_pos rfl] at H; exact H
 clear H
 have H := H1
 clear H1
 replace H := Option.bind_eq_some_iff.mp H
 obtain ⟨t591, A40, H⟩ := H
 replace H : (some t591) = some r := H
 have A4 := aM A40
 clear A40
 obtain rfl := Option.some.inj H
 go_enter Try.func72, Try.ntmps72
 go_wp2_with (first | ((with_reducible refine gate_dst (N := 1) rfl ?_); refine zx 1 #[.int .i64 a0_0, .int .i64 a0_1, .int .i64 a0_2] 63 ?_; intro gb589 hg w5 hbox hb; have n0_ := aM (below_step zb hb); have n1_ := aM (hbox); have n2_ := aM ((ze : w.heap.size ≤ gb589)); have n3_ := aM ((ze : w.heap.size ≤ gb589)); clear HB; have HB := n0_; have BK589 := n1_; have GW589 := n2_; have GE589 := n3_; clear n0_ n1_ n2_ n3_ hb hbox hg; have hcz6_0 : w5.cell? ⟨gb589, 0, none⟩ = some (.int .i64 a0_0) := (blk_cell BK589.out 0).trans rfl; have hcz6_1 : w5.cell? ⟨gb589, 1, none⟩ = some (.int .i64 a0_1) := (blk_cell BK589.out 1).trans rfl; have hcz6_2 : w5.cell? ⟨gb589, 2, none⟩ = some (.int .i64 a0_2) := (blk_cell BK589.out 2).trans rfl; have hfz6_0 := blk_frozen BK589.out 0; have hfz6_1 := blk_frozen BK589.out 1; have hfz6_2 := blk_frozen BK589.out 2) | ((with_reducible refine gate_callee (f := 83) rfl ?_); refine goesL_ (some 8) rfl rfl Try.func83 (by kernel_rfl) rfl #[.agg #[.int .i64 a0_0, .int .i64 a0_1]] rfl zm ?_; (with_reducible refine (spec_l02Cell.calls a0_0 a0_1 true _ A2.out).mono ?_); rintro e w7 ⟨rfl, hb⟩; refine ⟨_, rfl, ?_⟩; have n0_ := aM (blk_below (g := gb589) (o := .cells #[.int .i64 a0_0, .int .i64 a0_1, .int .i64 a0_2] 63 (0, 0)) (mB_ BK589.out) hb); have n1_ := aM (below_step (zs GE589.out) hb); clear BK589 HB; have BK589 := n0_; have HB := n1_; clear n0_ n1_; (try clear hb); (try clear hb2); (try clear hk); (try clear hi); have hcz8_0 : w7.cell? ⟨gb589, 0, none⟩ = some (.int .i64 a0_0) := (blk_cell BK589.out 0).trans rfl; have hcz8_1 : w7.cell? ⟨gb589, 1, none⟩ = some (.int .i64 a0_1) := (blk_cell BK589.out 1).trans rfl; have hcz8_2 : w7.cell? ⟨gb589, 2, none⟩ = some (.int .i64 a0_2) := (blk_cell BK589.out 2).trans rfl; have hfz8_0 := blk_frozen BK589.out 0; have hfz8_1 := blk_frozen BK589.out 1; have hfz8_2 := blk_frozen BK589.out 2) | (go_at_call 26; (with_reducible refine (spec_l01In.calls a0_2 (-100) 100 t591 _ A4.out).mono ?_); rintro e w' ⟨rfl, ⟨nd, rfl⟩⟩))
 go_ret
 exact ⟨zw, zs GE589.out⟩
mutual
def impl_leastSolid.j0 : Nat → List (S63) → Int → Option ((List (S63)))
 | 0, _, _ => none
 | k + 1, x0, x5 => (impl_cubeForm.f k x0 0).bind fun t408 => (impl_leastSolid.l0 k x0 x5 t408 1)
def impl_leastSolid.l0 : Nat → List (S63) → Int → List (S63) → Int → Option ((List (S63)))
 | 0, _, _, _, _ => none
 | k + 1, x0, x5, x6, x7 => if x7 < x5 then ((impl_cubeForm.f k x0 x7).bind fun t411 => ((impl_compareSolids.f k t411 x6).bind fun t414 => (if t414 < 0 then (impl_leastSolid.l0 k x0 x5 t411 (wrap64 (x7 + 1))) else (impl_leastSolid.l0 k x0 x5 x6 (wrap64 (x7 + 1)))))) else (some x6)
end
def impl_leastSolid.f (k : Nat) (l0 : List (S63)) (a1 : Bool) : Option ((List (S63))) := if a1 = true then (impl_leastSolid.j0 k l0 48) else (impl_leastSolid.j0 k l0 24)
theorem impl_leastSolid.calls (k : Nat) (A0 : Option Addr) (c0 : Nat) (l0 : List (S63)) (a1 : Bool) (r : List (S63)) (w : World) (hr0 : Kd.C k63 w A0 l0.length l0) (hc0 : l0.length ≤ c0) (h : impl_leastSolid.f k l0 a1 = some r) :
  Calls Try.prog 44 #[.slice A0 l0.length c0, .bool a1] w fun e w' => ∃ v0_ : Value, e = .returned (v0_) ∧ Kd.R k63 63 w' w.heap.size (fun _ => True) v0_ r ∧ Below w.heap.size w w' := by
 have HR0 := aM hr0
 have HC0 := aM hc0
 clear hr0 hc0
 have HB := aM (Below.refl w.heap.size w)
 have H : (if a1 = true then (impl_leastSolid.j0 k l0 48) else (impl_leastSolid.j0 k l0 24)) = some r := h
 clear h
 have HC3 := aM H
 clear H
 go_enter Try.func44, Try.ntmps44
 go_upto_if 9 with (fail)
 go_cut [5] (fun v5 wc => ∃ (kq : Nat) (x5_2 : Int), v5 = .int .i64 x5_2 ∧ Aside0 (impl_leastSolid.j0 kq l0 x5_2 = some r) ∧ Aside0 (kq ≤ k) ∧ Aside0 (Below w.heap.size w wc))
 case first =>
  have H := HC3.out
  clear HC3
  by_cases c4 : a1 = true
  ·subst c4
   have H1 : (impl_leastSolid.j0 k l0 48) = some r := by rw [if_pos rfl] at H; exact H
   clear H
   have H := H1
   clear H1
   have H' := aM H
   clear H
   go_wp2
   go_meet
   case rel => exact ⟨_, (48), zr, H', ⟨by first | omega | exact Nat.le_refl _⟩, ⟨zb⟩⟩
  replace c4 := Bool.eq_false_iff.mpr c4
  subst c4
  have H1 : (impl_leastSolid.j0 k l0 24) = some r := by rw [if_neg (show ¬ (false = true) by decide)] at H; exact H
  clear H
  have H := H1
  clear H1
  have H' := aM H
  clear H
  go_wp2
  go_meet
  case rel => exact ⟨_, (24), zr, H', ⟨by first | omega | exact Nat.le_refl _⟩, ⟨zb⟩⟩
 case rest =>
  clear HC3
  try clear p2
  try clear c4
  obtain ⟨kq, x5_2, rfl, HA, HJ2, HB⟩ := hcut
  cases kq with
  | zero => exact absurd HA.out (by simp [impl_leastSolid.j0])
  | succ kj2 =>
   have H := HA.out
   clear HA
   simp only [impl_leastSolid.j0] at H
   replace H := Option.bind_eq_some_iff.mp H
   obtain ⟨t408, A50, H⟩ := H
   replace H : (impl_leastSolid.l0 kj2 l0 x5_2 t408 1) = some r := H
   have A5 := aM A50
   clear A50
   have H' := aM H
   clear H
   go_wp2_with (first | ((with_reducible refine gate_callee (f := 41) rfl ?_); refine goesL_ (some 11) rfl rfl Try.func41 (by kernel_rfl) rfl #[.slice A0 l0.length c0, .int .i64 0] rfl zm ?_; (with_reducible refine (impl_cubeForm.calls kj2 _ _ l0 0 t408 _ ?side1 ?side2 A5.out).mono ?_); (case side1 => repeat (first | exact (Kd.C_below HR0.out HB.out) | (with_reducible refine Kd.C_alloc ?_ _) | (with_reducible refine Kd.C_drewN ?_ _) | (with_reducible refine Kd.C_drew ?_))); (case side2 => exact HC0.out); rintro e w6 ⟨v409, rfl, ho0, hb⟩; refine ⟨_, rfl, ?_⟩; have n0_ := aM (Kd.R_lower ho0 (below_size zb)); have n1_ := aM (below_step zb hb); clear HB; have HO410 := n0_; have HB := n1_; clear n0_ n1_; (try clear hb); (try clear hb2); (try clear hk); (try clear hi); (try clear ho0)))
   go_loopg [6, 7] kj2 (fun kq v6 v7 w' => ∃ (x6_2 : List (S63)) (x7_2 : Int), v7 = .int .i64 x7_2 ∧ Aside0 (impl_leastSolid.l0 kq l0 x5_2 x6_2 x7_2 = some r) ∧ Aside0 (kq ≤ kj2) ∧ Aside0 (Kd.R k63 63 w' w.heap.size (fun _ => True) v6 x6_2) ∧ Aside0 (Below w.heap.size w w'))
   case atStart => exact ⟨(t408), (1), zr, H', ⟨Nat.le_refl _⟩, ⟨mR_ HO410.out⟩, ⟨zb⟩⟩
   case round =>
    clear H'
    try clear p2
    try clear c4
    try clear p2
    obtain ⟨x6_2, x7_2, rfl, HA, HK2, HO_6, HB⟩ := hrel
    cases gk with
    | zero => exact absurd HA.out (by simp [impl_leastSolid.l0])
    | succ k2 =>
     have H := HA.out
     clear HA
     simp only [impl_leastSolid.l0] at H
     by_cases c7 : x7_2 < x5_2
     rotate_left
     ·rw [if_neg c7] at H
      have c7b0 : decide (x7_2 < x5_2) = false := decide_eq_false c7
      clear c7
      obtain rfl := Option.some.inj H
      go_wp2
      go_ret
      exact ⟨_, zw, mR_ HO_6.out, zb⟩
     rw [if_pos c7] at H
     have c7b0 : decide (x7_2 < x5_2) = true := decide_eq_true c7
     clear c7
     replace H := Option.bind_eq_some_iff.mp H
     obtain ⟨t411, A80, H⟩ := H
     replace H : ((impl_compareSolids.f k2 t411 x6_2).bind fun t414 => (if t414 < 0 then (impl_leastSolid.l0 k2 l0 x5_2 t411 (wrap64 (x7_2 + 1))) else (impl_leastSolid.l0 k2 l0 x5_2 x6_2 (wrap64 (x7_2 + 1))))) = some r := H
     have A8 := aM A80
     clear A80
     replace H := Option.bind_eq_some_iff.mp H
     obtain ⟨t414, A90, H⟩ := H
     replace H : (if t414 < 0 then (impl_leastSolid.l0 k2 l0 x5_2 t411 (wrap64 (x7_2 + 1))) else (impl_leastSolid.l0 k2 l0 x5_2 x6_2 (wrap64 (x7_2 + 1)))) = some r := H
     have A9 := aM A90
     clear A90
     by_cases c10 : t414 < 0
     ·rw [if_pos c10] at H
      have c10b0 : decide (t414 < 0) = true := decide_eq_true c10
      clear c10
      have H' := aM H
      clear H
      go_wp2_with (first | ((with_reducible refine gate_callee (f := 41) rfl ?_); refine goesL_ (some 19) rfl rfl Try.func41 (by kernel_rfl) rfl #[.slice A0 l0.length c0, .int .i64 x7_2] rfl zm ?_; (with_reducible refine (impl_cubeForm.calls k2 _ _ l0 x7_2 t411 _ ?side1 ?side2 A8.out).mono ?_); (case side1 => repeat (first | exact (Kd.C_below HR0.out HB.out) | (with_reducible refine Kd.C_alloc ?_ _) | (with_reducible refine Kd.C_drewN ?_ _) | (with_reducible refine Kd.C_drew ?_))); (case side2 => exact HC0.out); rintro e w11 ⟨v412, rfl, ho0, hb⟩; refine ⟨_, rfl, ?_⟩; have n0_ := aM (Kd.R_elder' (mR_ HO_6.out) (Kd.R_base ho0) hb); have n1_ := aM (Kd.R_lower (Kd.R_new' ho0 (Kd.R_lt (mR_ HO_6.out))) (below_size zb)); have n2_ := aM (below_step zb hb); clear HO_6 HB; have HO_6 := n0_; have HO413 := n1_; have HB := n2_; clear n0_ n1_ n2_; (try clear hb); (try clear hb2); (try clear hk); (try clear hi); (try clear ho0); obtain ⟨Ao12, co12, eo12⟩ := Kd.R_slice HO413.out; subst eo12; obtain ⟨Ao13, co13, eo13⟩ := Kd.R_slice HO_6.out; subst eo13) | ((with_reducible refine gate_callee (f := 64) rfl ?_); refine goesL_ (some 22) rfl rfl Try.func64 (by kernel_rfl) rfl #[.slice Ao12 t411.length co12, .slice Ao13 x6_2.length co13] rfl zm ?_; (with_reducible refine (impl_compareSolids.calls k2 _ _ t411 _ _ x6_2 t414 _ ?side1 ?side2 ?side3 ?side4 A9.out).mono ?_); (case side1 => exact zc HO413.out); (case side2 => exact (Kd.R_reads' HO413.out).2.1); (case side3 => exact zc HO_6.out); (case side4 => exact (Kd.R_reads' HO_6.out).2.1); rintro e w14 ⟨rfl, hb⟩; refine ⟨_, rfl, ?_⟩; have n0_ := aM (Kd.R_below (mR_ HO_6.out) hb); have n1_ := aM (Kd.R_below (mR_ HO413.out) hb); have n2_ := aM (below_step zb hb); clear HO_6 HO413 HB; have HO_6 := n0_; have HO413 := n1_; have HB := n2_; clear n0_ n1_ n2_; (try clear hb); (try clear hb2); (try clear hk); (try clear hi)))
      go_roundg k2
      case measure => have := HJ2.out; have := HK2.out; omega
      case rel => exact ⟨(t411), (wrap64 (x7_2 + 1)), zr, H', ⟨by have := HJ2.out; have := HK2.out; omega⟩, ⟨zd1 HO413.out⟩, ⟨zb⟩⟩
     rw [if_neg c10] at H
     have c10b0 : decide (t414 < 0) = false := decide_eq_false c10
     clear c10
     have H' := aM H
     clear H
     go_wp2_with (first | ((with_reducible refine gate_callee (f := 41) rfl ?_); refine goesL_ (some 19) rfl rfl Try.func41 (by kernel_rfl) rfl #[.slice A0 l0.length c0, .int .i64 x7_2] rfl zm ?_; (with_reducible refine (impl_cubeForm.calls k2 _ _ l0 x7_2 t411 _ ?side1 ?side2 A8.out).mono ?_); (case side1 => repeat (first | exact (Kd.C_below HR0.out HB.out) | (with_reducible refine Kd.C_alloc ?_ _) | (with_reducible refine Kd.C_drewN ?_ _) | (with_reducible refine Kd.C_drew ?_))); (case side2 => exact HC0.out); rintro e w15 ⟨v412, rfl, ho0, hb⟩; refine ⟨_, rfl, ?_⟩; have n0_ := aM (Kd.R_elder' (mR_ HO_6.out) (Kd.R_base ho0) hb); have n1_ := aM (Kd.R_lower (Kd.R_new' ho0 (Kd.R_lt (mR_ HO_6.out))) (below_size zb)); have n2_ := aM (below_step zb hb); clear HO_6 HB; have HO_6 := n0_; have HO413 := n1_; have HB := n2_; clear n0_ n1_ n2_; (try clear hb); (try clear hb2); (try clear hk); (try clear hi); (try clear ho0); obtain ⟨Ao16, co16, eo16⟩ := Kd.R_slice HO413.out; subst eo16; obtain ⟨Ao17, co17, eo17⟩ := Kd.R_slice HO_6.out; subst eo17) | ((with_reducible refine gate_callee (f := 64) rfl ?_); refine goesL_ (some 22) rfl rfl Try.func64 (by kernel_rfl) rfl #[.slice Ao16 t411.length co16, .slice Ao17 x6_2.length co17] rfl zm ?_; (with_reducible refine (impl_compareSolids.calls k2 _ _ t411 _ _ x6_2 t414 _ ?side1 ?side2 ?side3 ?side4 A9.out).mono ?_); (case side1 => exact zc HO413.out); (case side2 => exact (Kd.R_reads' HO413.out).2.1); (case side3 => exact zc HO_6.out); (case side4 => exact (Kd.R_reads' HO_6.out).2.1); rintro e w18 ⟨rfl, hb⟩; refine ⟨_, rfl, ?_⟩; have n0_ := aM (Kd.R_below (mR_ HO_6.out) hb); have n1_ := aM (Kd.R_below (mR_ HO413.out) hb); have n2_ := aM (below_step zb hb); clear HO_6 HO413 HB; have HO_6 := n0_; have HO413 := n1_; have HB := n2_; clear n0_ n1_ n2_; (try clear hb); (try clear hb2); (try clear hk); (try clear hi)))
     go_roundg k2
     case measure => have := HJ2.out; have := HK2.out; omega
     case rel => exact ⟨(x6_2), (wrap64 (x7_2 + 1)), zr, H', ⟨by have := HJ2.out; have := HK2.out; omega⟩, ⟨zd1 HO_6.out⟩, ⟨zb⟩⟩
def spec_l09Solid.l0 : Nat → List (S63) → Int → Option (Bool)
 | 0, _, _ => none
 | k + 1, x0, x3 => if x3 < (x0.length : Int) then (if 0 ≤ x3 then ((spec_l09Cube.f ((rd_T63 x0 x3).f0) ((rd_T63 x0 x3).f1) ((rd_T63 x0 x3).f2)).bind fun t594 => (if t594 = true then (if x3 > 0 then (if 0 ≤ (wrap64 (x3 - 1)) then (if (wrap64 (x3 - 1)) < (x0.length : Int) then ((spec_l09Less.f ((rd_T63 x0 (wrap64 (x3 - 1))).f0) ((rd_T63 x0 (wrap64 (x3 - 1))).f1) ((rd_T63 x0 (wrap64 (x3 - 1))).f2) ((rd_T63 x0 x3).f0) ((rd_T63 x0 x3).f1) ((rd_T63 x0 x3).f2)).bind fun t597 => (if t597 = true then (spec_l09Solid.l0 k x0 (wrap64 (x3 + 1))) else (some false))) else (none)) else (none)) else (spec_l09Solid.l0 k x0 (wrap64 (x3 + 1)))) else (some false))) else (none)) else ((spec_l01In.f (x0.length : Int) 1 24).bind fun t592 => (some t592))
def spec_l09Solid.f (k : Nat) (l0 : List (S63)) : Option (Bool) := spec_l09Solid.l0 k l0 0
def spec_l09Solid.T4 : Bool × List (List Nat × List Nat) := (true, [([], []), ([], []), ([0, 1], [0, 1]), ([2], [2]), ([3], [3]), ([4], [4]), ([5, 4], [5]), ([6], [6]), ([7, 6], [6, 7]), ([8, 6, 6], [6, 8]), ([9], [9]), ([9], [9]), ([11, 9], [9, 11]), ([10, 12, 9], [9, 10, 12]), ([13, 9], [9, 13]), ([9], [9]), ([9], [9]), ([15, 16, 9], [9, 15, 16]), ([17, 9], [9, 17]), ([14, 18, 9, 9], [9, 14, 18]), ([19, 9], [9, 19]), ([9, 20, 6], [6, 9, 20]), ([6, 21], [6, 21])])
def spec_l09Solid.B4 : List Nat := [0, 0, 3, 7, 15, 31, 63, 127, 255, 511, 1023, 1023, 3071, 8191, 16383, 1023, 1023, 99327, 230399, 524287, 1048575, 2097151, 4194303]
theorem spec_l09Solid.tab4 : rtab .any (opsOf Try.f48 4) = spec_l09Solid.T4 := by kernel_rfl
theorem spec_l09Solid.bits4 : waitsOk spec_l09Solid.T4.2 spec_l09Solid.B4 = true := by kernel_rfl
abbrev spec_l09Solid.c3 (w : World) (a : Addr) (i : Int) (l : List S63) (R : Prop) : Prop := w.cell? (a.add (i.toNat * 3)) = some (.int .i64 ((rd_T63 l i).f0)) ∧ w.cell? ⟨(a.add (i.toNat * 3)).block, (a.add (i.toNat * 3)).off + 1, none⟩ = some (.int .i64 ((rd_T63 l i).f1)) ∧ w.cell? ⟨(a.add (i.toNat * 3)).block, (a.add (i.toNat * 3)).off + 2, none⟩ = some (.int .i64 ((rd_T63 l i).f2)) ∧ R
abbrev spec_l09Solid.d3 (w : World) (a : Addr) (i : Int) (l : List S63) : Prop := w.cell? (a.add (i.toNat * 3)) = some (.int .i64 ((rd_T63 l i).f0)) ∧ w.cell? ⟨(a.add (i.toNat * 3)).block, (a.add (i.toNat * 3)).off + 1, none⟩ = some (.int .i64 ((rd_T63 l i).f1)) ∧ w.cell? ⟨(a.add (i.toNat * 3)).block, (a.add (i.toNat * 3)).off + 2, none⟩ = some (.int .i64 ((rd_T63 l i).f2))
theorem spec_l09Solid.calls (k : Nat) (A0 : Option Addr) (c0 : Nat) (l0 : List (S63)) (r : Bool) (w : World) (hr0 : Kd.C k63 w A0 l0.length l0) (hc0 : l0.length ≤ c0) (h : spec_l09Solid.f k l0 = some r) :
  Calls Try.prog 48 #[.slice A0 l0.length c0] w fun e w' => e = .returned (.bool r) ∧ Below w.heap.size w w' := by
 have hu63 := Try.underlying63
 have HR0 := aM hr0
 have HC0 := aM hc0
 clear hr0 hc0
 have HB := aM (Below.refl w.heap.size w)
 have H : (spec_l09Solid.l0 k l0 0) = some r := h
 clear h
 have H' := aM H
 clear H
 go_enter Try.func48, Try.ntmps48
 go_wp2
 go_loopg [3] k (fun kq v3 w' => ∃ (x3_1 : Int), v3 = .int .i64 x3_1 ∧ Aside0 (spec_l09Solid.l0 kq l0 x3_1 = some r) ∧ Aside0 (kq ≤ k) ∧ Aside0 (Below w.heap.size w w'))
 case atStart => exact ⟨(0), zr, H', ⟨Nat.le_refl _⟩, ⟨zb⟩⟩
 case round =>
  clear H'
  obtain ⟨x3_1, rfl, HA, HK1, HB⟩ := hrel
  cases gk with
  | zero => exact absurd HA.out (by simp [spec_l09Solid.l0])
  | succ k1 =>
   have H := HA.out
   clear HA
   simp only [spec_l09Solid.l0] at H
   by_cases c2 : x3_1 < (l0.length : Int)
   rotate_left
   ·rw [if_neg c2] at H
    have c2b0 : decide (x3_1 < (l0.length : Int)) = false := decide_eq_false c2
    clear c2
    replace H := Option.bind_eq_some_iff.mp H
    obtain ⟨t592, A220, H⟩ := H
    replace H : (some t592) = some r := H
    have A22 := aM A220
    clear A220
    obtain rfl := Option.some.inj H
    go_wp2_with (first | ((with_reducible refine gate_callee (f := 26) rfl ?_); refine goesL_ (some 35) rfl rfl Try.func26 (by kernel_rfl) rfl #[.int .i64 (l0.length : Int), .int .i64 1, .int .i64 24] rfl zm ?_; (with_reducible refine (spec_l01In.calls (l0.length : Int) 1 24 t592 _ A22.out).mono ?_); rintro e w' ⟨rfl, ⟨nd, rfl⟩⟩; refine ⟨_, rfl, ?_⟩))
    go_ret
    exact ⟨zw, zb⟩
   rw [if_pos c2] at H
   have c2b0 : decide (x3_1 < (l0.length : Int)) = true := decide_eq_true c2
   clear c2
   by_cases c3 : 0 ≤ x3_1
   rotate_left
   ·rw [if_neg c3] at H
    exact absurd H (by simp)
   rw [if_pos c3] at H
   have c3b0 : decide (0 ≤ x3_1) = true := decide_eq_true c3
   clear c3
   replace H := Option.bind_eq_some_iff.mp H
   obtain ⟨t594, A40, H⟩ := H
   replace H : (if t594 = true then (if x3_1 > 0 then (if 0 ≤ (wrap64 (x3_1 - 1)) then (if (wrap64 (x3_1 - 1)) < (l0.length : Int) then ((spec_l09Less.f ((rd_T63 l0 (wrap64 (x3_1 - 1))).f0) ((rd_T63 l0 (wrap64 (x3_1 - 1))).f1) ((rd_T63 l0 (wrap64 (x3_1 - 1))).f2) ((rd_T63 l0 x3_1).f0) ((rd_T63 l0 x3_1).f1) ((rd_T63 l0 x3_1).f2)).bind fun t597 => (if t597 = true then (spec_l09Solid.l0 k1 l0 (wrap64 (x3_1 + 1))) else (some false))) else (none)) else (none)) else (spec_l09Solid.l0 k1 l0 (wrap64 (x3_1 + 1)))) else (some false)) = some r := H
   have A4 := aM A40
   clear A40
   by_cases c5 : t594 = true
   rotate_left
   ·replace c5 := Bool.eq_false_iff.mpr c5
    subst c5
    have H1 : (some false) = some r := by rw [if_neg (show ¬ (false = true) by decide)] at H; exact H
    clear H
    have H := H1
    clear H1
    obtain rfl := Option.some.inj H
    try go_wp2
    have n0_ := aM (below_drew1 HB.out)
    clear HB
    have HB := n0_
    clear n0_
    have p593 : 0 ≤ (x3_1 : Int) := of_decide_eq_true za
    have q593 : x3_1 < (l0.length : Int) := of_decide_eq_true za
    obtain ⟨ad593, e593, hx593_0, hx593_1, hx593_2⟩ := at_T63 HR0.out x3_1 p593 q593
    have hw593_2 := hx593_2
    have hw593_1 := hx593_1
    have hw593_0 := hx593_0
    cases e593
    replace hx593_0 := zk HB.out hx593_0
    replace hx593_1 := zk HB.out hx593_1
    replace hx593_2 := zk HB.out hx593_2
    replace p593 := eq_true p593
    replace q593 := eq_true q593
    refine start_ (n := 23) (S := fun w' => (spec_l09Solid.d3 w' ad593 x3_1 l0)) (ds := []) zA110 (by kernel_rfl) rfl rfl ⟨(zk HB.out hw593_0), (zk HB.out hw593_1), (zk HB.out hw593_2)⟩ (fun hHeld => ?_); refine with_tabW spec_l09Solid.tab4 spec_l09Solid.bits4 (fun HT_ HW_ => ?_)
    generalize wr.drew = w20 at HB hx593_0 hx593_1 hx593_2 hHeld ⊢
    refine zp 0 (some 10) ?_ zA111 rfl rfl (Or.inl ⟨by rfl, ?_⟩) ?_ ?_ ?_
    rotate_left
    ·intro w'
     go_simp
     with_reducible rfl
    rotate_left
    ·simp only [Act.put, xA, xB, xC, i64_w, i32_w]
     rfl
    refine zp 1 (some 11) ?_ zA112 rfl rfl (Or.inl ⟨by rfl, ?_⟩) ?_ ?_ ?_
    rotate_left
    ·intro w'
     go_simp
     with_reducible rfl
    rotate_left
    ·simp only [Act.put, xA, xB, xC, i64_w, i32_w]
     rfl
    refine zp 2 (some 12) ?_ zA113 rfl rfl (Or.inl ⟨by rfl, ?_⟩) ?_ ?_ ?_
    rotate_left
    ·intro w'
     go_simp
     with_reducible rfl
    rotate_left
    ·simp only [Act.put, xA, xB, xC, i64_w, i32_w]
     rfl
    refine zu 3 (some 13) ?_ zA114 rfl rfl (Or.inl ⟨by rfl, ?_⟩) hHeld ?_ ?_ ?_
    rotate_left
    ·rintro w' ⟨s0, s1, s2⟩
     go_simp
     with_reducible rfl
    rotate_left
    ·simp only [Act.put, xA, xB, xC, i64_w, i32_w]
     rfl
    refine one_ (i := 4) (N := some 14) zA115 rfl rfl (one_of HT_.out (by kernel_rfl)) (by decide) (fun K hK => ?_)
    refine goes_ Try.func72 (by kernel_rfl) rfl #[.agg #[.int .i64 ((rd_T63 l0 x3_1).f0), .int .i64 ((rd_T63 l0 x3_1).f1), .int .i64 ((rd_T63 l0 x3_1).f2)]] (by rfl) rfl rfl zm ?_
    with_reducible refine (spec_l09Cube.calls ((rd_T63 l0 x3_1).f0) ((rd_T63 l0 x3_1).f1) ((rd_T63 l0 x3_1).f2) false _ A4.out).mono ?_
    rintro e w21 ⟨rfl, hb⟩
    refine ⟨_, rfl, ?_⟩
    have n0_ := aM (below_step zb hb)
    clear HB
    have HB := n0_
    clear n0_
    (try clear hb)
    (try clear hb2)
    (try clear hk)
    (try clear hi)
    refine hK.out _ _ ⟨(zk HB.out hw593_0), (zk HB.out hw593_1), (zk HB.out hw593_2)⟩ (fun hHeld => ?_)
    clear hK K
    refine norm_ (a' := ?_) ?_ ?_
    rotate_left
    ·show Act.put _ (some 14) _ = _
     simp only [Act.put, xA, xB, xC, i64_w, i32_w]
     rfl
    refine zp 5 (some 15) ?_ zA116 rfl rfl (Or.inl ⟨by rfl, ?_⟩) ?_ ?_ ?_
    rotate_left
    ·intro w'
     go_simp
     with_reducible rfl
    rotate_left
    ·simp only [Act.put, xA, xB, xC, i64_w, i32_w]
     rfl
    refine zp 6 (some 16) ?_ zA117 rfl rfl (Or.inl ⟨by rfl, ?_⟩) ?_ ?_ ?_
    rotate_left
    ·intro w'
     go_simp
     with_reducible rfl
    rotate_left
    ·simp only [Act.put, xA, xB, xC, i64_w, i32_w]
     rfl
    refine zp 7 (some 17) undef zA118 rfl rfl (Or.inr ⟨by rfl, rfl⟩) ?_ ?_ ?_
    rotate_left
    ·simp only [Act.put, xA, xB, xC, i64_w, i32_w]
     rfl
    refine zp 8 (some 18) undef zA119 rfl rfl (Or.inr ⟨by rfl, rfl⟩) ?_ ?_ ?_
    rotate_left
    ·simp only [Act.put, xA, xB, xC, i64_w, i32_w]
     rfl
    refine zp 9 (some 19) undef zA120 rfl rfl (Or.inr ⟨by rfl, rfl⟩) ?_ ?_ ?_
    rotate_left
    ·simp only [Act.put, xA, xB, xC, i64_w, i32_w]
     rfl
    refine zp 10 (some 20) undef zA121 rfl rfl (Or.inr ⟨by rfl, rfl⟩) ?_ ?_ ?_
    rotate_left
    ·simp only [Act.put, xA, xB, xC, i64_w, i32_w]
     rfl
    refine zp 11 (some 21) undef zA122 rfl rfl (Or.inr ⟨by rfl, rfl⟩) ?_ ?_ ?_
    rotate_left
    ·simp only [Act.put, xA, xB, xC, i64_w, i32_w]
     rfl
    refine zp 12 (some 22) undef zA123 rfl rfl (Or.inr ⟨by rfl, rfl⟩) ?_ ?_ ?_
    rotate_left
    ·simp only [Act.put, xA, xB, xC, i64_w, i32_w]
     rfl
    refine zp 13 (some 23) undef zA124 rfl rfl (Or.inr ⟨by rfl, rfl⟩) ?_ ?_ ?_
    rotate_left
    ·simp only [Act.put, xA, xB, xC, i64_w, i32_w]
     rfl
    refine zp 14 (some 24) undef zA125 rfl rfl (Or.inr ⟨by rfl, rfl⟩) ?_ ?_ ?_
    rotate_left
    ·simp only [Act.put, xA, xB, xC, i64_w, i32_w]
     rfl
    refine zp 15 (some 25) undef zA126 rfl rfl (Or.inr ⟨by rfl, rfl⟩) ?_ ?_ ?_
    rotate_left
    ·simp only [Act.put, xA, xB, xC, i64_w, i32_w]
     rfl
    refine zp 16 (some 26) undef zA127 rfl rfl (Or.inr ⟨by rfl, rfl⟩) ?_ ?_ ?_
    rotate_left
    ·simp only [Act.put, xA, xB, xC, i64_w, i32_w]
     rfl
    refine zp 17 (some 27) undef zA128 rfl rfl (Or.inr ⟨by rfl, rfl⟩) ?_ ?_ ?_
    rotate_left
    ·simp only [Act.put, xA, xB, xC, i64_w, i32_w]
     rfl
    refine zp 18 (some 28) undef zA129 rfl rfl (Or.inr ⟨by rfl, rfl⟩) ?_ ?_ ?_
    rotate_left
    ·simp only [Act.put, xA, xB, xC, i64_w, i32_w]
     rfl
    refine zp 19 (some 29) undef zA130 rfl rfl (Or.inr ⟨by rfl, rfl⟩) ?_ ?_ ?_
    rotate_left
    ·simp only [Act.put, xA, xB, xC, i64_w, i32_w]
     rfl
    refine zp 20 (some 30) undef zA131 rfl rfl (Or.inr ⟨by rfl, rfl⟩) ?_ ?_ ?_
    rotate_left
    ·simp only [Act.put, xA, xB, xC, i64_w, i32_w]
     rfl
    refine zp 21 (some 31) undef zA132 rfl rfl (Or.inr ⟨by rfl, rfl⟩) ?_ ?_ ?_
    rotate_left
    ·simp only [Act.put, xA, xB, xC, i64_w, i32_w]
     rfl
    refine zp 22 (some 32) ?_ zA133 rfl rfl (Or.inl ⟨by rfl, ?_⟩) ?_ ?_ ?_
    rotate_left
    ·intro w'
     go_simp
     with_reducible rfl
    rotate_left
    ·simp only [Act.put, xA, xB, xC, i64_w, i32_w]
     rfl
    refine done_ (done_of HT_.out (by kernel_rfl)) ?_
    try go_wp2
    go_ret
    exact ⟨zw, zb⟩
   subst c5
   have H1 : (if x3_1 > 0 then (if 0 ≤ (wrap64 (x3_1 - 1)) then (if (wrap64 (x3_1 - 1)) < (l0.length : Int) then ((spec_l09Less.f ((rd_T63 l0 (wrap64 (x3_1 - 1))).f0) ((rd_T63 l0 (wrap64 (x3_1 - 1))).f1) ((rd_T63 l0 (wrap64 (x3_1 - 1))).f2) ((rd_T63 l0 x3_1).f0) ((rd_T63 l0 x3_1).f1) ((rd_T63 l0 x3_1).f2)).bind fun t597 => (if t597 = true then (spec_l09Solid.l0 k1 l0 (wrap64 (x3_1 + 1))) else (some false))) else (none)) else (none)) else (spec_l09Solid.l0 k1 l0 (wrap64 (x3_1 + 1)))) = some r := by rw [if_pos rfl] at H; exact H
   clear H
   have H := H1
   clear H1
   by_cases c6 : x3_1 > 0
   rotate_left
   ·rw [if_neg c6] at H
    have c6b0 : decide (0 < x3_1) = false := decide_eq_false c6
    clear c6
    have H' := aM H
    clear H
    try go_wp2
    have n0_ := aM (below_drew1 HB.out)
    clear HB
    have HB := n0_
    clear n0_
    have p593 : 0 ≤ (x3_1 : Int) := of_decide_eq_true za
    have q593 : x3_1 < (l0.length : Int) := of_decide_eq_true za
    obtain ⟨ad593, e593, hx593_0, hx593_1, hx593_2⟩ := at_T63 HR0.out x3_1 p593 q593
    have hw593_2 := hx593_2
    have hw593_1 := hx593_1
    have hw593_0 := hx593_0
    cases e593
    replace hx593_0 := zk HB.out hx593_0
    replace hx593_1 := zk HB.out hx593_1
    replace hx593_2 := zk HB.out hx593_2
    replace p593 := eq_true p593
    replace q593 := eq_true q593
    refine start_ (n := 23) (S := fun w' => (spec_l09Solid.d3 w' ad593 x3_1 l0)) (ds := []) zA110 (by kernel_rfl) rfl rfl ⟨(zk HB.out hw593_0), (zk HB.out hw593_1), (zk HB.out hw593_2)⟩ (fun hHeld => ?_); refine with_tabW spec_l09Solid.tab4 spec_l09Solid.bits4 (fun HT_ HW_ => ?_)
    generalize wr.drew = w18 at HB hx593_0 hx593_1 hx593_2 hHeld ⊢
    refine zp 0 (some 10) ?_ zA111 rfl rfl (Or.inl ⟨by rfl, ?_⟩) ?_ ?_ ?_
    rotate_left
    ·intro w'
     go_simp
     with_reducible rfl
    rotate_left
    ·simp only [Act.put, xA, xB, xC, i64_w, i32_w]
     rfl
    refine zp 1 (some 11) ?_ zA112 rfl rfl (Or.inl ⟨by rfl, ?_⟩) ?_ ?_ ?_
    rotate_left
    ·intro w'
     go_simp
     with_reducible rfl
    rotate_left
    ·simp only [Act.put, xA, xB, xC, i64_w, i32_w]
     rfl
    refine zp 2 (some 12) ?_ zA113 rfl rfl (Or.inl ⟨by rfl, ?_⟩) ?_ ?_ ?_
    rotate_left
    ·intro w'
     go_simp
     with_reducible rfl
    rotate_left
    ·simp only [Act.put, xA, xB, xC, i64_w, i32_w]
     rfl
    refine zu 3 (some 13) ?_ zA114 rfl rfl (Or.inl ⟨by rfl, ?_⟩) hHeld ?_ ?_ ?_
    rotate_left
    ·rintro w' ⟨s0, s1, s2⟩
     go_simp
     with_reducible rfl
    rotate_left
    ·simp only [Act.put, xA, xB, xC, i64_w, i32_w]
     rfl
    refine one_ (i := 4) (N := some 14) zA115 rfl rfl (one_of HT_.out (by kernel_rfl)) (by decide) (fun K hK => ?_)
    refine goes_ Try.func72 (by kernel_rfl) rfl #[.agg #[.int .i64 ((rd_T63 l0 x3_1).f0), .int .i64 ((rd_T63 l0 x3_1).f1), .int .i64 ((rd_T63 l0 x3_1).f2)]] (by rfl) rfl rfl zm ?_
    with_reducible refine (spec_l09Cube.calls ((rd_T63 l0 x3_1).f0) ((rd_T63 l0 x3_1).f1) ((rd_T63 l0 x3_1).f2) true _ A4.out).mono ?_
    rintro e w19 ⟨rfl, hb⟩
    refine ⟨_, rfl, ?_⟩
    have n0_ := aM (below_step zb hb)
    clear HB
    have HB := n0_
    clear n0_
    (try clear hb)
    (try clear hb2)
    (try clear hk)
    (try clear hi)
    refine hK.out _ _ ⟨(zk HB.out hw593_0), (zk HB.out hw593_1), (zk HB.out hw593_2)⟩ (fun hHeld => ?_)
    clear hK K
    refine norm_ (a' := ?_) ?_ ?_
    rotate_left
    ·show Act.put _ (some 14) _ = _
     simp only [Act.put, xA, xB, xC, i64_w, i32_w]
     rfl
    refine zp 5 (some 15) ?_ zA116 rfl rfl (Or.inl ⟨by rfl, ?_⟩) ?_ ?_ ?_
    rotate_left
    ·intro w'
     go_simp
     with_reducible rfl
    rotate_left
    ·simp only [Act.put, xA, xB, xC, i64_w, i32_w]
     rfl
    refine zp 6 (some 16) ?_ zA117 rfl rfl (Or.inl ⟨by rfl, ?_⟩) ?_ ?_ ?_
    rotate_left
    ·intro w'
     go_simp
     with_reducible rfl
    rotate_left
    ·simp only [Act.put, xA, xB, xC, i64_w, i32_w]
     rfl
    refine zp 7 (some 17) ?_ zA118 rfl rfl (Or.inl ⟨by rfl, ?_⟩) ?_ ?_ ?_
    rotate_left
    ·intro w'
     go_simp
     with_reducible rfl
    rotate_left
    ·simp only [Act.put, xA, xB, xC, i64_w, i32_w]
     rfl
    refine zp 8 (some 18) ?_ zA119 rfl rfl (Or.inl ⟨by rfl, ?_⟩) ?_ ?_ ?_
    rotate_left
    ·intro w'
     go_simp
     with_reducible rfl
    rotate_left
    ·simp only [Act.put, xA, xB, xC, i64_w, i32_w]
     rfl
    refine zp 9 (some 19) ?_ zA120 rfl rfl (Or.inl ⟨by rfl, ?_⟩) ?_ ?_ ?_
    rotate_left
    ·intro w'
     go_simp
     with_reducible rfl
    rotate_left
    ·simp only [Act.put, xA, xB, xC, i64_w, i32_w]
     rfl
    refine zp 10 (some 20) undef zA121 rfl rfl (Or.inr ⟨by rfl, rfl⟩) ?_ ?_ ?_
    rotate_left
    ·simp only [Act.put, xA, xB, xC, i64_w, i32_w]
     rfl
    refine zp 11 (some 21) undef zA122 rfl rfl (Or.inr ⟨by rfl, rfl⟩) ?_ ?_ ?_
    rotate_left
    ·simp only [Act.put, xA, xB, xC, i64_w, i32_w]
     rfl
    refine zp 12 (some 22) undef zA123 rfl rfl (Or.inr ⟨by rfl, rfl⟩) ?_ ?_ ?_
    rotate_left
    ·simp only [Act.put, xA, xB, xC, i64_w, i32_w]
     rfl
    refine zp 13 (some 23) undef zA124 rfl rfl (Or.inr ⟨by rfl, rfl⟩) ?_ ?_ ?_
    rotate_left
    ·simp only [Act.put, xA, xB, xC, i64_w, i32_w]
     rfl
    refine zp 14 (some 24) undef zA125 rfl rfl (Or.inr ⟨by rfl, rfl⟩) ?_ ?_ ?_
    rotate_left
    ·simp only [Act.put, xA, xB, xC, i64_w, i32_w]
     rfl
    refine zp 15 (some 25) undef zA126 rfl rfl (Or.inr ⟨by rfl, rfl⟩) ?_ ?_ ?_
    rotate_left
    ·simp only [Act.put, xA, xB, xC, i64_w, i32_w]
     rfl
    refine zp 16 (some 26) undef zA127 rfl rfl (Or.inr ⟨by rfl, rfl⟩) ?_ ?_ ?_
    rotate_left
    ·simp only [Act.put, xA, xB, xC, i64_w, i32_w]
     rfl
    refine zp 17 (some 27) undef zA128 rfl rfl (Or.inr ⟨by rfl, rfl⟩) ?_ ?_ ?_
    rotate_left
    ·simp only [Act.put, xA, xB, xC, i64_w, i32_w]
     rfl
    refine zp 18 (some 28) undef zA129 rfl rfl (Or.inr ⟨by rfl, rfl⟩) ?_ ?_ ?_
    rotate_left
    ·simp only [Act.put, xA, xB, xC, i64_w, i32_w]
     rfl
    refine zp 19 (some 29) undef zA130 rfl rfl (Or.inr ⟨by rfl, rfl⟩) ?_ ?_ ?_
    rotate_left
    ·simp only [Act.put, xA, xB, xC, i64_w, i32_w]
     rfl
    refine zp 20 (some 30) undef zA131 rfl rfl (Or.inr ⟨by rfl, rfl⟩) ?_ ?_ ?_
    rotate_left
    ·simp only [Act.put, xA, xB, xC, i64_w, i32_w]
     rfl
    refine zp 21 (some 31) ?_ zA132 rfl rfl (Or.inl ⟨by rfl, ?_⟩) ?_ ?_ ?_
    rotate_left
    ·intro w'
     go_simp
     with_reducible rfl
    rotate_left
    ·simp only [Act.put, xA, xB, xC, i64_w, i32_w]
     rfl
    refine zp 22 (some 32) ?_ zA133 rfl rfl (Or.inl ⟨by rfl, ?_⟩) ?_ ?_ ?_
    rotate_left
    ·intro w'
     go_simp
     with_reducible rfl
    rotate_left
    ·simp only [Act.put, xA, xB, xC, i64_w, i32_w]
     rfl
    refine done_ (done_of HT_.out (by kernel_rfl)) ?_
    try go_wp2
    go_roundg k1
    case measure => have := HK1.out; omega
    case rel => exact ⟨(wrap64 (x3_1 + 1)), zr, H', ⟨by have := HK1.out; omega⟩, ⟨zb⟩⟩
   rw [if_pos c6] at H
   have c6b0 : decide (0 < x3_1) = true := decide_eq_true c6
   clear c6
   obtain ⟨ji7, hji7⟩ : ∃ j_ : Int, (wrap64 (x3_1 - 1)) = j_ := ⟨_, rfl⟩
   replace H : (if 0 ≤ (ji7) then (if (ji7) < (l0.length : Int) then ((spec_l09Less.f ((rd_T63 l0 (ji7)).f0) ((rd_T63 l0 (ji7)).f1) ((rd_T63 l0 (ji7)).f2) ((rd_T63 l0 x3_1).f0) ((rd_T63 l0 x3_1).f1) ((rd_T63 l0 x3_1).f2)).bind fun t597 => (if t597 = true then (spec_l09Solid.l0 k1 l0 (wrap64 (x3_1 + 1))) else (some false))) else (none)) else (none)) = some r := by first | (rw [hji7] at H; exact H) | (simp only [hji7] at H ⊢; exact H)
   (try rw [hji7] at A4)
   have hji7w : (IntKind.i64.wrap (x3_1 - 1)) = ji7 := (i64_w _).trans hji7
   by_cases c8 : 0 ≤ (ji7)
   rotate_left
   ·rw [if_neg c8] at H
    exact absurd H (by simp)
   rw [if_pos c8] at H
   have c8b0 : decide (0 ≤ (ji7)) = true := decide_eq_true c8
   clear c8
   by_cases c9 : (ji7) < (l0.length : Int)
   rotate_left
   ·rw [if_neg c9] at H
    exact absurd H (by simp)
   rw [if_pos c9] at H
   have c9b0 : decide ((ji7) < (l0.length : Int)) = true := decide_eq_true c9
   clear c9
   replace H := Option.bind_eq_some_iff.mp H
   obtain ⟨t597, A100, H⟩ := H
   replace H : (if t597 = true then (spec_l09Solid.l0 k1 l0 (wrap64 (x3_1 + 1))) else (some false)) = some r := H
   have A10 := aM A100
   clear A100
   by_cases c11 : t597 = true
   rotate_left
   ·replace c11 := Bool.eq_false_iff.mpr c11
    subst c11
    have H1 : (some false) = some r := by rw [if_neg (show ¬ (false = true) by decide)] at H; exact H
    clear H
    have H := H1
    clear H1
    obtain rfl := Option.some.inj H
    try go_wp2
    have n0_ := aM (below_drew1 HB.out)
    clear HB
    have HB := n0_
    clear n0_
    have p593 : 0 ≤ (x3_1 : Int) := of_decide_eq_true za
    have q593 : x3_1 < (l0.length : Int) := of_decide_eq_true za
    obtain ⟨ad593, e593, hx593_0, hx593_1, hx593_2⟩ := at_T63 HR0.out x3_1 p593 q593
    have hw593_2 := hx593_2
    have hw593_1 := hx593_1
    have hw593_0 := hx593_0
    cases e593
    replace hx593_0 := zk HB.out hx593_0
    replace hx593_1 := zk HB.out hx593_1
    replace hx593_2 := zk HB.out hx593_2
    replace p593 := eq_true p593
    replace q593 := eq_true q593
    have p595 : 0 ≤ ((ji7) : Int) := of_decide_eq_true za
    have q595 : (ji7) < (l0.length : Int) := of_decide_eq_true za
    obtain ⟨ad595, e595, hx595_0, hx595_1, hx595_2⟩ := at_T63 HR0.out (ji7) p595 q595
    have hw595_2 := hx595_2
    have hw595_1 := hx595_1
    have hw595_0 := hx595_0
    obtain rfl : ad593 = ad595 := (by injection e595)
    replace hx595_0 := zk HB.out hx595_0
    replace hx595_1 := zk HB.out hx595_1
    replace hx595_2 := zk HB.out hx595_2
    replace p595 := eq_true p595
    replace q595 := eq_true q595
    have p596 : 0 ≤ (x3_1 : Int) := of_decide_eq_true za
    have q596 : x3_1 < (l0.length : Int) := of_decide_eq_true za
    obtain ⟨ad596, e596, hx596_0, hx596_1, hx596_2⟩ := at_T63 HR0.out x3_1 p596 q596
    have hw596_2 := hx596_2
    have hw596_1 := hx596_1
    have hw596_0 := hx596_0
    obtain rfl : ad593 = ad596 := (by injection e596)
    replace hx596_0 := zk HB.out hx596_0
    replace hx596_1 := zk HB.out hx596_1
    replace hx596_2 := zk HB.out hx596_2
    replace p596 := eq_true p596
    replace q596 := eq_true q596
    refine start_ (n := 23) (S := fun w' => (spec_l09Solid.c3 w' ad593 x3_1 l0 (w'.cell? (ad593.add (((ji7)).toNat * 3)) = some (.int .i64 ((rd_T63 l0 (ji7)).f0)) ∧ w'.cell? ⟨(ad593.add (((ji7)).toNat * 3)).block, (ad593.add (((ji7)).toNat * 3)).off + 1, none⟩ = some (.int .i64 ((rd_T63 l0 (ji7)).f1)) ∧ w'.cell? ⟨(ad593.add (((ji7)).toNat * 3)).block, (ad593.add (((ji7)).toNat * 3)).off + 2, none⟩ = some (.int .i64 ((rd_T63 l0 (ji7)).f2)) ∧ (spec_l09Solid.d3 w' ad593 x3_1 l0)))) (ds := []) zA110 (by kernel_rfl) rfl rfl ⟨(zk HB.out hw593_0), (zk HB.out hw593_1), (zk HB.out hw593_2), (zk HB.out hw595_0), (zk HB.out hw595_1), (zk HB.out hw595_2), (zk HB.out hw596_0), (zk HB.out hw596_1), (zk HB.out hw596_2)⟩ (fun hHeld => ?_); refine with_tabW spec_l09Solid.tab4 spec_l09Solid.bits4 (fun HT_ HW_ => ?_)
    generalize wr.drew = w15 at HB hx593_0 hx593_1 hx593_2 hx595_0 hx595_1 hx595_2 hx596_0 hx596_1 hx596_2 hHeld ⊢
    refine zp 0 (some 10) ?_ zA111 rfl rfl (Or.inl ⟨by rfl, ?_⟩) ?_ ?_ ?_
    rotate_left
    ·intro w'
     go_simp
     with_reducible rfl
    rotate_left
    ·simp only [Act.put, xA, xB, xC, i64_w, i32_w]
     rfl
    refine zp 1 (some 11) ?_ zA112 rfl rfl (Or.inl ⟨by rfl, ?_⟩) ?_ ?_ ?_
    rotate_left
    ·intro w'
     go_simp
     with_reducible rfl
    rotate_left
    ·simp only [Act.put, xA, xB, xC, i64_w, i32_w]
     rfl
    refine zp 2 (some 12) ?_ zA113 rfl rfl (Or.inl ⟨by rfl, ?_⟩) ?_ ?_ ?_
    rotate_left
    ·intro w'
     go_simp
     with_reducible rfl
    rotate_left
    ·simp only [Act.put, xA, xB, xC, i64_w, i32_w]
     rfl
    refine zu 3 (some 13) ?_ zA114 rfl rfl (Or.inl ⟨by rfl, ?_⟩) hHeld ?_ ?_ ?_
    rotate_left
    ·rintro w' ⟨s0, s1, s2, s3, s4, s5, s6, s7, s8⟩
     go_simp
     with_reducible rfl
    rotate_left
    ·simp only [Act.put, xA, xB, xC, i64_w, i32_w]
     rfl
    refine one_ (i := 4) (N := some 14) zA115 rfl rfl (one_of HT_.out (by kernel_rfl)) (by decide) (fun K hK => ?_)
    refine goes_ Try.func72 (by kernel_rfl) rfl #[.agg #[.int .i64 ((rd_T63 l0 x3_1).f0), .int .i64 ((rd_T63 l0 x3_1).f1), .int .i64 ((rd_T63 l0 x3_1).f2)]] (by rfl) rfl rfl zm ?_
    with_reducible refine (spec_l09Cube.calls ((rd_T63 l0 x3_1).f0) ((rd_T63 l0 x3_1).f1) ((rd_T63 l0 x3_1).f2) true _ A4.out).mono ?_
    rintro e w16 ⟨rfl, hb⟩
    refine ⟨_, rfl, ?_⟩
    have n0_ := aM (below_step zb hb)
    clear HB
    have HB := n0_
    clear n0_
    (try clear hb)
    (try clear hb2)
    (try clear hk)
    (try clear hi)
    refine hK.out _ _ ⟨(zk HB.out hw593_0), (zk HB.out hw593_1), (zk HB.out hw593_2), (zk HB.out hw595_0), (zk HB.out hw595_1), (zk HB.out hw595_2), (zk HB.out hw596_0), (zk HB.out hw596_1), (zk HB.out hw596_2)⟩ (fun hHeld => ?_)
    clear hK K
    refine norm_ (a' := ?_) ?_ ?_
    rotate_left
    ·show Act.put _ (some 14) _ = _
     simp only [Act.put, xA, xB, xC, i64_w, i32_w]
     rfl
    refine zp 5 (some 15) ?_ zA116 rfl rfl (Or.inl ⟨by rfl, ?_⟩) ?_ ?_ ?_
    rotate_left
    ·intro w'
     go_simp
     with_reducible rfl
    rotate_left
    ·simp only [Act.put, xA, xB, xC, i64_w, i32_w]
     rfl
    refine zp 6 (some 16) ?_ zA117 rfl rfl (Or.inl ⟨by rfl, ?_⟩) ?_ ?_ ?_
    rotate_left
    ·intro w'
     go_simp
     with_reducible rfl
    rotate_left
    ·simp only [Act.put, xA, xB, xC, i64_w, i32_w]
     rfl
    refine zp 7 (some 17) ?_ zA118 rfl rfl (Or.inl ⟨by rfl, ?_⟩) ?_ ?_ ?_
    rotate_left
    ·intro w'
     go_simp
     with_reducible rfl
    rotate_left
    ·simp only [Act.put, xA, xB, xC, i64_w, i32_w]
     rfl
    refine zp 8 (some 18) ?_ zA119 rfl rfl (Or.inl ⟨by rfl, ?_⟩) ?_ ?_ ?_
    rotate_left
    ·intro w'
     go_simp
     with_reducible rfl
    rotate_left
    ·simp only [Act.put, xA, xB, xC, i64_w, i32_w]
     rfl
    refine zp 9 (some 19) ?_ zA120 rfl rfl (Or.inl ⟨by rfl, ?_⟩) ?_ ?_ ?_
    rotate_left
    ·intro w'
     go_simp
     with_reducible rfl
    rotate_left
    ·simp only [Act.put, xA, xB, xC, i64_w, i32_w]
     rfl
    refine zp 10 (some 20) ?_ zA121 rfl rfl (Or.inl ⟨by rfl, ?_⟩) ?_ ?_ ?_
    rotate_left
    ·intro w'
     go_simp
     with_reducible rfl
    rotate_left
    ·simp only [Act.put, xA, xB, xC, i64_w, i32_w]
     rfl
    refine zp 11 (some 21) ?_ zA122 rfl rfl (Or.inl ⟨by rfl, ?_⟩) ?_ ?_ ?_
    rotate_left
    ·intro w'
     go_simp
     with_reducible rfl
    rotate_left
    ·simp only [Act.put, xA, xB, xC, i64_w, i32_w]
     rfl
    refine zp 12 (some 22) ?_ zA123 rfl rfl (Or.inl ⟨by rfl, ?_⟩) ?_ ?_ ?_
    rotate_left
    ·intro w'
     go_simp
     with_reducible rfl
    rotate_left
    ·simp only [Act.put, xA, xB, xC, i64_w, i32_w]
     rfl
    refine zp 13 (some 23) ?_ zA124 rfl rfl (Or.inl ⟨by rfl, ?_⟩) ?_ ?_ ?_
    rotate_left
    ·intro w'
     go_simp
     with_reducible rfl
    rotate_left
    ·simp only [Act.put, xA, xB, xC, i64_w, i32_w]
     rfl
    refine zp 15 (some 25) ?_ zA134 rfl rfl (Or.inl ⟨by rfl, ?_⟩) ?_ ?_ ?_
    rotate_left
    ·intro w'
     go_simp
     with_reducible rfl
    rotate_left
    ·simp only [Act.put, xA, xB, xC, i64_w, i32_w]
     rfl
    refine zp 16 (some 26) ?_ zA135 rfl rfl (Or.inl ⟨by rfl, ?_⟩) ?_ ?_ ?_
    rotate_left
    ·intro w'
     go_simp
     with_reducible rfl
    rotate_left
    ·simp only [Act.put, xA, xB, xC, i64_w, i32_w]
     rfl
    refine zp 17 (some 27) ?_ zA136 rfl rfl (Or.inl ⟨by rfl, ?_⟩) ?_ ?_ ?_
    rotate_left
    ·intro w'
     go_simp
     with_reducible rfl
    rotate_left
    ·simp only [Act.put, xA, xB, xC, i64_w, i32_w]
     rfl
    refine zu 14 (some 24) ?_ zA128 rfl rfl (Or.inl ⟨by rfl, ?_⟩) hHeld ?_ ?_ ?_
    rotate_left
    ·rintro w' ⟨s0, s1, s2, s3, s4, s5, s6, s7, s8⟩
     go_simp
     with_reducible rfl
    rotate_left
    ·simp only [Act.put, xA, xB, xC, i64_w, i32_w]
     rfl
    refine zu 18 (some 28) ?_ zA129 rfl rfl (Or.inl ⟨by rfl, ?_⟩) hHeld ?_ ?_ ?_
    rotate_left
    ·rintro w' ⟨s0, s1, s2, s3, s4, s5, s6, s7, s8⟩
     go_simp
     with_reducible rfl
    rotate_left
    ·simp only [Act.put, xA, xB, xC, i64_w, i32_w]
     rfl
    refine one_ (i := 19) (N := some 29) zA130 rfl rfl (one_of HT_.out (by kernel_rfl)) (by decide) (fun K hK => ?_)
    refine goes_ Try.func73 (by kernel_rfl) rfl #[.agg #[.int .i64 ((rd_T63 l0 (ji7)).f0), .int .i64 ((rd_T63 l0 (ji7)).f1), .int .i64 ((rd_T63 l0 (ji7)).f2)], .agg #[.int .i64 ((rd_T63 l0 x3_1).f0), .int .i64 ((rd_T63 l0 x3_1).f1), .int .i64 ((rd_T63 l0 x3_1).f2)]] (by rfl) rfl rfl (by (try simp only [mA, mB, mC]); first | done | (simp only [hji7]; rfl) | rfl | (simp only [lD, lT]; rfl)) ?_
    with_reducible refine (spec_l09Less.calls ((rd_T63 l0 (ji7)).f0) ((rd_T63 l0 (ji7)).f1) ((rd_T63 l0 (ji7)).f2) ((rd_T63 l0 x3_1).f0) ((rd_T63 l0 x3_1).f1) ((rd_T63 l0 x3_1).f2) false _ A10.out).mono ?_
    rintro e w17 ⟨rfl, hb⟩
    refine ⟨_, rfl, ?_⟩
    have n0_ := aM (below_step zb hb)
    clear HB
    have HB := n0_
    clear n0_
    (try clear hb)
    (try clear hb2)
    (try clear hk)
    (try clear hi)
    refine hK.out _ _ ⟨(zk HB.out hw593_0), (zk HB.out hw593_1), (zk HB.out hw593_2), (zk HB.out hw595_0), (zk HB.out hw595_1), (zk HB.out hw595_2), (zk HB.out hw596_0), (zk HB.out hw596_1), (zk HB.out hw596_2)⟩ (fun hHeld => ?_)
    clear hK K
    refine norm_ (a' := ?_) ?_ ?_
    rotate_left
    ·show Act.put _ (some 29) _ = _
     simp only [Act.put, xA, xB, xC, i64_w, i32_w]
     rfl
    refine zp 20 (some 30) ?_ zA131 rfl rfl (Or.inl ⟨by rfl, ?_⟩) ?_ ?_ ?_
    rotate_left
    ·intro w'
     go_simp
     with_reducible rfl
    rotate_left
    ·simp only [Act.put, xA, xB, xC, i64_w, i32_w]
     rfl
    refine zp 21 (some 31) ?_ zA132 rfl rfl (Or.inl ⟨by rfl, ?_⟩) ?_ ?_ ?_
    rotate_left
    ·intro w'
     go_simp
     with_reducible rfl
    rotate_left
    ·simp only [Act.put, xA, xB, xC, i64_w, i32_w]
     rfl
    refine zp 22 (some 32) ?_ zA133 rfl rfl (Or.inl ⟨by rfl, ?_⟩) ?_ ?_ ?_
    rotate_left
    ·intro w'
     go_simp
     with_reducible rfl
    rotate_left
    ·simp only [Act.put, xA, xB, xC, i64_w, i32_w]
     rfl
    refine done_ (done_of HT_.out (by kernel_rfl)) ?_
    try go_wp2
    go_ret
    exact ⟨by first | rfl | (simp [errW_none, errW_some] <;> rfl) | (simp only [← hji7]; first | rfl | (simp [errW_none, errW_some] <;> rfl)) | (simp [*, errW_none, errW_some] <;> rfl), zb⟩
   subst c11
   have H1 : (spec_l09Solid.l0 k1 l0 (wrap64 (x3_1 + 1))) = some r := by rw [if_pos rfl] at H; exact H
   clear H
   have H := H1
   clear H1
   have H' := aM H
   clear H
   try go_wp2
   have n0_ := aM (below_drew1 HB.out)
   clear HB
   have HB := n0_
   clear n0_
   have p593 : 0 ≤ (x3_1 : Int) := of_decide_eq_true za
   have q593 : x3_1 < (l0.length : Int) := of_decide_eq_true za
   obtain ⟨ad593, e593, hx593_0, hx593_1, hx593_2⟩ := at_T63 HR0.out x3_1 p593 q593
   have hw593_2 := hx593_2
   have hw593_1 := hx593_1
   have hw593_0 := hx593_0
   cases e593
   replace hx593_0 := zk HB.out hx593_0
   replace hx593_1 := zk HB.out hx593_1
   replace hx593_2 := zk HB.out hx593_2
   replace p593 := eq_true p593
   replace q593 := eq_true q593
   have p595 : 0 ≤ ((ji7) : Int) := of_decide_eq_true za
   have q595 : (ji7) < (l0.length : Int) := of_decide_eq_true za
   obtain ⟨ad595, e595, hx595_0, hx595_1, hx595_2⟩ := at_T63 HR0.out (ji7) p595 q595
   have hw595_2 := hx595_2
   have hw595_1 := hx595_1
   have hw595_0 := hx595_0
   obtain rfl : ad593 = ad595 := (by injection e595)
   replace hx595_0 := zk HB.out hx595_0
   replace hx595_1 := zk HB.out hx595_1
   replace hx595_2 := zk HB.out hx595_2
   replace p595 := eq_true p595
   replace q595 := eq_true q595
   have p596 : 0 ≤ (x3_1 : Int) := of_decide_eq_true za
   have q596 : x3_1 < (l0.length : Int) := of_decide_eq_true za
   obtain ⟨ad596, e596, hx596_0, hx596_1, hx596_2⟩ := at_T63 HR0.out x3_1 p596 q596
   have hw596_2 := hx596_2
   have hw596_1 := hx596_1
   have hw596_0 := hx596_0
   obtain rfl : ad593 = ad596 := (by injection e596)
   replace hx596_0 := zk HB.out hx596_0
   replace hx596_1 := zk HB.out hx596_1
   replace hx596_2 := zk HB.out hx596_2
   replace p596 := eq_true p596
   replace q596 := eq_true q596
   refine start_ (n := 23) (S := fun w' => (spec_l09Solid.c3 w' ad593 x3_1 l0 (w'.cell? (ad593.add (((ji7)).toNat * 3)) = some (.int .i64 ((rd_T63 l0 (ji7)).f0)) ∧ w'.cell? ⟨(ad593.add (((ji7)).toNat * 3)).block, (ad593.add (((ji7)).toNat * 3)).off + 1, none⟩ = some (.int .i64 ((rd_T63 l0 (ji7)).f1)) ∧ w'.cell? ⟨(ad593.add (((ji7)).toNat * 3)).block, (ad593.add (((ji7)).toNat * 3)).off + 2, none⟩ = some (.int .i64 ((rd_T63 l0 (ji7)).f2)) ∧ (spec_l09Solid.d3 w' ad593 x3_1 l0)))) (ds := []) zA110 (by kernel_rfl) rfl rfl ⟨(zk HB.out hw593_0), (zk HB.out hw593_1), (zk HB.out hw593_2), (zk HB.out hw595_0), (zk HB.out hw595_1), (zk HB.out hw595_2), (zk HB.out hw596_0), (zk HB.out hw596_1), (zk HB.out hw596_2)⟩ (fun hHeld => ?_); refine with_tabW spec_l09Solid.tab4 spec_l09Solid.bits4 (fun HT_ HW_ => ?_)
   generalize wr.drew = w12 at HB hx593_0 hx593_1 hx593_2 hx595_0 hx595_1 hx595_2 hx596_0 hx596_1 hx596_2 hHeld ⊢
   refine zp 0 (some 10) ?_ zA111 rfl rfl (Or.inl ⟨by rfl, ?_⟩) ?_ ?_ ?_
   rotate_left
   ·intro w'
    go_simp
    with_reducible rfl
   rotate_left
   ·simp only [Act.put, xA, xB, xC, i64_w, i32_w]
    rfl
   refine zp 1 (some 11) ?_ zA112 rfl rfl (Or.inl ⟨by rfl, ?_⟩) ?_ ?_ ?_
   rotate_left
   ·intro w'
    go_simp
    with_reducible rfl
   rotate_left
   ·simp only [Act.put, xA, xB, xC, i64_w, i32_w]
    rfl
   refine zp 2 (some 12) ?_ zA113 rfl rfl (Or.inl ⟨by rfl, ?_⟩) ?_ ?_ ?_
   rotate_left
   ·intro w'
    go_simp
    with_reducible rfl
   rotate_left
   ·simp only [Act.put, xA, xB, xC, i64_w, i32_w]
    rfl
   refine zu 3 (some 13) ?_ zA114 rfl rfl (Or.inl ⟨by rfl, ?_⟩) hHeld ?_ ?_ ?_
   rotate_left
   ·rintro w' ⟨s0, s1, s2, s3, s4, s5, s6, s7, s8⟩
    go_simp
    with_reducible rfl
   rotate_left
   ·simp only [Act.put, xA, xB, xC, i64_w, i32_w]
    rfl
   refine one_ (i := 4) (N := some 14) zA115 rfl rfl (one_of HT_.out (by kernel_rfl)) (by decide) (fun K hK => ?_)
   refine goes_ Try.func72 (by kernel_rfl) rfl #[.agg #[.int .i64 ((rd_T63 l0 x3_1).f0), .int .i64 ((rd_T63 l0 x3_1).f1), .int .i64 ((rd_T63 l0 x3_1).f2)]] (by rfl) rfl rfl zm ?_
   with_reducible refine (spec_l09Cube.calls ((rd_T63 l0 x3_1).f0) ((rd_T63 l0 x3_1).f1) ((rd_T63 l0 x3_1).f2) true _ A4.out).mono ?_
   rintro e w13 ⟨rfl, hb⟩
   refine ⟨_, rfl, ?_⟩
   have n0_ := aM (below_step zb hb)
   clear HB
   have HB := n0_
   clear n0_
   (try clear hb)
   (try clear hb2)
   (try clear hk)
   (try clear hi)
   refine hK.out _ _ ⟨(zk HB.out hw593_0), (zk HB.out hw593_1), (zk HB.out hw593_2), (zk HB.out hw595_0), (zk HB.out hw595_1), (zk HB.out hw595_2), (zk HB.out hw596_0), (zk HB.out hw596_1), (zk HB.out hw596_2)⟩ (fun hHeld => ?_)
   clear hK K
   refine norm_ (a' := ?_) ?_ ?_
   rotate_left
   ·show Act.put _ (some 14) _ = _
    simp only [Act.put, xA, xB, xC, i64_w, i32_w]
    rfl
   refine zp 5 (some 15) ?_ zA116 rfl rfl (Or.inl ⟨by rfl, ?_⟩) ?_ ?_ ?_
   rotate_left
   ·intro w'
    go_simp
    with_reducible rfl
   rotate_left
   ·simp only [Act.put, xA, xB, xC, i64_w, i32_w]
    rfl
   refine zp 6 (some 16) ?_ zA117 rfl rfl (Or.inl ⟨by rfl, ?_⟩) ?_ ?_ ?_
   rotate_left
   ·intro w'
    go_simp
    with_reducible rfl
   rotate_left
   ·simp only [Act.put, xA, xB, xC, i64_w, i32_w]
    rfl
   refine zp 7 (some 17) ?_ zA118 rfl rfl (Or.inl ⟨by rfl, ?_⟩) ?_ ?_ ?_
   rotate_left
   ·intro w'
    go_simp
    with_reducible rfl
   rotate_left
   ·simp only [Act.put, xA, xB, xC, i64_w, i32_w]
    rfl
   refine zp 8 (some 18) ?_ zA119 rfl rfl (Or.inl ⟨by rfl, ?_⟩) ?_ ?_ ?_
   rotate_left
   ·intro w'
    go_simp
    with_reducible rfl
   rotate_left
   ·simp only [Act.put, xA, xB, xC, i64_w, i32_w]
    rfl
   refine zp 9 (some 19) ?_ zA120 rfl rfl (Or.inl ⟨by rfl, ?_⟩) ?_ ?_ ?_
   rotate_left
   ·intro w'
    go_simp
    with_reducible rfl
   rotate_left
   ·simp only [Act.put, xA, xB, xC, i64_w, i32_w]
    rfl
   refine zp 10 (some 20) ?_ zA121 rfl rfl (Or.inl ⟨by rfl, ?_⟩) ?_ ?_ ?_
   rotate_left
   ·intro w'
    go_simp
    with_reducible rfl
   rotate_left
   ·simp only [Act.put, xA, xB, xC, i64_w, i32_w]
    rfl
   refine zp 11 (some 21) ?_ zA122 rfl rfl (Or.inl ⟨by rfl, ?_⟩) ?_ ?_ ?_
   rotate_left
   ·intro w'
    go_simp
    with_reducible rfl
   rotate_left
   ·simp only [Act.put, xA, xB, xC, i64_w, i32_w]
    rfl
   refine zp 12 (some 22) ?_ zA123 rfl rfl (Or.inl ⟨by rfl, ?_⟩) ?_ ?_ ?_
   rotate_left
   ·intro w'
    go_simp
    with_reducible rfl
   rotate_left
   ·simp only [Act.put, xA, xB, xC, i64_w, i32_w]
    rfl
   refine zp 13 (some 23) ?_ zA124 rfl rfl (Or.inl ⟨by rfl, ?_⟩) ?_ ?_ ?_
   rotate_left
   ·intro w'
    go_simp
    with_reducible rfl
   rotate_left
   ·simp only [Act.put, xA, xB, xC, i64_w, i32_w]
    rfl
   refine zp 15 (some 25) ?_ zA134 rfl rfl (Or.inl ⟨by rfl, ?_⟩) ?_ ?_ ?_
   rotate_left
   ·intro w'
    go_simp
    with_reducible rfl
   rotate_left
   ·simp only [Act.put, xA, xB, xC, i64_w, i32_w]
    rfl
   refine zp 16 (some 26) ?_ zA135 rfl rfl (Or.inl ⟨by rfl, ?_⟩) ?_ ?_ ?_
   rotate_left
   ·intro w'
    go_simp
    with_reducible rfl
   rotate_left
   ·simp only [Act.put, xA, xB, xC, i64_w, i32_w]
    rfl
   refine zp 17 (some 27) ?_ zA136 rfl rfl (Or.inl ⟨by rfl, ?_⟩) ?_ ?_ ?_
   rotate_left
   ·intro w'
    go_simp
    with_reducible rfl
   rotate_left
   ·simp only [Act.put, xA, xB, xC, i64_w, i32_w]
    rfl
   refine zu 14 (some 24) ?_ zA128 rfl rfl (Or.inl ⟨by rfl, ?_⟩) hHeld ?_ ?_ ?_
   rotate_left
   ·rintro w' ⟨s0, s1, s2, s3, s4, s5, s6, s7, s8⟩
    go_simp
    with_reducible rfl
   rotate_left
   ·simp only [Act.put, xA, xB, xC, i64_w, i32_w]
    rfl
   refine zu 18 (some 28) ?_ zA129 rfl rfl (Or.inl ⟨by rfl, ?_⟩) hHeld ?_ ?_ ?_
   rotate_left
   ·rintro w' ⟨s0, s1, s2, s3, s4, s5, s6, s7, s8⟩
    go_simp
    with_reducible rfl
   rotate_left
   ·simp only [Act.put, xA, xB, xC, i64_w, i32_w]
    rfl
   refine one_ (i := 19) (N := some 29) zA130 rfl rfl (one_of HT_.out (by kernel_rfl)) (by decide) (fun K hK => ?_)
   refine goes_ Try.func73 (by kernel_rfl) rfl #[.agg #[.int .i64 ((rd_T63 l0 (ji7)).f0), .int .i64 ((rd_T63 l0 (ji7)).f1), .int .i64 ((rd_T63 l0 (ji7)).f2)], .agg #[.int .i64 ((rd_T63 l0 x3_1).f0), .int .i64 ((rd_T63 l0 x3_1).f1), .int .i64 ((rd_T63 l0 x3_1).f2)]] (by rfl) rfl rfl (by (try simp only [mA, mB, mC]); first | done | (simp only [hji7]; rfl) | rfl | (simp only [lD, lT]; rfl)) ?_
   with_reducible refine (spec_l09Less.calls ((rd_T63 l0 (ji7)).f0) ((rd_T63 l0 (ji7)).f1) ((rd_T63 l0 (ji7)).f2) ((rd_T63 l0 x3_1).f0) ((rd_T63 l0 x3_1).f1) ((rd_T63 l0 x3_1).f2) true _ A10.out).mono ?_
   rintro e w14 ⟨rfl, hb⟩
   refine ⟨_, rfl, ?_⟩
   have n0_ := aM (below_step zb hb)
   clear HB
   have HB := n0_
   clear n0_
   (try clear hb)
   (try clear hb2)
   (try clear hk)
   (try clear hi)
   refine hK.out _ _ ⟨(zk HB.out hw593_0), (zk HB.out hw593_1), (zk HB.out hw593_2), (zk HB.out hw595_0), (zk HB.out hw595_1), (zk HB.out hw595_2), (zk HB.out hw596_0), (zk HB.out hw596_1), (zk HB.out hw596_2)⟩ (fun hHeld => ?_)
   clear hK K
   refine norm_ (a' := ?_) ?_ ?_
   rotate_left
   ·show Act.put _ (some 29) _ = _
    simp only [Act.put, xA, xB, xC, i64_w, i32_w]
    rfl
   refine zp 20 (some 30) ?_ zA131 rfl rfl (Or.inl ⟨by rfl, ?_⟩) ?_ ?_ ?_
   rotate_left
   ·intro w'
    go_simp
    with_reducible rfl
   rotate_left
   ·simp only [Act.put, xA, xB, xC, i64_w, i32_w]
    rfl
   refine zp 21 (some 31) ?_ zA132 rfl rfl (Or.inl ⟨by rfl, ?_⟩) ?_ ?_ ?_
   rotate_left
   ·intro w'
    go_simp
    with_reducible rfl
   rotate_left
   ·simp only [Act.put, xA, xB, xC, i64_w, i32_w]
    rfl
   refine zp 22 (some 32) ?_ zA133 rfl rfl (Or.inl ⟨by rfl, ?_⟩) ?_ ?_ ?_
   rotate_left
   ·intro w'
    go_simp
    with_reducible rfl
   rotate_left
   ·simp only [Act.put, xA, xB, xC, i64_w, i32_w]
    rfl
   refine done_ (done_of HT_.out (by kernel_rfl)) ?_
   try go_wp2
   go_roundg k1
   case measure => have := HK1.out; omega
   case rel => exact ⟨(wrap64 (x3_1 + 1)), zr, H', ⟨by have := HK1.out; omega⟩, ⟨zb⟩⟩
def spec_l09Code.f (k : Nat) (l0 : List (S63)) : Option (Int) := (spec_l09Solid.f k l0).bind fun t598 => (if t598 = true then ((spec_l09Normal.f k l0).bind fun t599 => ((spec_l09Solid.f k t599).bind fun t602 => (if t602 = true then (some 0) else (some 3)))) else (some 1))
theorem spec_l09Code.calls (k : Nat) (A0 : Option Addr) (c0 : Nat) (l0 : List (S63)) (r : Int) (w : World) (hr0 : Kd.C k63 w A0 l0.length l0) (hc0 : l0.length ≤ c0) (h : spec_l09Code.f k l0 = some r) :
  Calls Try.prog 42 #[.slice A0 l0.length c0] w fun e w' => e = .returned (.int .i64 r) ∧ Below w.heap.size w w' := by
 have HR0 := aM hr0
 have HC0 := aM hc0
 clear hr0 hc0
 have HB := aM (Below.refl w.heap.size w)
 have H : ((spec_l09Solid.f k l0).bind fun t598 => (if t598 = true then ((spec_l09Normal.f k l0).bind fun t599 => ((spec_l09Solid.f k t599).bind fun t602 => (if t602 = true then (some 0) else (some 3)))) else (some 1))) = some r := h
 clear h
 replace H := Option.bind_eq_some_iff.mp H
 obtain ⟨t598, A20, H⟩ := H
 replace H : (if t598 = true then ((spec_l09Normal.f k l0).bind fun t599 => ((spec_l09Solid.f k t599).bind fun t602 => (if t602 = true then (some 0) else (some 3)))) else (some 1)) = some r := H
 have A2 := aM A20
 clear A20
 by_cases c3 : t598 = true
 rotate_left
 ·replace c3 := Bool.eq_false_iff.mpr c3
  subst c3
  have H1 : (some 1) = some r := by rw [if_neg (show ¬ (false = true) by decide)] at H; exact H
  clear H
  have H := H1
  clear H1
  obtain rfl := Option.some.inj H
  go_enter Try.func42, Try.ntmps42
  go_wp2_with (first | ((with_reducible refine gate_callee (f := 48) rfl ?_); refine goesL_ (some 4) rfl rfl Try.func48 (by kernel_rfl) rfl #[.slice A0 l0.length c0] rfl zm ?_; (with_reducible refine (spec_l09Solid.calls k _ _ l0 false _ ?side1 ?side2 A2.out).mono ?_); (case side1 => repeat (first | exact HR0.out | (with_reducible refine Kd.C_alloc ?_ _) | (with_reducible refine Kd.C_drewN ?_ _) | (with_reducible refine Kd.C_drew ?_))); (case side2 => exact HC0.out); rintro e w15 ⟨rfl, hb⟩; refine ⟨_, rfl, ?_⟩; have n0_ := aM (below_step zb hb); clear HB; have HB := n0_; clear n0_; (try clear hb); (try clear hb2); (try clear hk); (try clear hi)))
  go_ret
  exact ⟨zw, zb⟩
 subst c3
 have H1 : ((spec_l09Normal.f k l0).bind fun t599 => ((spec_l09Solid.f k t599).bind fun t602 => (if t602 = true then (some 0) else (some 3)))) = some r := by rw [if_pos rfl] at H; exact H
 clear H
 have H := H1
 clear H1
 replace H := Option.bind_eq_some_iff.mp H
 obtain ⟨t599, A40, H⟩ := H
 replace H : ((spec_l09Solid.f k t599).bind fun t602 => (if t602 = true then (some 0) else (some 3))) = some r := H
 have A4 := aM A40
 clear A40
 replace H := Option.bind_eq_some_iff.mp H
 obtain ⟨t602, A50, H⟩ := H
 replace H : (if t602 = true then (some 0) else (some 3)) = some r := H
 have A5 := aM A50
 clear A50
 by_cases c6 : t602 = true
 ·subst c6
  have H1 : (some 0) = some r := by rw [if_pos rfl] at H; exact H
  clear H
  have H := H1
  clear H1
  obtain rfl := Option.some.inj H
  go_enter Try.func42, Try.ntmps42
  go_wp2_with (first | ((with_reducible refine gate_callee (f := 48) rfl ?_); refine goesL_ (some 4) rfl rfl Try.func48 (by kernel_rfl) rfl #[.slice A0 l0.length c0] rfl zm ?_; (with_reducible refine (spec_l09Solid.calls k _ _ l0 true _ ?side1 ?side2 A2.out).mono ?_); (case side1 => repeat (first | exact HR0.out | (with_reducible refine Kd.C_alloc ?_ _) | (with_reducible refine Kd.C_drewN ?_ _) | (with_reducible refine Kd.C_drew ?_))); (case side2 => exact HC0.out); rintro e w7 ⟨rfl, hb⟩; refine ⟨_, rfl, ?_⟩; have n0_ := aM (below_step zb hb); clear HB; have HB := n0_; clear n0_; (try clear hb); (try clear hb2); (try clear hk); (try clear hi)) | ((with_reducible refine gate_callee (f := 56) rfl ?_); refine goesL_ (some 7) rfl rfl Try.func56 (by kernel_rfl) rfl #[.slice A0 l0.length c0] rfl zm ?_; (with_reducible refine (spec_l09Normal.calls k _ _ l0 t599 _ ?side1 ?side2 A4.out).mono ?_); (case side1 => repeat (first | exact (Kd.C_below HR0.out HB.out) | (with_reducible refine Kd.C_alloc ?_ _) | (with_reducible refine Kd.C_drewN ?_ _) | (with_reducible refine Kd.C_drew ?_))); (case side2 => exact HC0.out); rintro e w8 ⟨v600, rfl, ho0, hb⟩; refine ⟨_, rfl, ?_⟩; have n0_ := aM (Kd.R_lower ho0 (below_size zb)); have n1_ := aM (below_step zb hb); clear HB; have HO601 := n0_; have HB := n1_; clear n0_ n1_; (try clear hb); (try clear hb2); (try clear hk); (try clear hi); (try clear ho0); obtain ⟨Ao9, co9, eo9⟩ := Kd.R_slice HO601.out; subst eo9) | ((with_reducible refine gate_callee (f := 48) rfl ?_); refine goesL_ (some 8) rfl rfl Try.func48 (by kernel_rfl) rfl #[.slice Ao9 t599.length co9] rfl zm ?_; (with_reducible refine (spec_l09Solid.calls k _ _ t599 true _ ?side1 ?side2 A5.out).mono ?_); (case side1 => exact zc HO601.out); (case side2 => exact (Kd.R_reads' HO601.out).2.1); rintro e w10 ⟨rfl, hb⟩; refine ⟨_, rfl, ?_⟩; have n0_ := aM (Kd.R_below (mR_ HO601.out) hb); have n1_ := aM (below_step zb hb); clear HO601 HB; have HO601 := n0_; have HB := n1_; clear n0_ n1_; (try clear hb); (try clear hb2); (try clear hk); (try clear hi)))
  go_ret
  exact ⟨zw, zb⟩
 replace c6 := Bool.eq_false_iff.mpr c6
 subst c6
 have H1 : (some 3) = some r := by rw [if_neg (show ¬ (false = true) by decide)] at H; exact H
 clear H
 have H := H1
 clear H1
 obtain rfl := Option.some.inj H
 go_enter Try.func42, Try.ntmps42
 go_wp2_with (first | ((with_reducible refine gate_callee (f := 48) rfl ?_); refine goesL_ (some 4) rfl rfl Try.func48 (by kernel_rfl) rfl #[.slice A0 l0.length c0] rfl zm ?_; (with_reducible refine (spec_l09Solid.calls k _ _ l0 true _ ?side1 ?side2 A2.out).mono ?_); (case side1 => repeat (first | exact HR0.out | (with_reducible refine Kd.C_alloc ?_ _) | (with_reducible refine Kd.C_drewN ?_ _) | (with_reducible refine Kd.C_drew ?_))); (case side2 => exact HC0.out); rintro e w11 ⟨rfl, hb⟩; refine ⟨_, rfl, ?_⟩; have n0_ := aM (below_step zb hb); clear HB; have HB := n0_; clear n0_; (try clear hb); (try clear hb2); (try clear hk); (try clear hi)) | ((with_reducible refine gate_callee (f := 56) rfl ?_); refine goesL_ (some 7) rfl rfl Try.func56 (by kernel_rfl) rfl #[.slice A0 l0.length c0] rfl zm ?_; (with_reducible refine (spec_l09Normal.calls k _ _ l0 t599 _ ?side1 ?side2 A4.out).mono ?_); (case side1 => repeat (first | exact (Kd.C_below HR0.out HB.out) | (with_reducible refine Kd.C_alloc ?_ _) | (with_reducible refine Kd.C_drewN ?_ _) | (with_reducible refine Kd.C_drew ?_))); (case side2 => exact HC0.out); rintro e w12 ⟨v600, rfl, ho0, hb⟩; refine ⟨_, rfl, ?_⟩; have n0_ := aM (Kd.R_lower ho0 (below_size zb)); have n1_ := aM (below_step zb hb); clear HB; have HO601 := n0_; have HB := n1_; clear n0_ n1_; (try clear hb); (try clear hb2); (try clear hk); (try clear hi); (try clear ho0); obtain ⟨Ao13, co13, eo13⟩ := Kd.R_slice HO601.out; subst eo13) | ((with_reducible refine gate_callee (f := 48) rfl ?_); refine goesL_ (some 8) rfl rfl Try.func48 (by kernel_rfl) rfl #[.slice Ao13 t599.length co13] rfl zm ?_; (with_reducible refine (spec_l09Solid.calls k _ _ t599 false _ ?side1 ?side2 A5.out).mono ?_); (case side1 => exact zc HO601.out); (case side2 => exact (Kd.R_reads' HO601.out).2.1); rintro e w14 ⟨rfl, hb⟩; refine ⟨_, rfl, ?_⟩; have n0_ := aM (Kd.R_below (mR_ HO601.out) hb); have n1_ := aM (below_step zb hb); clear HO601 HB; have HO601 := n0_; have HB := n1_; clear n0_ n1_; (try clear hb); (try clear hb2); (try clear hk); (try clear hi)))
 go_ret
 exact ⟨zw, zb⟩
def spec_CubeForm.j0 : Nat → List (S63) → Int → Int → Bool → Option ((List (S63)) × Int)
 | 0, _, _, _, _ => none
 | k + 1, x0, x1, x6, x15 => if x15 = true then (if 2 = 0 then ((spec_l09Form.f k x0 x1).bind fun t605 => (some (t605, 0))) else (some (([] : List (S63)), 2))) else (if x6 = 0 then ((spec_l09Form.f k x0 x1).bind fun t608 => (some (t608, 0))) else (some (([] : List (S63)), x6)))
def spec_CubeForm.f (k : Nat) (l0 : List (S63)) (a1 : Int) : Option ((List (S63)) × Int) := (spec_l09Code.f k l0).bind fun t603 => (if t603 = 1 then (spec_CubeForm.j0 k l0 a1 t603 false) else ((spec_l01In.f a1 0 47).bind fun t604 => (spec_CubeForm.j0 k l0 a1 t603 (!t604))))
theorem spec_CubeForm.calls (k : Nat) (A0 : Option Addr) (c0 : Nat) (l0 : List (S63)) (a1 : Int) (r1 : List (S63)) (r2 : Int) (w : World) (hr0 : Kd.C k63 w A0 l0.length l0) (hc0 : l0.length ≤ c0) (h : spec_CubeForm.f k l0 a1 = some (r1, r2)) :
  Calls Try.prog 18 #[.slice A0 l0.length c0, .int .i64 a1] w fun e w' => ∃ v0_ : Value, e = .returned (.tuple #[v0_, .int .i64 r2]) ∧ Kd.R k63 63 w' w.heap.size (fun _ => True) v0_ r1 ∧ Below w.heap.size w w' := by
 have HR0 := aM hr0
 have HC0 := aM hc0
 clear hr0 hc0
 have HB := aM (Below.refl w.heap.size w)
 have H : ((spec_l09Code.f k l0).bind fun t603 => (if t603 = 1 then (spec_CubeForm.j0 k l0 a1 t603 false) else ((spec_l01In.f a1 0 47).bind fun t604 => (spec_CubeForm.j0 k l0 a1 t603 (!t604))))) = some (r1, r2) := h
 clear h
 replace H := Option.bind_eq_some_iff.mp H
 obtain ⟨t603, A30, H⟩ := H
 replace H : (if t603 = 1 then (spec_CubeForm.j0 k l0 a1 t603 false) else ((spec_l01In.f a1 0 47).bind fun t604 => (spec_CubeForm.j0 k l0 a1 t603 (!t604)))) = some (r1, r2) := H
 have A3 := aM A30
 clear A30
 have HC4 := aM H
 clear H
 go_enter Try.func18, Try.ntmps18
 go_upto_region 2 with (first | ((with_reducible refine gate_callee (f := 42) rfl ?_); refine goesL_ (some 8) rfl rfl Try.func42 (by kernel_rfl) rfl #[.slice A0 l0.length c0] rfl zm ?_; (with_reducible refine (spec_l09Code.calls k _ _ l0 t603 _ ?side1 ?side2 A3.out).mono ?_); (case side1 => repeat (first | exact HR0.out | (with_reducible refine Kd.C_alloc ?_ _) | (with_reducible refine Kd.C_drewN ?_ _) | (with_reducible refine Kd.C_drew ?_))); (case side2 => exact HC0.out); rintro e w5 ⟨rfl, hb⟩; refine ⟨_, rfl, ?_⟩; have n0_ := aM (below_step zb hb); clear HB; have HB := n0_; clear n0_; (try clear hb); (try clear hb2); (try clear hk); (try clear hi)))
 (try simp only [Act.put, xA, xB, xC])
 go_cut [15] (fun v15 wc => ∃ (kq : Nat) (x15_3 : Bool), v15 = .bool x15_3 ∧ Aside0 (spec_CubeForm.j0 kq l0 a1 t603 x15_3 = some (r1, r2)) ∧ Aside0 (kq ≤ k) ∧ Aside0 (Below w.heap.size w wc))
 case first =>
  have H := HC4.out
  clear HC4
  by_cases c6 : t603 = 1
  ·rw [if_pos c6] at H
   have c6b0 : (t603 == 1) = true := beq_iff_eq.mpr c6
   have c6b1 : (t603 != 1) = false := bne_eq_false_iff_eq.mpr c6
   clear c6
   (first | rw [c6b0] | (simp only [i64_w, i32_w]; rw [c6b0]) | skip)
   have H' := aM H
   clear H
   go_wp2
   go_meet
   case rel => exact ⟨_, (false), zr, H', ⟨by first | omega | exact Nat.le_refl _⟩, ⟨zb⟩⟩
  rw [if_neg c6] at H
  have c6b0 : (t603 == 1) = false := beq_eq_false_iff_ne.mpr c6
  have c6b1 : (t603 != 1) = true := bne_iff_ne.mpr c6
  (first | rw [c6b0] | (simp only [i64_w, i32_w]; rw [c6b0]) | skip)
  replace H := Option.bind_eq_some_iff.mp H
  obtain ⟨t604, A70, H⟩ := H
  replace H : (spec_CubeForm.j0 k l0 a1 t603 (!t604)) = some (r1, r2) := H
  have A7 := aM A70
  clear A70
  have H' := aM H
  clear H
  go_wp2_with (first | (go_at_call 26; (with_reducible refine (spec_l01In.calls a1 0 47 t604 _ A7.out).mono ?_); rintro e w' ⟨rfl, ⟨nd, rfl⟩⟩))
  go_meet
  case rel => exact ⟨_, (!t604), zr, H', ⟨by first | omega | exact Nat.le_refl _⟩, ⟨zb⟩⟩
 case rest =>
  clear HC4
  try clear c1
  try clear p2
  try clear c4
  try clear c6
  try clear c6b0
  try clear c6b1
  obtain ⟨kq, x15_3, rfl, HA, HJ3, HB⟩ := hcut
  cases kq with
  | zero => exact absurd HA.out (by simp [spec_CubeForm.j0])
  | succ kj3 =>
   have H := HA.out
   clear HA
   simp only [spec_CubeForm.j0] at H
   by_cases c8 : x15_3 = true
   ·subst c8
    have H1 : (if 2 = 0 then ((spec_l09Form.f kj3 l0 a1).bind fun t605 => (some (t605, 0))) else (some (([] : List (S63)), 2))) = some (r1, r2) := by rw [if_pos rfl] at H; exact H
    clear H
    have H := H1
    clear H1
    by_cases c9 : 2 = 0
    ·exact absurd c9 (by decide)
    rw [if_neg c9] at H
    have c9b0 : (2 == 0) = false := beq_eq_false_iff_ne.mpr c9
    have c9b1 : (2 != 0) = true := bne_iff_ne.mpr c9
    simp only [Option.some.injEq, Prod.mk.injEq] at H
    obtain ⟨rfl, rfl⟩ := H
    go_wp2
    go_ret2
    exact ⟨_, zw, by first | exact Kd.R_nil _ _ _ _ _ | exact Kd.N_nil _ _ _ _ _ | exact Kd.V_nil _ _ _ _ _ | exact Kd.Q_nil _ _ _ _ _ | exact Kd.S_nil _ _ _ _ _, zb⟩
   replace c8 := Bool.eq_false_iff.mpr c8
   subst c8
   have H1 : (if t603 = 0 then ((spec_l09Form.f kj3 l0 a1).bind fun t608 => (some (t608, 0))) else (some (([] : List (S63)), t603))) = some (r1, r2) := by rw [if_neg (show ¬ (false = true) by decide)] at H; exact H
   clear H
   have H := H1
   clear H1
   by_cases c12 : t603 = 0
   rotate_left
   ·rw [if_neg c12] at H
    have c12b0 : (t603 == 0) = false := beq_eq_false_iff_ne.mpr c12
    have c12b1 : (t603 != 0) = true := bne_iff_ne.mpr c12
    simp only [Option.some.injEq, Prod.mk.injEq] at H
    obtain ⟨rfl, rfl⟩ := H
    go_wp2
    go_ret2
    exact ⟨_, zw, by first | exact Kd.R_nil _ _ _ _ _ | exact Kd.N_nil _ _ _ _ _ | exact Kd.V_nil _ _ _ _ _ | exact Kd.Q_nil _ _ _ _ _ | exact Kd.S_nil _ _ _ _ _, zb⟩
   rw [if_pos c12] at H
   have c12b0 : (t603 == 0) = true := beq_iff_eq.mpr c12
   have c12b1 : (t603 != 0) = false := bne_eq_false_iff_eq.mpr c12
   clear c12
   replace H := Option.bind_eq_some_iff.mp H
   obtain ⟨t608, A130, H⟩ := H
   replace H : (some (t608, 0)) = some (r1, r2) := H
   have A13 := aM A130
   clear A130
   simp only [Option.some.injEq, Prod.mk.injEq] at H
   obtain ⟨rfl, rfl⟩ := H
   go_wp2_with (first | ((with_reducible refine gate_callee (f := 43) rfl ?_); refine goesL_ (some 21) rfl rfl Try.func43 (by kernel_rfl) rfl #[.slice A0 l0.length c0, .int .i64 a1] rfl zm ?_; (with_reducible refine (spec_l09Form.calls kj3 _ _ l0 a1 t608 _ ?side1 ?side2 A13.out).mono ?_); (case side1 => repeat (first | exact (Kd.C_below HR0.out HB.out) | (with_reducible refine Kd.C_alloc ?_ _) | (with_reducible refine Kd.C_drewN ?_ _) | (with_reducible refine Kd.C_drew ?_))); (case side2 => exact HC0.out); rintro e w14 ⟨v609, rfl, ho0, hb⟩; refine ⟨_, rfl, ?_⟩; have n0_ := aM (Kd.R_lower ho0 (below_size zb)); have n1_ := aM (below_step zb hb); clear HB; have HO610 := n0_; have HB := n1_; clear n0_ n1_; (try clear hb); (try clear hb2); (try clear hk); (try clear hi); (try clear ho0)))
   go_ret2
   exact ⟨_, zw, mR_ HO610.out, zb⟩
def spec_DrawLeastForm.f (k : Nat) (l0 : List Int) : Option ((List (S63)) × Bool) := (spec_l01From.f k l0).bind fun bt611 => ((spec_l09Draw.f k bt611.1 bt611.2.1 bt611.2.2).bind fun bt615 => ((spec_l01Next.f bt611.1 bt615.2.1 bt615.2.2 2).bind fun bt620 => (some (bt615.1, (bt620.1 == 0)))))
theorem spec_DrawLeastForm.calls (k : Nat) (A0 : Option Addr) (c0 : Nat) (l0 : List Int) (r1 : List (S63)) (r2 : Bool) (w : World) (hr0 : Kd.C (Kd.int .u8) w A0 l0.length l0) (hc0 : l0.length ≤ c0) (h : spec_DrawLeastForm.f k l0 = some (r1, r2)) :
  Calls Try.prog 19 #[.slice A0 l0.length c0] w fun e w' => ∃ v0_ : Value, e = .returned (.tuple #[v0_, .bool r2]) ∧ Kd.R k63 63 w' w.heap.size (fun _ => True) v0_ r1 ∧ Below w.heap.size w w' := by
 have HR0 := aM hr0
 have HC0 := aM hc0
 clear hr0 hc0
 have HB := aM (Below.refl w.heap.size w)
 have H : ((spec_l01From.f k l0).bind fun bt611 => ((spec_l09Draw.f k bt611.1 bt611.2.1 bt611.2.2).bind fun bt615 => ((spec_l01Next.f bt611.1 bt615.2.1 bt615.2.2 2).bind fun bt620 => (some (bt615.1, (bt620.1 == 0)))))) = some (r1, r2) := h
 clear h
 replace H := Option.bind_eq_some_iff.mp H
 obtain ⟨⟨t611, t612, t613⟩, A20, H⟩ := H
 replace H : ((spec_l09Draw.f k t611 t612 t613).bind fun bt615 => ((spec_l01Next.f t611 bt615.2.1 bt615.2.2 2).bind fun bt620 => (some (bt615.1, (bt620.1 == 0))))) = some (r1, r2) := H
 have A2 := aM A20
 clear A20
 replace H := Option.bind_eq_some_iff.mp H
 obtain ⟨⟨t615, t618, t619⟩, A30, H⟩ := H
 replace H : ((spec_l01Next.f t611 t618 t619 2).bind fun bt620 => (some (t615, (bt620.1 == 0)))) = some (r1, r2) := H
 have A3 := aM A30
 clear A30
 replace H := Option.bind_eq_some_iff.mp H
 obtain ⟨⟨t620, t621, t622⟩, A40, H⟩ := H
 replace H : (some (t615, (t620 == 0))) = some (r1, r2) := H
 have A4 := aM A40
 clear A40
 simp only [Option.some.injEq, Prod.mk.injEq] at H
 obtain ⟨rfl, rfl⟩ := H
 go_enter Try.func19, Try.ntmps19
 go_wp2_with (first | ((with_reducible refine gate_callee (f := 36) rfl ?_); refine goesL_ (some 7) rfl rfl Try.func36 (by kernel_rfl) rfl #[.slice A0 l0.length c0] rfl zm ?_; (with_reducible refine (spec_l01From.calls k _ _ l0 t611 t612 t613 w _ ?side1 ?side2 ?side3 A2.out).mono ?_); (case side1 => repeat (first | (with_reducible first | exact HB.out | apply below_alloc | apply pw_below_drewN | apply below_drew1) | exact HB.out)); (case side2 => exact HR0.out); (case side3 => exact HC0.out); rintro e w5 ⟨g614, rfl, hi, hb, hb2⟩; refine ⟨_, rfl, ?_⟩; have n0_ := aM (hb); have n1_ := aM (hi); clear HB; have HB := n0_; have HI614 := n1_; clear n0_ n1_; (try clear hb); (try clear hb2); (try clear hk); (try clear hi)) | ((with_reducible refine gate_callee (f := 37) rfl ?_); refine goesL_ (some 9) rfl rfl Try.func37 (by kernel_rfl) rfl #[.pointer (some ⟨g614, 0, none⟩)] rfl zm ?_; (with_reducible refine (spec_l09Draw.calls k g614 t611 t612 t613 t615 t618 t619 w _ ?side1 ?side2 A3.out).mono ?_); (case side1 => exact zI79 HI614.out); (case side2 => exact zs (IsS79.ge HI614.out)); rintro e w6 ⟨v616, rfl, ho0, hi, hb, hk⟩; refine ⟨_, rfl, ?_⟩; have n0_ := aM (Kd.R_lower ho0 (below_size (zs (IsS79.ge HI614.out)))); have n1_ := aM (hb); have n2_ := aM (hi); clear HB HI614; have HO617 := n0_; have HB := n1_; have HI614 := n2_; clear n0_ n1_ n2_; (try clear hb); (try clear hb2); (try clear hk); (try clear hi); (try clear ho0)) | ((with_reducible refine gate_callee (f := 38) rfl ?_); refine goesL_ (some 12) rfl rfl Try.func38 (by kernel_rfl) rfl #[.pointer (some ⟨g614, 0, none⟩), .int .i64 2] rfl zm ?_; (with_reducible refine (spec_l01Next.calls g614 t611 t618 t619 2 t620 t621 t622 w _ ?side1 ?side2 A4.out).mono ?_); (case side1 => exact zI79 HI614.out); (case side2 => exact zs (IsS79.ge HI614.out)); rintro e w7 ⟨rfl, hi, hb, hk⟩; refine ⟨_, rfl, ?_⟩; have n0_ := aM (Kd.R_mono (Kd.R_keep (IsS79.apart (show IsS79 w _ g614 t611 t618 t619 from zI79 HI614.out) (mR_ HO617.out) (by decide)) hk (fun _ h => h.2)) (fun _ h => h.1)); have n1_ := aM (hb); have n2_ := aM (hi); clear HO617 HB HI614; have HO617 := n0_; have HB := n1_; have HI614 := n2_; clear n0_ n1_ n2_; (try clear hb); (try clear hb2); (try clear hk); (try clear hi)))
 go_ret2
 exact ⟨_, zw, mR_ HO617.out, zs (IsS79.ge HI614.out)⟩
def impl_LeastForm.f (k : Nat) (l0 : List (S63)) (a1 : Bool) : Option ((List (S63)) × Int) := (impl_solidCode.f k l0).bind fun t623 => (if t623 = 0 then ((impl_leastSolid.f k l0 a1).bind fun t624 => (some (t624, 0))) else (some (([] : List (S63)), t623)))
theorem impl_LeastForm.calls (k : Nat) (A0 : Option Addr) (c0 : Nat) (l0 : List (S63)) (a1 : Bool) (r1 : List (S63)) (r2 : Int) (w : World) (hr0 : Kd.C k63 w A0 l0.length l0) (hc0 : l0.length ≤ c0) (h : impl_LeastForm.f k l0 a1 = some (r1, r2)) :
  Calls Try.prog 20 #[.slice A0 l0.length c0, .bool a1] w fun e w' => ∃ v0_ : Value, e = .returned (.tuple #[v0_, .int .i64 r2]) ∧ Kd.R k63 63 w' w.heap.size (fun _ => True) v0_ r1 ∧ Below w.heap.size w w' := by
 have HR0 := aM hr0
 have HC0 := aM hc0
 clear hr0 hc0
 have HB := aM (Below.refl w.heap.size w)
 have H : ((impl_solidCode.f k l0).bind fun t623 => (if t623 = 0 then ((impl_leastSolid.f k l0 a1).bind fun t624 => (some (t624, 0))) else (some (([] : List (S63)), t623)))) = some (r1, r2) := h
 clear h
 replace H := Option.bind_eq_some_iff.mp H
 obtain ⟨t623, A30, H⟩ := H
 replace H : (if t623 = 0 then ((impl_leastSolid.f k l0 a1).bind fun t624 => (some (t624, 0))) else (some (([] : List (S63)), t623))) = some (r1, r2) := H
 have A3 := aM A30
 clear A30
 by_cases c4 : t623 = 0
 rotate_left
 ·rw [if_neg c4] at H
  have c4b0 : (t623 == 0) = false := beq_eq_false_iff_ne.mpr c4
  have c4b1 : (t623 != 0) = true := bne_iff_ne.mpr c4
  simp only [Option.some.injEq, Prod.mk.injEq] at H
  obtain ⟨rfl, rfl⟩ := H
  go_enter Try.func20, Try.ntmps20
  go_wp2_with (first | ((with_reducible refine gate_callee (f := 40) rfl ?_); refine goesL_ (some 8) rfl rfl Try.func40 (by kernel_rfl) rfl #[.slice A0 l0.length c0] rfl zm ?_; (with_reducible refine (impl_solidCode.calls k _ _ l0 t623 _ ?side1 ?side2 A3.out).mono ?_); (case side1 => repeat (first | exact HR0.out | (with_reducible refine Kd.C_alloc ?_ _) | (with_reducible refine Kd.C_drewN ?_ _) | (with_reducible refine Kd.C_drew ?_))); (case side2 => exact HC0.out); rintro e w8 ⟨rfl, hb⟩; refine ⟨_, rfl, ?_⟩; have n0_ := aM (below_step zb hb); clear HB; have HB := n0_; clear n0_; (try clear hb); (try clear hb2); (try clear hk); (try clear hi)))
  go_ret2
  exact ⟨_, zw, by first | exact Kd.R_nil _ _ _ _ _ | exact Kd.N_nil _ _ _ _ _ | exact Kd.V_nil _ _ _ _ _ | exact Kd.Q_nil _ _ _ _ _ | exact Kd.S_nil _ _ _ _ _, zb⟩
 rw [if_pos c4] at H
 have c4b0 : (t623 == 0) = true := beq_iff_eq.mpr c4
 have c4b1 : (t623 != 0) = false := bne_eq_false_iff_eq.mpr c4
 clear c4
 replace H := Option.bind_eq_some_iff.mp H
 obtain ⟨t624, A50, H⟩ := H
 replace H : (some (t624, 0)) = some (r1, r2) := H
 have A5 := aM A50
 clear A50
 simp only [Option.some.injEq, Prod.mk.injEq] at H
 obtain ⟨rfl, rfl⟩ := H
 go_enter Try.func20, Try.ntmps20
 go_wp2_with (first | ((with_reducible refine gate_callee (f := 40) rfl ?_); refine goesL_ (some 8) rfl rfl Try.func40 (by kernel_rfl) rfl #[.slice A0 l0.length c0] rfl zm ?_; (with_reducible refine (impl_solidCode.calls k _ _ l0 t623 _ ?side1 ?side2 A3.out).mono ?_); (case side1 => repeat (first | exact HR0.out | (with_reducible refine Kd.C_alloc ?_ _) | (with_reducible refine Kd.C_drewN ?_ _) | (with_reducible refine Kd.C_drew ?_))); (case side2 => exact HC0.out); rintro e w6 ⟨rfl, hb⟩; refine ⟨_, rfl, ?_⟩; have n0_ := aM (below_step zb hb); clear HB; have HB := n0_; clear n0_; (try clear hb); (try clear hb2); (try clear hk); (try clear hi)) | ((with_reducible refine gate_callee (f := 44) rfl ?_); refine goesL_ (some 14) rfl rfl Try.func44 (by kernel_rfl) rfl #[.slice A0 l0.length c0, .bool a1] rfl zm ?_; (with_reducible refine (impl_leastSolid.calls k _ _ l0 a1 t624 _ ?side1 ?side2 A5.out).mono ?_); (case side1 => repeat (first | exact (Kd.C_below HR0.out HB.out) | (with_reducible refine Kd.C_alloc ?_ _) | (with_reducible refine Kd.C_drewN ?_ _) | (with_reducible refine Kd.C_drew ?_))); (case side2 => exact HC0.out); rintro e w7 ⟨v625, rfl, ho0, hb⟩; refine ⟨_, rfl, ?_⟩; have n0_ := aM (Kd.R_lower ho0 (below_size zb)); have n1_ := aM (below_step zb hb); clear HB; have HO626 := n0_; have HB := n1_; clear n0_ n1_; (try clear hb); (try clear hb2); (try clear hk); (try clear hi); (try clear ho0)))
 go_ret2
 exact ⟨_, zw, mR_ HO626.out, zb⟩
def spec_LeastForm.f (k : Nat) (l0 : List (S63)) (a1 : Bool) : Option ((List (S63)) × Int) := (spec_l09Code.f k l0).bind fun t627 => (if t627 = 0 then ((spec_l09Turns.f a1).bind fun t628 => ((spec_l09Least.f k l0 t628).bind fun t629 => (some (t629, 0)))) else (some (([] : List (S63)), t627)))
theorem spec_LeastForm.calls (k : Nat) (A0 : Option Addr) (c0 : Nat) (l0 : List (S63)) (a1 : Bool) (r1 : List (S63)) (r2 : Int) (w : World) (hr0 : Kd.C k63 w A0 l0.length l0) (hc0 : l0.length ≤ c0) (h : spec_LeastForm.f k l0 a1 = some (r1, r2)) :
  Calls Try.prog 21 #[.slice A0 l0.length c0, .bool a1] w fun e w' => ∃ v0_ : Value, e = .returned (.tuple #[v0_, .int .i64 r2]) ∧ Kd.R k63 63 w' w.heap.size (fun _ => True) v0_ r1 ∧ Below w.heap.size w w' := by
 have HR0 := aM hr0
 have HC0 := aM hc0
 clear hr0 hc0
 have HB := aM (Below.refl w.heap.size w)
 have H : ((spec_l09Code.f k l0).bind fun t627 => (if t627 = 0 then ((spec_l09Turns.f a1).bind fun t628 => ((spec_l09Least.f k l0 t628).bind fun t629 => (some (t629, 0)))) else (some (([] : List (S63)), t627)))) = some (r1, r2) := h
 clear h
 replace H := Option.bind_eq_some_iff.mp H
 obtain ⟨t627, A30, H⟩ := H
 replace H : (if t627 = 0 then ((spec_l09Turns.f a1).bind fun t628 => ((spec_l09Least.f k l0 t628).bind fun t629 => (some (t629, 0)))) else (some (([] : List (S63)), t627))) = some (r1, r2) := H
 have A3 := aM A30
 clear A30
 by_cases c4 : t627 = 0
 rotate_left
 ·rw [if_neg c4] at H
  have c4b0 : (t627 == 0) = false := beq_eq_false_iff_ne.mpr c4
  have c4b1 : (t627 != 0) = true := bne_iff_ne.mpr c4
  simp only [Option.some.injEq, Prod.mk.injEq] at H
  obtain ⟨rfl, rfl⟩ := H
  go_enter Try.func21, Try.ntmps21
  go_wp2_with (first | ((with_reducible refine gate_callee (f := 42) rfl ?_); refine goesL_ (some 8) rfl rfl Try.func42 (by kernel_rfl) rfl #[.slice A0 l0.length c0] rfl zm ?_; (with_reducible refine (spec_l09Code.calls k _ _ l0 t627 _ ?side1 ?side2 A3.out).mono ?_); (case side1 => repeat (first | exact HR0.out | (with_reducible refine Kd.C_alloc ?_ _) | (with_reducible refine Kd.C_drewN ?_ _) | (with_reducible refine Kd.C_drew ?_))); (case side2 => exact HC0.out); rintro e w9 ⟨rfl, hb⟩; refine ⟨_, rfl, ?_⟩; have n0_ := aM (below_step zb hb); clear HB; have HB := n0_; clear n0_; (try clear hb); (try clear hb2); (try clear hk); (try clear hi)))
  go_ret2
  exact ⟨_, zw, by first | exact Kd.R_nil _ _ _ _ _ | exact Kd.N_nil _ _ _ _ _ | exact Kd.V_nil _ _ _ _ _ | exact Kd.Q_nil _ _ _ _ _ | exact Kd.S_nil _ _ _ _ _, zb⟩
 rw [if_pos c4] at H
 have c4b0 : (t627 == 0) = true := beq_iff_eq.mpr c4
 have c4b1 : (t627 != 0) = false := bne_eq_false_iff_eq.mpr c4
 clear c4
 replace H := Option.bind_eq_some_iff.mp H
 obtain ⟨t628, A50, H⟩ := H
 replace H : ((spec_l09Least.f k l0 t628).bind fun t629 => (some (t629, 0))) = some (r1, r2) := H
 have A5 := aM A50
 clear A50
 replace H := Option.bind_eq_some_iff.mp H
 obtain ⟨t629, A60, H⟩ := H
 replace H : (some (t629, 0)) = some (r1, r2) := H
 have A6 := aM A60
 clear A60
 simp only [Option.some.injEq, Prod.mk.injEq] at H
 obtain ⟨rfl, rfl⟩ := H
 go_enter Try.func21, Try.ntmps21
 go_wp2_with (first | ((with_reducible refine gate_callee (f := 42) rfl ?_); refine goesL_ (some 8) rfl rfl Try.func42 (by kernel_rfl) rfl #[.slice A0 l0.length c0] rfl zm ?_; (with_reducible refine (spec_l09Code.calls k _ _ l0 t627 _ ?side1 ?side2 A3.out).mono ?_); (case side1 => repeat (first | exact HR0.out | (with_reducible refine Kd.C_alloc ?_ _) | (with_reducible refine Kd.C_drewN ?_ _) | (with_reducible refine Kd.C_drew ?_))); (case side2 => exact HC0.out); rintro e w7 ⟨rfl, hb⟩; refine ⟨_, rfl, ?_⟩; have n0_ := aM (below_step zb hb); clear HB; have HB := n0_; clear n0_; (try clear hb); (try clear hb2); (try clear hk); (try clear hi)) | ((with_reducible refine gate_callee (f := 46) rfl ?_); refine goesL_ (some 14) rfl rfl Try.func46 (by kernel_rfl) rfl #[.bool a1] rfl zm ?_; (with_reducible refine (spec_l09Turns.calls a1 t628 _ A5.out).mono ?_); rintro e w' ⟨rfl, ⟨nd, rfl⟩⟩; refine ⟨_, rfl, ?_⟩) | ((with_reducible refine gate_callee (f := 45) rfl ?_); refine goesL_ (some 15) rfl rfl Try.func45 (by kernel_rfl) rfl #[.slice A0 l0.length c0, .int .i64 t628] rfl zm ?_; (with_reducible refine (spec_l09Least.calls k _ _ l0 t628 t629 _ ?side1 ?side2 A6.out).mono ?_); (case side1 => repeat (first | exact (Kd.C_below HR0.out zb) | (with_reducible refine Kd.C_alloc ?_ _) | (with_reducible refine Kd.C_drewN ?_ _) | (with_reducible refine Kd.C_drew ?_))); (case side2 => exact HC0.out); rintro e w8 ⟨v630, rfl, ho0, hb⟩; refine ⟨_, rfl, ?_⟩; have n0_ := aM (Kd.R_lower ho0 (below_size zb)); have n1_ := aM (below_step zb hb); clear HB; have HO631 := n0_; have HB := n1_; clear n0_ n1_; (try clear hb); (try clear hb2); (try clear hk); (try clear hi); (try clear ho0)))
 go_ret2
 exact ⟨_, zw, mR_ HO631.out, zb⟩
mutual
def impl_connectedCubes.l0 : Nat → List (S63) → List (S63) → Int → Option (Bool)
 | 0, _, _, _ => none
 | k + 1, x0, x3, x4 => if x4 < (x3.length : Int) then (if 0 ≤ x4 then ((impl_cubesAround.f ((rd_T63 x3 x4).f0) ((rd_T63 x3 x4).f1) ((rd_T63 x3 x4).f2)).bind fun t637 => (impl_connectedCubes.l1 k x0 x3 x4 t637 (t637.length : Int) 0)) else (none)) else (some ((x3.length : Int) == (x0.length : Int)))
def impl_connectedCubes.l1 : Nat → List (S63) → List (S63) → Int → List (S63) → Int → Int → Option (Bool)
 | 0, _, _, _, _, _, _ => none
 | k + 1, x0, x3, x4, x21, x22, x23 => if x23 < x22 then (if 0 ≤ x23 then (if x23 < (x21.length : Int) then ((impl_Cube_51.f k x0 ((rd_T63 x21 x23).f0) ((rd_T63 x21 x23).f1) ((rd_T63 x21 x23).f2)).bind fun t642 => (if t642 = true then ((impl_Cube_51.f k x3 ((rd_T63 x21 x23).f0) ((rd_T63 x21 x23).f1) ((rd_T63 x21 x23).f2)).bind fun t643 => (if t643 = true then (impl_connectedCubes.l1 k x0 x3 x4 x21 x22 (wrap64 (x23 + 1))) else (if x3.length < 5864062014805 then (impl_connectedCubes.l1 k x0 (x3 ++ [(⟨(rd_T63 x21 x23).f0, (rd_T63 x21 x23).f1, (rd_T63 x21 x23).f2⟩ : S63)]) x4 x21 x22 (wrap64 (x23 + 1))) else (none)))) else (impl_connectedCubes.l1 k x0 x3 x4 x21 x22 (wrap64 (x23 + 1))))) else (none)) else (none)) else (impl_connectedCubes.l0 k x0 x3 (wrap64 (x4 + 1)))
end
def impl_connectedCubes.f (k : Nat) (l0 : List (S63)) : Option (Bool) := if 0 < (l0.length : Int) then (impl_connectedCubes.l0 k l0 (([(⟨(rd_T63 l0 0).f0, (rd_T63 l0 0).f1, (rd_T63 l0 0).f2⟩ : S63)] : List (S63))) 0) else (none)
theorem impl_connectedCubes.calls (k : Nat) (A0 : Option Addr) (c0 : Nat) (l0 : List (S63)) (r : Bool) (w : World) (hr0 : Kd.C k63 w A0 l0.length l0) (hc0 : l0.length ≤ c0) (h : impl_connectedCubes.f k l0 = some r) :
  Calls Try.prog 47 #[.slice A0 l0.length c0] w fun e w' => e = .returned (.bool r) ∧ Below w.heap.size w w' := by
 have hu63 := Try.underlying63
 have HR0 := aM hr0
 have HC0 := aM hc0
 clear hr0 hc0
 have HB := aM (Below.refl w.heap.size w)
 have H : (if 0 < (l0.length : Int) then (impl_connectedCubes.l0 k l0 (([(⟨(rd_T63 l0 0).f0, (rd_T63 l0 0).f1, (rd_T63 l0 0).f2⟩ : S63)] : List (S63))) 0) else (none)) = some r := h
 clear h
 by_cases c2 : 0 < (l0.length : Int)
 rotate_left
 ·rw [if_neg c2] at H
  exact absurd H (by simp)
 rw [if_pos c2] at H
 have c2b0 : decide (0 < (l0.length : Int)) = true := decide_eq_true c2
 have c2b1 : decide (0 < l0.length) = true := decide_eq_true (by omega)
 clear c2
 obtain ⟨y633, hy633⟩ : ∃ y_ : List (S63), y_ = (([(⟨(rd_T63 l0 0).f0, (rd_T63 l0 0).f1, (rd_T63 l0 0).f2⟩ : S63)] : List (S63))) := ⟨_, rfl⟩
 replace H : (impl_connectedCubes.l0 k l0 y633 0) = some r := zy H hy633
 have Ny633 := aM hy633
 clear hy633
 have H' := aM H
 clear H
 have p632 : 0 ≤ (0 : Int) := (by omega)
 have q632 : 0 < (l0.length : Int) := of_decide_eq_true za
 obtain ⟨ad632, e632, hx632_0, hx632_1, hx632_2⟩ := at_T63 HR0.out 0 p632 q632
 cases e632
 have qi632 : (0 < l0.length) = True := eq_true (by omega)
 (try rw [show ((0 : Int)).toNat = 0 from rfl] at hx632_0)
 (try rw [show 0 * 3 = 0 from rfl] at hx632_0)
 (try rw [Addr.add_zero'] at hx632_0)
 (try rw [show ((0 : Int)).toNat = 0 from rfl] at hx632_1)
 (try rw [show 0 * 3 = 0 from rfl] at hx632_1)
 (try rw [Addr.add_zero'] at hx632_1)
 (try rw [show ((0 : Int)).toNat = 0 from rfl] at hx632_2)
 (try rw [show 0 * 3 = 0 from rfl] at hx632_2)
 (try rw [Addr.add_zero'] at hx632_2)
 replace p632 := eq_true p632
 replace q632 := eq_true q632
 go_enter Try.func47, Try.ntmps47
 go_wp2_with (first | ((with_reducible refine gate_dst (N := 10) rfl ?_); refine Kd.R_lit k63 _ 63 ?hg (N := 10) ?hd (xs := ([(⟨(rd_T63 l0 0).f0, (rd_T63 l0 0).f1, (rd_T63 l0 0).f2⟩ : S63)] : List (S63))) (inner := [.int .i64 ((rd_T63 l0 0).f0), .int .i64 ((rd_T63 l0 0).f1), .int .i64 ((rd_T63 l0 0).f2)]) (ok := fun _ => True) (okp := fun _ => True) ?hr ?hp (fun _ hk => hk) trivial (Below.refl _ _) (Nat.le_refl _) (by simp) ?_; (case hd => rfl); (case hg => rfl); (case hr => first | (go_simp; done) | (go_simp; rfl)); (case hp => exact (Reps.c3 (show Kd.M k63 _ _ _ (⟨(rd_T63 l0 0).f0, (rd_T63 l0 0).f1, (rd_T63 l0 0).f2⟩ : S63) [.int .i64 ((rd_T63 l0 0).f0), .int .i64 ((rd_T63 l0 0).f1), .int .i64 ((rd_T63 l0 0).f2)] from (k63_mkM _ _ _ (⟨(rd_T63 l0 0).f0, (rd_T63 l0 0).f1, (rd_T63 l0 0).f2⟩ : S63) )) (Reps.none _ _))); intro v634 w3 ho4 hb hg_ hnew_; clear hg_ hnew_; (first | rw [← Ny633.out] at ho4 | (simp only [Int.reduceToNat] at ho4; rw [← Ny633.out] at ho4)); have n0_ := aM (Kd.R_lower ho4 (below_size zb)); have n1_ := aM (below_step zb hb); clear HB; have HO635 := n0_; have HB := n1_; clear n0_ n1_; clear hb ho4))
 go_loopg [3, 4] k (fun kq v3 v4 w' => ∃ (x3_1 : List (S63)) (x4_1 : Int), v4 = .int .i64 x4_1 ∧ Aside0 (impl_connectedCubes.l0 kq l0 x3_1 x4_1 = some r) ∧ Aside0 (kq ≤ k) ∧ Aside0 (Kd.R k63 63 w' w.heap.size (fun _ => True) v3 x3_1) ∧ Aside0 (Below w.heap.size w w'))
 case atStart => exact ⟨(y633), (0), zr, H', ⟨Nat.le_refl _⟩, ⟨mR_ HO635.out⟩, ⟨zb⟩⟩
 case round =>
  clear H'
  try clear c2
  try clear c2b0
  try clear c2b1
  try clear p2
  try clear c3
  try clear c4
  try clear hx632_0
  try clear hx632_1
  try clear hx632_2
  try clear p632
  try clear q632
  obtain ⟨x3_1, x4_1, rfl, HA, HK1, HO_3, HB⟩ := hrel
  cases gk with
  | zero => exact absurd HA.out (by simp [impl_connectedCubes.l0])
  | succ k1 =>
   have H := HA.out
   clear HA
   simp only [impl_connectedCubes.l0] at H
   by_cases c5 : x4_1 < (x3_1.length : Int)
   rotate_left
   ·rw [if_neg c5] at H
    have c5b0 : decide (x4_1 < (x3_1.length : Int)) = false := decide_eq_false c5
    clear c5
    obtain rfl := Option.some.inj H
    obtain ⟨Ao36, co36, eo36⟩ := Kd.R_slice HO_3.out
    subst eo36
    go_wp2
    go_ret
    exact ⟨zw, zb⟩
   rw [if_pos c5] at H
   have c5b0 : decide (x4_1 < (x3_1.length : Int)) = true := decide_eq_true c5
   clear c5
   by_cases c6 : 0 ≤ x4_1
   rotate_left
   ·rw [if_neg c6] at H
    exact absurd H (by simp)
   rw [if_pos c6] at H
   have c6b0 : decide (0 ≤ x4_1) = true := decide_eq_true c6
   clear c6
   replace H := Option.bind_eq_some_iff.mp H
   obtain ⟨t637, A70, H⟩ := H
   replace H : (impl_connectedCubes.l1 k1 l0 x3_1 x4_1 t637 (t637.length : Int) 0) = some r := H
   have A7 := aM A70
   clear A70
   have H' := aM H
   clear H
   obtain ⟨Ao8, co8, eo8⟩ := Kd.R_slice HO_3.out
   subst eo8
   have p636 : 0 ≤ (x4_1 : Int) := of_decide_eq_true za
   have q636 : x4_1 < (x3_1.length : Int) := of_decide_eq_true za
   obtain ⟨ad636, e636, hx636_0, hx636_1, hx636_2⟩ := at_T63 (Kd.R_reads' HO_3.out).2.2 x4_1 p636 q636
   cases e636
   replace p636 := eq_true p636
   replace q636 := eq_true q636
   go_wp2_with (first | ((with_reducible refine gate_callee (f := 50) rfl ?_); refine goesL_ (some 21) rfl rfl Try.func50 (by kernel_rfl) rfl #[.agg #[.int .i64 ((rd_T63 x3_1 x4_1).f0), .int .i64 ((rd_T63 x3_1 x4_1).f1), .int .i64 ((rd_T63 x3_1 x4_1).f2)]] rfl zm ?_; (with_reducible refine (impl_cubesAround.calls ((rd_T63 x3_1 x4_1).f0) ((rd_T63 x3_1 x4_1).f1) ((rd_T63 x3_1 x4_1).f2) t637 _ A7.out).mono ?_); rintro e w9 ⟨v638, rfl, ho0, hb⟩; refine ⟨_, rfl, ?_⟩; have n0_ := aM (Kd.R_elder' (mR_ HO_3.out) (Kd.R_base ho0) hb); have n1_ := aM (Kd.R_lower (Kd.R_new' ho0 (Kd.R_lt (mR_ HO_3.out))) (below_size zb)); have n2_ := aM (below_step zb hb); clear HO_3 HB; have HO_3 := n0_; have HO639 := n1_; have HB := n2_; clear n0_ n1_ n2_; (try clear hb); (try clear hb2); (try clear hk); (try clear hi); (try clear ho0); obtain ⟨Ao10, co10, eo10⟩ := Kd.R_slice HO639.out; subst eo10))
   go_loopg [3, 23] k1 (fun kq v3 v23 w' => ∃ (x3_2 : List (S63)) (x23_2 : Int), v23 = .int .i64 x23_2 ∧ Aside0 (impl_connectedCubes.l1 kq l0 x3_2 x4_1 t637 (t637.length : Int) x23_2 = some r) ∧ Aside0 (kq ≤ k1) ∧ Aside0 (Kd.R k63 63 w' w.heap.size (fun k_ => some k_ ≠ ((.slice Ao10 t637.length co10) : Value).ownBlock) v3 x3_2) ∧ Aside0 (Kd.R k63 63 w' w.heap.size (fun k_ => some k_ ≠ (v3 : Value).ownBlock) (.slice Ao10 t637.length co10) t637) ∧ Aside0 (Below w.heap.size w w'))
   case atStart => exact ⟨(x3_1), (0), zr, H', ⟨Nat.le_refl _⟩, ⟨zd0 HO_3.out⟩, ⟨zd0 HO639.out⟩, ⟨zb⟩⟩
   case round =>
    clear H'
    try clear c2
    try clear c2b0
    try clear c2b1
    try clear p2
    try clear c3
    try clear c4
    try clear c5
    try clear c5b0
    try clear c6
    try clear c6b0
    try clear p6
    try clear q6
    try clear hx6
    try clear qi6
    try clear hx632_0
    try clear hx632_1
    try clear hx632_2
    try clear hx636_0
    try clear hx636_1
    try clear hx636_2
    try clear p2
    try clear p632
    try clear p636
    try clear q632
    try clear q636
    obtain ⟨x3_2, x23_2, rfl, HA, HK2, HO_3, HO_21, HB⟩ := hrel
    cases gk with
    | zero => exact absurd HA.out (by simp [impl_connectedCubes.l1])
    | succ k2 =>
     have H := HA.out
     clear HA
     simp only [impl_connectedCubes.l1] at H
     by_cases c11 : x23_2 < (t637.length : Int)
     rotate_left
     ·rw [if_neg c11] at H
      have c11b0 : decide (x23_2 < (t637.length : Int)) = false := decide_eq_false c11
      clear c11
      have H' := aM H
      clear H
      go_wp2
      go_roundg k2
      case measure => have := HK1.out; have := HK2.out; omega
      case rel => exact ⟨(x3_2), (wrap64 (x4_1 + 1)), zr, H', ⟨by have := HK1.out; have := HK2.out; omega⟩, ⟨zd1 HO_3.out⟩, ⟨zb⟩⟩
     rw [if_pos c11] at H
     have c11b0 : decide (x23_2 < (t637.length : Int)) = true := decide_eq_true c11
     clear c11
     by_cases c12 : 0 ≤ x23_2
     rotate_left
     ·rw [if_neg c12] at H
      exact absurd H (by simp)
     rw [if_pos c12] at H
     have c12b0 : decide (0 ≤ x23_2) = true := decide_eq_true c12
     clear c12
     by_cases c13 : x23_2 < (t637.length : Int)
     rotate_left
     ·rw [if_neg c13] at H
      exact absurd H (by simp)
     rw [if_pos c13] at H
     have c13b0 : decide (x23_2 < (t637.length : Int)) = true := decide_eq_true c13
     clear c13
     replace H := Option.bind_eq_some_iff.mp H
     obtain ⟨t642, A140, H⟩ := H
     replace H : (if t642 = true then ((impl_Cube_51.f k2 x3_2 ((rd_T63 t637 x23_2).f0) ((rd_T63 t637 x23_2).f1) ((rd_T63 t637 x23_2).f2)).bind fun t643 => (if t643 = true then (impl_connectedCubes.l1 k2 l0 x3_2 x4_1 t637 (t637.length : Int) (wrap64 (x23_2 + 1))) else (if x3_2.length < 5864062014805 then (impl_connectedCubes.l1 k2 l0 (x3_2 ++ [(⟨(rd_T63 t637 x23_2).f0, (rd_T63 t637 x23_2).f1, (rd_T63 t637 x23_2).f2⟩ : S63)]) x4_1 t637 (t637.length : Int) (wrap64 (x23_2 + 1))) else (none)))) else (impl_connectedCubes.l1 k2 l0 x3_2 x4_1 t637 (t637.length : Int) (wrap64 (x23_2 + 1)))) = some r := H
     have A14 := aM A140
     clear A140
     by_cases c15 : t642 = true
     rotate_left
     ·replace c15 := Bool.eq_false_iff.mpr c15
      subst c15
      have H1 : (impl_connectedCubes.l1 k2 l0 x3_2 x4_1 t637 (t637.length : Int) (wrap64 (x23_2 + 1))) = some r := by rw [if_neg (show ¬ (false = true) by decide)] at H; exact H
      clear H
      have H := H1
      clear H1
      have H' := aM H
      clear H
      have p640 : 0 ≤ (x23_2 : Int) := of_decide_eq_true za
      have q640 : x23_2 < (t637.length : Int) := of_decide_eq_true za
      obtain ⟨ad640, e640, hx640_0, hx640_1, hx640_2⟩ := at_T63 (Kd.R_reads' HO_21.out).2.2 x23_2 p640 q640
      cases e640
      replace p640 := eq_true p640
      replace q640 := eq_true q640
      go_wp2_with (first | ((with_reducible refine gate_dst (N := 6) rfl ?_); refine zx 6 #[.int .i64 0, .int .i64 0, .int .i64 0] 63 ?_; intro gb641 hg w33 hbox hb; have n0_ := aM (Kd.R_below (Kd.R_elderB (mR_ HO_3.out) gb641 (Nat.le_of_eq hg.symm)) hb); have n1_ := aM (Kd.R_below (Kd.R_elderB (mR_ HO_21.out) gb641 (Nat.le_of_eq hg.symm)) hb); have n2_ := aM (below_step zb hb); have n3_ := aM (hbox); have n4_ := aM ((ze : w.heap.size ≤ gb641)); have n5_ := aM ((ze : w.heap.size ≤ gb641)); clear HO_3 HO_21 HB; have HO_3 := n0_; have HO_21 := n1_; have HB := n2_; have BK641 := n3_; have GW641 := n4_; have GE641 := n5_; clear n0_ n1_ n2_ n3_ n4_ n5_ hb hbox hg; have hcz34_0 : w33.cell? ⟨gb641, 0, none⟩ = some (.int .i64 0) := (blk_cell BK641.out 0).trans rfl; have hcz34_1 : w33.cell? ⟨gb641, 1, none⟩ = some (.int .i64 0) := (blk_cell BK641.out 1).trans rfl; have hcz34_2 : w33.cell? ⟨gb641, 2, none⟩ = some (.int .i64 0) := (blk_cell BK641.out 2).trans rfl; have hfz34_0 := blk_frozen BK641.out 0; have hfz34_1 := blk_frozen BK641.out 1; have hfz34_2 := blk_frozen BK641.out 2) | ((with_reducible refine gate_callee (f := 51) rfl ?_); refine goesL_ (some 29) rfl rfl Try.func51 (by kernel_rfl) rfl #[.slice (some ad632) l0.length c0, .agg #[.int .i64 ((rd_T63 t637 x23_2).f0), .int .i64 ((rd_T63 t637 x23_2).f1), .int .i64 ((rd_T63 t637 x23_2).f2)]] rfl zm ?_; (with_reducible refine (impl_Cube_51.calls k2 _ _ l0 ((rd_T63 t637 x23_2).f0) ((rd_T63 t637 x23_2).f1) ((rd_T63 t637 x23_2).f2) false _ ?side1 ?side2 A14.out).mono ?_); (case side1 => exact Kd.C_below HR0.out (zs GE641.out)); (case side2 => exact HC0.out); rintro e w35 ⟨rfl, hb⟩; refine ⟨_, rfl, ?_⟩; have n0_ := aM (Kd.R_below (by (with_reducible repeat (first | apply Kd.R_alloc | apply Kd.R_drewN | apply Kd.R_drew)); exact (Kd.R_mono (Kd.R_far (p := ⟨gb641, 2, none⟩) (Kd.R_far (p := ⟨gb641, 1, none⟩) (Kd.R_far (p := ⟨gb641, 0, none⟩) (Kd.R_mono HO_3.out (fun k_ hk => (⟨hk, hk.2⟩ : _ ∧ k_ ≠ gb641))) (fun _ hk => hk.2) (.int .i64 ((rd_T63 t637 x23_2).f0))) (fun _ hk => hk.2) (.int .i64 ((rd_T63 t637 x23_2).f1))) (fun _ hk => hk.2) (.int .i64 ((rd_T63 t637 x23_2).f2))) (fun _ h_ => h_.1))) hb); have n1_ := aM (Kd.R_below (by (with_reducible repeat (first | apply Kd.R_alloc | apply Kd.R_drewN | apply Kd.R_drew)); exact (Kd.R_mono (Kd.R_far (p := ⟨gb641, 2, none⟩) (Kd.R_far (p := ⟨gb641, 1, none⟩) (Kd.R_far (p := ⟨gb641, 0, none⟩) (Kd.R_mono HO_21.out (fun k_ hk => (⟨hk, hk.2⟩ : _ ∧ k_ ≠ gb641))) (fun _ hk => hk.2) (.int .i64 ((rd_T63 t637 x23_2).f0))) (fun _ hk => hk.2) (.int .i64 ((rd_T63 t637 x23_2).f1))) (fun _ hk => hk.2) (.int .i64 ((rd_T63 t637 x23_2).f2))) (fun _ h_ => h_.1))) hb); have n2_ := aM (blk_below (g := gb641) (o := .cells #[.int .i64 ((rd_T63 t637 x23_2).f0), .int .i64 ((rd_T63 t637 x23_2).f1), .int .i64 ((rd_T63 t637 x23_2).f2)] 63 (0, 0)) (by (with_reducible repeat (first | refine blk_drewN ?_ _ | refine blk_drew ?_ | refine blk_alloc ?_ _)); refine blk_put (cs := #[.int .i64 ((rd_T63 t637 x23_2).f0), .int .i64 ((rd_T63 t637 x23_2).f1), .int .i64 0]) ?_ 2 _ rfl; (with_reducible repeat (first | refine blk_drewN ?_ _ | refine blk_drew ?_ | refine blk_alloc ?_ _)); refine blk_put (cs := #[.int .i64 ((rd_T63 t637 x23_2).f0), .int .i64 0, .int .i64 0]) ?_ 1 _ rfl; (with_reducible repeat (first | refine blk_drewN ?_ _ | refine blk_drew ?_ | refine blk_alloc ?_ _)); refine blk_put (cs := #[.int .i64 0, .int .i64 0, .int .i64 0]) ?_ 0 _ rfl; (with_reducible repeat (first | refine blk_drewN ?_ _ | refine blk_drew ?_ | refine blk_alloc ?_ _)); exact BK641.out) hb); have n3_ := aM (below_step (zs GE641.out) hb); clear HO_3 HO_21 BK641 HB; have HO_3 := n0_; have HO_21 := n1_; have BK641 := n2_; have HB := n3_; clear n0_ n1_ n2_ n3_; (try clear hb); (try clear hb2); (try clear hk); (try clear hi)))
      go_roundg k2
      case measure => have := HK1.out; have := HK2.out; omega
      case rel => exact ⟨(x3_2), (wrap64 (x23_2 + 1)), zr, H', ⟨by have := HK1.out; have := HK2.out; omega⟩, ⟨zd6 HO_3.out⟩, ⟨zd6 HO_21.out⟩, ⟨zs GE641.out⟩⟩
     subst c15
     have H1 : ((impl_Cube_51.f k2 x3_2 ((rd_T63 t637 x23_2).f0) ((rd_T63 t637 x23_2).f1) ((rd_T63 t637 x23_2).f2)).bind fun t643 => (if t643 = true then (impl_connectedCubes.l1 k2 l0 x3_2 x4_1 t637 (t637.length : Int) (wrap64 (x23_2 + 1))) else (if x3_2.length < 5864062014805 then (impl_connectedCubes.l1 k2 l0 (x3_2 ++ [(⟨(rd_T63 t637 x23_2).f0, (rd_T63 t637 x23_2).f1, (rd_T63 t637 x23_2).f2⟩ : S63)]) x4_1 t637 (t637.length : Int) (wrap64 (x23_2 + 1))) else (none)))) = some r := by rw [if_pos rfl] at H; exact H
     clear H
     have H := H1
     clear H1
     replace H := Option.bind_eq_some_iff.mp H
     obtain ⟨t643, A160, H⟩ := H
     replace H : (if t643 = true then (impl_connectedCubes.l1 k2 l0 x3_2 x4_1 t637 (t637.length : Int) (wrap64 (x23_2 + 1))) else (if x3_2.length < 5864062014805 then (impl_connectedCubes.l1 k2 l0 (x3_2 ++ [(⟨(rd_T63 t637 x23_2).f0, (rd_T63 t637 x23_2).f1, (rd_T63 t637 x23_2).f2⟩ : S63)]) x4_1 t637 (t637.length : Int) (wrap64 (x23_2 + 1))) else (none))) = some r := H
     have A16 := aM A160
     clear A160
     by_cases c17 : t643 = true
     ·subst c17
      have H1 : (impl_connectedCubes.l1 k2 l0 x3_2 x4_1 t637 (t637.length : Int) (wrap64 (x23_2 + 1))) = some r := by rw [if_pos rfl] at H; exact H
      clear H
      have H := H1
      clear H1
      have H' := aM H
      clear H
      have p640 : 0 ≤ (x23_2 : Int) := of_decide_eq_true za
      have q640 : x23_2 < (t637.length : Int) := of_decide_eq_true za
      obtain ⟨ad640, e640, hx640_0, hx640_1, hx640_2⟩ := at_T63 (Kd.R_reads' HO_21.out).2.2 x23_2 p640 q640
      cases e640
      replace p640 := eq_true p640
      replace q640 := eq_true q640
      go_wp2_with (first | ((with_reducible refine gate_dst (N := 6) rfl ?_); refine zx 6 #[.int .i64 0, .int .i64 0, .int .i64 0] 63 ?_; intro gb641 hg w18 hbox hb; have n0_ := aM (Kd.R_below (Kd.R_elderB (mR_ HO_3.out) gb641 (Nat.le_of_eq hg.symm)) hb); have n1_ := aM (Kd.R_below (Kd.R_elderB (mR_ HO_21.out) gb641 (Nat.le_of_eq hg.symm)) hb); have n2_ := aM (below_step zb hb); have n3_ := aM (hbox); have n4_ := aM ((ze : w.heap.size ≤ gb641)); have n5_ := aM ((ze : w.heap.size ≤ gb641)); clear HO_3 HO_21 HB; have HO_3 := n0_; have HO_21 := n1_; have HB := n2_; have BK641 := n3_; have GW641 := n4_; have GE641 := n5_; clear n0_ n1_ n2_ n3_ n4_ n5_ hb hbox hg; have hcz19_0 : w18.cell? ⟨gb641, 0, none⟩ = some (.int .i64 0) := (blk_cell BK641.out 0).trans rfl; have hcz19_1 : w18.cell? ⟨gb641, 1, none⟩ = some (.int .i64 0) := (blk_cell BK641.out 1).trans rfl; have hcz19_2 : w18.cell? ⟨gb641, 2, none⟩ = some (.int .i64 0) := (blk_cell BK641.out 2).trans rfl; have hfz19_0 := blk_frozen BK641.out 0; have hfz19_1 := blk_frozen BK641.out 1; have hfz19_2 := blk_frozen BK641.out 2) | ((with_reducible refine gate_callee (f := 51) rfl ?_); refine goesL_ (some 29) rfl rfl Try.func51 (by kernel_rfl) rfl #[.slice (some ad632) l0.length c0, .agg #[.int .i64 ((rd_T63 t637 x23_2).f0), .int .i64 ((rd_T63 t637 x23_2).f1), .int .i64 ((rd_T63 t637 x23_2).f2)]] rfl zm ?_; (with_reducible refine (impl_Cube_51.calls k2 _ _ l0 ((rd_T63 t637 x23_2).f0) ((rd_T63 t637 x23_2).f1) ((rd_T63 t637 x23_2).f2) true _ ?side1 ?side2 A14.out).mono ?_); (case side1 => exact Kd.C_below HR0.out (zs GE641.out)); (case side2 => exact HC0.out); rintro e w20 ⟨rfl, hb⟩; refine ⟨_, rfl, ?_⟩; have n0_ := aM (Kd.R_below (by (with_reducible repeat (first | apply Kd.R_alloc | apply Kd.R_drewN | apply Kd.R_drew)); exact (Kd.R_mono (Kd.R_far (p := ⟨gb641, 2, none⟩) (Kd.R_far (p := ⟨gb641, 1, none⟩) (Kd.R_far (p := ⟨gb641, 0, none⟩) (Kd.R_mono HO_3.out (fun k_ hk => (⟨hk, hk.2⟩ : _ ∧ k_ ≠ gb641))) (fun _ hk => hk.2) (.int .i64 ((rd_T63 t637 x23_2).f0))) (fun _ hk => hk.2) (.int .i64 ((rd_T63 t637 x23_2).f1))) (fun _ hk => hk.2) (.int .i64 ((rd_T63 t637 x23_2).f2))) (fun _ h_ => h_.1))) hb); have n1_ := aM (Kd.R_below (by (with_reducible repeat (first | apply Kd.R_alloc | apply Kd.R_drewN | apply Kd.R_drew)); exact (Kd.R_mono (Kd.R_far (p := ⟨gb641, 2, none⟩) (Kd.R_far (p := ⟨gb641, 1, none⟩) (Kd.R_far (p := ⟨gb641, 0, none⟩) (Kd.R_mono HO_21.out (fun k_ hk => (⟨hk, hk.2⟩ : _ ∧ k_ ≠ gb641))) (fun _ hk => hk.2) (.int .i64 ((rd_T63 t637 x23_2).f0))) (fun _ hk => hk.2) (.int .i64 ((rd_T63 t637 x23_2).f1))) (fun _ hk => hk.2) (.int .i64 ((rd_T63 t637 x23_2).f2))) (fun _ h_ => h_.1))) hb); have n2_ := aM (blk_below (g := gb641) (o := .cells #[.int .i64 ((rd_T63 t637 x23_2).f0), .int .i64 ((rd_T63 t637 x23_2).f1), .int .i64 ((rd_T63 t637 x23_2).f2)] 63 (0, 0)) (by (with_reducible repeat (first | refine blk_drewN ?_ _ | refine blk_drew ?_ | refine blk_alloc ?_ _)); refine blk_put (cs := #[.int .i64 ((rd_T63 t637 x23_2).f0), .int .i64 ((rd_T63 t637 x23_2).f1), .int .i64 0]) ?_ 2 _ rfl; (with_reducible repeat (first | refine blk_drewN ?_ _ | refine blk_drew ?_ | refine blk_alloc ?_ _)); refine blk_put (cs := #[.int .i64 ((rd_T63 t637 x23_2).f0), .int .i64 0, .int .i64 0]) ?_ 1 _ rfl; (with_reducible repeat (first | refine blk_drewN ?_ _ | refine blk_drew ?_ | refine blk_alloc ?_ _)); refine blk_put (cs := #[.int .i64 0, .int .i64 0, .int .i64 0]) ?_ 0 _ rfl; (with_reducible repeat (first | refine blk_drewN ?_ _ | refine blk_drew ?_ | refine blk_alloc ?_ _)); exact BK641.out) hb); have n3_ := aM (below_step (zs GE641.out) hb); clear HO_3 HO_21 BK641 HB; have HO_3 := n0_; have HO_21 := n1_; have BK641 := n2_; have HB := n3_; clear n0_ n1_ n2_ n3_; (try clear hb); (try clear hb2); (try clear hk); (try clear hi); have hcz21_0 : w20.cell? ⟨gb641, 0, none⟩ = some (.int .i64 ((rd_T63 t637 x23_2).f0)) := (blk_cell BK641.out 0).trans rfl; have hcz21_1 : w20.cell? ⟨gb641, 1, none⟩ = some (.int .i64 ((rd_T63 t637 x23_2).f1)) := (blk_cell BK641.out 1).trans rfl; have hcz21_2 : w20.cell? ⟨gb641, 2, none⟩ = some (.int .i64 ((rd_T63 t637 x23_2).f2)) := (blk_cell BK641.out 2).trans rfl; have hfz21_0 := blk_frozen BK641.out 0; have hfz21_1 := blk_frozen BK641.out 1; have hfz21_2 := blk_frozen BK641.out 2; obtain ⟨Ao22, co22, eo22⟩ := Kd.R_slice HO_3.out; subst eo22) | (go_at_call 51; (with_reducible refine (impl_Cube_51.calls k2 _ _ x3_2 ((rd_T63 t637 x23_2).f0) ((rd_T63 t637 x23_2).f1) ((rd_T63 t637 x23_2).f2) true _ ?side1 ?side2 A16.out).mono ?_); (case side1 => exact zc HO_3.out); (case side2 => exact (Kd.R_reads' HO_3.out).2.1); rintro e w23 ⟨rfl, hb⟩; have n0_ := aM (Kd.R_below (mR_ HO_3.out) hb); have n1_ := aM (Kd.R_below (mR_ HO_21.out) hb); have n2_ := aM (blk_below (g := gb641) (o := .cells #[.int .i64 ((rd_T63 t637 x23_2).f0), .int .i64 ((rd_T63 t637 x23_2).f1), .int .i64 ((rd_T63 t637 x23_2).f2)] 63 (0, 0)) (mB_ BK641.out) hb); have n3_ := aM (below_step (zs GE641.out) hb); clear HO_3 HO_21 BK641 HB; have HO_3 := n0_; have HO_21 := n1_; have BK641 := n2_; have HB := n3_; clear n0_ n1_ n2_ n3_; (try clear hb); (try clear hb2); (try clear hk); (try clear hi)))
      go_roundg k2
      case measure => have := HK1.out; have := HK2.out; omega
      case rel => exact ⟨(x3_2), (wrap64 (x23_2 + 1)), zr, H', ⟨by have := HK1.out; have := HK2.out; omega⟩, ⟨zd6 HO_3.out⟩, ⟨zd6 HO_21.out⟩, ⟨zs GE641.out⟩⟩
     replace c17 := Bool.eq_false_iff.mpr c17
     subst c17
     have H1 : (if x3_2.length < 5864062014805 then (impl_connectedCubes.l1 k2 l0 (x3_2 ++ [(⟨(rd_T63 t637 x23_2).f0, (rd_T63 t637 x23_2).f1, (rd_T63 t637 x23_2).f2⟩ : S63)]) x4_1 t637 (t637.length : Int) (wrap64 (x23_2 + 1))) else (none)) = some r := by rw [if_neg (show ¬ (false = true) by decide)] at H; exact H
     clear H
     have H := H1
     clear H1
     by_cases c24 : x3_2.length < 5864062014805
     rotate_left
     ·rw [if_neg c24] at H
      exact absurd H (by simp)
     rw [if_pos c24] at H
     have LMc24 := aM c24
     clear c24
     obtain ⟨y644, hy644⟩ : ∃ y_ : List (S63), y_ = (x3_2 ++ [(⟨(rd_T63 t637 x23_2).f0, (rd_T63 t637 x23_2).f1, (rd_T63 t637 x23_2).f2⟩ : S63)]) := ⟨_, rfl⟩
     replace H : (impl_connectedCubes.l1 k2 l0 y644 x4_1 t637 (t637.length : Int) (wrap64 (x23_2 + 1))) = some r := zy H hy644
     have Ny644 := aM hy644
     clear hy644
     have H' := aM H
     clear H
     have p640 : 0 ≤ (x23_2 : Int) := of_decide_eq_true za
     have q640 : x23_2 < (t637.length : Int) := of_decide_eq_true za
     obtain ⟨ad640, e640, hx640_0, hx640_1, hx640_2⟩ := at_T63 (Kd.R_reads' HO_21.out).2.2 x23_2 p640 q640
     cases e640
     replace p640 := eq_true p640
     replace q640 := eq_true q640
     go_wp2_with (first | ((with_reducible refine gate_dst (N := 6) rfl ?_); refine zx 6 #[.int .i64 0, .int .i64 0, .int .i64 0] 63 ?_; intro gb641 hg w25 hbox hb; have n0_ := aM (Kd.R_below (Kd.R_elderB (mR_ HO_3.out) gb641 (Nat.le_of_eq hg.symm)) hb); have n1_ := aM (Kd.R_below (Kd.R_elderB (mR_ HO_21.out) gb641 (Nat.le_of_eq hg.symm)) hb); have n2_ := aM (below_step zb hb); have n3_ := aM (hbox); have n4_ := aM ((ze : w.heap.size ≤ gb641)); have n5_ := aM ((ze : w.heap.size ≤ gb641)); clear HO_3 HO_21 HB; have HO_3 := n0_; have HO_21 := n1_; have HB := n2_; have BK641 := n3_; have GW641 := n4_; have GE641 := n5_; clear n0_ n1_ n2_ n3_ n4_ n5_ hb hbox hg; have hcz26_0 : w25.cell? ⟨gb641, 0, none⟩ = some (.int .i64 0) := (blk_cell BK641.out 0).trans rfl; have hcz26_1 : w25.cell? ⟨gb641, 1, none⟩ = some (.int .i64 0) := (blk_cell BK641.out 1).trans rfl; have hcz26_2 : w25.cell? ⟨gb641, 2, none⟩ = some (.int .i64 0) := (blk_cell BK641.out 2).trans rfl; have hfz26_0 := blk_frozen BK641.out 0; have hfz26_1 := blk_frozen BK641.out 1; have hfz26_2 := blk_frozen BK641.out 2) | ((with_reducible refine gate_callee (f := 51) rfl ?_); refine goesL_ (some 29) rfl rfl Try.func51 (by kernel_rfl) rfl #[.slice (some ad632) l0.length c0, .agg #[.int .i64 ((rd_T63 t637 x23_2).f0), .int .i64 ((rd_T63 t637 x23_2).f1), .int .i64 ((rd_T63 t637 x23_2).f2)]] rfl zm ?_; (with_reducible refine (impl_Cube_51.calls k2 _ _ l0 ((rd_T63 t637 x23_2).f0) ((rd_T63 t637 x23_2).f1) ((rd_T63 t637 x23_2).f2) true _ ?side1 ?side2 A14.out).mono ?_); (case side1 => exact Kd.C_below HR0.out (zs GE641.out)); (case side2 => exact HC0.out); rintro e w27 ⟨rfl, hb⟩; refine ⟨_, rfl, ?_⟩; have n0_ := aM (Kd.R_below (by (with_reducible repeat (first | apply Kd.R_alloc | apply Kd.R_drewN | apply Kd.R_drew)); exact (Kd.R_mono (Kd.R_far (p := ⟨gb641, 2, none⟩) (Kd.R_far (p := ⟨gb641, 1, none⟩) (Kd.R_far (p := ⟨gb641, 0, none⟩) (Kd.R_mono HO_3.out (fun k_ hk => (⟨hk, hk.2⟩ : _ ∧ k_ ≠ gb641))) (fun _ hk => hk.2) (.int .i64 ((rd_T63 t637 x23_2).f0))) (fun _ hk => hk.2) (.int .i64 ((rd_T63 t637 x23_2).f1))) (fun _ hk => hk.2) (.int .i64 ((rd_T63 t637 x23_2).f2))) (fun _ h_ => h_.1))) hb); have n1_ := aM (Kd.R_below (by (with_reducible repeat (first | apply Kd.R_alloc | apply Kd.R_drewN | apply Kd.R_drew)); exact (Kd.R_mono (Kd.R_far (p := ⟨gb641, 2, none⟩) (Kd.R_far (p := ⟨gb641, 1, none⟩) (Kd.R_far (p := ⟨gb641, 0, none⟩) (Kd.R_mono HO_21.out (fun k_ hk => (⟨hk, hk.2⟩ : _ ∧ k_ ≠ gb641))) (fun _ hk => hk.2) (.int .i64 ((rd_T63 t637 x23_2).f0))) (fun _ hk => hk.2) (.int .i64 ((rd_T63 t637 x23_2).f1))) (fun _ hk => hk.2) (.int .i64 ((rd_T63 t637 x23_2).f2))) (fun _ h_ => h_.1))) hb); have n2_ := aM (blk_below (g := gb641) (o := .cells #[.int .i64 ((rd_T63 t637 x23_2).f0), .int .i64 ((rd_T63 t637 x23_2).f1), .int .i64 ((rd_T63 t637 x23_2).f2)] 63 (0, 0)) (by (with_reducible repeat (first | refine blk_drewN ?_ _ | refine blk_drew ?_ | refine blk_alloc ?_ _)); refine blk_put (cs := #[.int .i64 ((rd_T63 t637 x23_2).f0), .int .i64 ((rd_T63 t637 x23_2).f1), .int .i64 0]) ?_ 2 _ rfl; (with_reducible repeat (first | refine blk_drewN ?_ _ | refine blk_drew ?_ | refine blk_alloc ?_ _)); refine blk_put (cs := #[.int .i64 ((rd_T63 t637 x23_2).f0), .int .i64 0, .int .i64 0]) ?_ 1 _ rfl; (with_reducible repeat (first | refine blk_drewN ?_ _ | refine blk_drew ?_ | refine blk_alloc ?_ _)); refine blk_put (cs := #[.int .i64 0, .int .i64 0, .int .i64 0]) ?_ 0 _ rfl; (with_reducible repeat (first | refine blk_drewN ?_ _ | refine blk_drew ?_ | refine blk_alloc ?_ _)); exact BK641.out) hb); have n3_ := aM (below_step (zs GE641.out) hb); clear HO_3 HO_21 BK641 HB; have HO_3 := n0_; have HO_21 := n1_; have BK641 := n2_; have HB := n3_; clear n0_ n1_ n2_ n3_; (try clear hb); (try clear hb2); (try clear hk); (try clear hi); have hcz28_0 : w27.cell? ⟨gb641, 0, none⟩ = some (.int .i64 ((rd_T63 t637 x23_2).f0)) := (blk_cell BK641.out 0).trans rfl; have hcz28_1 : w27.cell? ⟨gb641, 1, none⟩ = some (.int .i64 ((rd_T63 t637 x23_2).f1)) := (blk_cell BK641.out 1).trans rfl; have hcz28_2 : w27.cell? ⟨gb641, 2, none⟩ = some (.int .i64 ((rd_T63 t637 x23_2).f2)) := (blk_cell BK641.out 2).trans rfl; have hfz28_0 := blk_frozen BK641.out 0; have hfz28_1 := blk_frozen BK641.out 1; have hfz28_2 := blk_frozen BK641.out 2; obtain ⟨Ao29, co29, eo29⟩ := Kd.R_slice HO_3.out; subst eo29) | (go_at_call 51; (with_reducible refine (impl_Cube_51.calls k2 _ _ x3_2 ((rd_T63 t637 x23_2).f0) ((rd_T63 t637 x23_2).f1) ((rd_T63 t637 x23_2).f2) false _ ?side1 ?side2 A16.out).mono ?_); (case side1 => exact zc HO_3.out); (case side2 => exact (Kd.R_reads' HO_3.out).2.1); rintro e w30 ⟨rfl, hb⟩; have n0_ := aM (Kd.R_below (mR_ HO_3.out) hb); have n1_ := aM (Kd.R_below (mR_ HO_21.out) hb); have n2_ := aM (blk_below (g := gb641) (o := .cells #[.int .i64 ((rd_T63 t637 x23_2).f0), .int .i64 ((rd_T63 t637 x23_2).f1), .int .i64 ((rd_T63 t637 x23_2).f2)] 63 (0, 0)) (mB_ BK641.out) hb); have n3_ := aM (below_step (zs GE641.out) hb); clear HO_3 HO_21 BK641 HB; have HO_3 := n0_; have HO_21 := n1_; have BK641 := n2_; have HB := n3_; clear n0_ n1_ n2_ n3_; (try clear hb); (try clear hb2); (try clear hk); (try clear hi); have hcz31_0 : w30.cell? ⟨gb641, 0, none⟩ = some (.int .i64 ((rd_T63 t637 x23_2).f0)) := (blk_cell BK641.out 0).trans rfl; have hcz31_1 : w30.cell? ⟨gb641, 1, none⟩ = some (.int .i64 ((rd_T63 t637 x23_2).f1)) := (blk_cell BK641.out 1).trans rfl; have hcz31_2 : w30.cell? ⟨gb641, 2, none⟩ = some (.int .i64 ((rd_T63 t637 x23_2).f2)) := (blk_cell BK641.out 2).trans rfl; have hfz31_0 := blk_frozen BK641.out 0; have hfz31_1 := blk_frozen BK641.out 1; have hfz31_2 := blk_frozen BK641.out 2) | ((with_reducible refine gate_builtin (b := .append) (xs := #[.tmp 36, .tmp 38]) rfl ?_); at_builtin; refine Kd.R_append k63 (w0 := w) w.heap.size rfl (.tmp 36) (.tmp 38) 34 63 (.agg #[(.int .i64 0), (.int .i64 0), (.int .i64 0)]) 24 rfl Try.underlying34 info63 rfl (by decide) (by omega) (.slice Ao29 x3_2.length co29) x3_2 (⟨(rd_T63 t637 x23_2).f0, (rd_T63 t637 x23_2).f1, (rd_T63 t637 x23_2).f2⟩ : S63) [.int .i64 ((rd_T63 t637 x23_2).f0), .int .i64 ((rd_T63 t637 x23_2).f1), .int .i64 ((rd_T63 t637 x23_2).f2)] (fun k_ => some k_ ≠ (.slice (some ad640) t637.length co10 : Value).ownBlock ∧ k_ ≠ gb641) (fun _ => False) rfl rfl ?aP (fun _ hk => hk.elim) ?aF ?aO ?aB ?aS ?aL ?_; (case aP => exact k63_mkM _ _ _ (⟨(rd_T63 t637 x23_2).f0, (rd_T63 t637 x23_2).f1, (rd_T63 t637 x23_2).f2⟩ : S63)); (case aB => exact (zs GE641.out)); (case aF => exact (fun k_ hk => ⟨Kd.fresh' (Kd.R_lt (mR_ HO_21.out)) k_ hk, Kd.freshB (g := gb641) (o := .cells #[.int .i64 ((rd_T63 t637 x23_2).f0), .int .i64 ((rd_T63 t637 x23_2).f1), .int .i64 ((rd_T63 t637 x23_2).f2)] 63 (0, 0)) (mB_ BK641.out) k_ hk⟩)); (case aO => exact (mR_ HO_3.out)); (case aS => exact (below_size (zs GE641.out))); (case aL => have := LMc24.out; omega); intro v645 w32 ho hb hg hat; rw [← Ny644.out] at ho; have n0_ := aM (Kd.R_after (ok := (fun k_ => k_ ≠ gb641)) (zd2 HO_21.out) hg hat); have n1_ := aM (blk_grown (g := gb641) (o := .cells #[.int .i64 ((rd_T63 t637 x23_2).f0), .int .i64 ((rd_T63 t637 x23_2).f1), .int .i64 ((rd_T63 t637 x23_2).f2)] 63 (0, 0)) (mB_ BK641.out) hg (Kd.R_away HO_3.out (fun _ hk => hk.2))); have n2_ := aM (hb); have n3_ := aM (ho); clear HO_21 BK641 HB HO_3; have HO_21 := n0_; have BK641 := n1_; have HB := n2_; have HO646 := n3_; clear n0_ n1_ n2_ n3_; clear ho hb hg hat))
     go_roundg k2
     case measure => have := HK1.out; have := HK2.out; omega
     case rel => exact ⟨(y644), (wrap64 (x23_2 + 1)), zr, H', ⟨by have := HK1.out; have := HK2.out; omega⟩, ⟨zd6 HO646.out⟩, ⟨zd0 HO_21.out⟩, ⟨zs GE641.out⟩⟩
def impl_IsSolid.f (k : Nat) (l0 : List (S63)) : Option (Bool × Bool) := (impl_isSolid.f k l0).bind fun t647 => (if t647 = true then ((impl_connectedCubes.f k l0).bind fun t648 => (some (true, t648))) else (some (false, false)))
theorem impl_IsSolid.calls (k : Nat) (A0 : Option Addr) (c0 : Nat) (l0 : List (S63)) (r1 : Bool) (r2 : Bool) (w : World) (hr0 : Kd.C k63 w A0 l0.length l0) (hc0 : l0.length ≤ c0) (h : impl_IsSolid.f k l0 = some (r1, r2)) :
  Calls Try.prog 22 #[.slice A0 l0.length c0] w fun e w' => e = .returned (.tuple #[.bool r1, .bool r2]) ∧ Below w.heap.size w w' := by
 have HR0 := aM hr0
 have HC0 := aM hc0
 clear hr0 hc0
 have HB := aM (Below.refl w.heap.size w)
 have H : ((impl_isSolid.f k l0).bind fun t647 => (if t647 = true then ((impl_connectedCubes.f k l0).bind fun t648 => (some (true, t648))) else (some (false, false)))) = some (r1, r2) := h
 clear h
 replace H := Option.bind_eq_some_iff.mp H
 obtain ⟨t647, A20, H⟩ := H
 replace H : (if t647 = true then ((impl_connectedCubes.f k l0).bind fun t648 => (some (true, t648))) else (some (false, false))) = some (r1, r2) := H
 have A2 := aM A20
 clear A20
 by_cases c3 : t647 = true
 rotate_left
 ·replace c3 := Bool.eq_false_iff.mpr c3
  subst c3
  have H1 : (some (false, false)) = some (r1, r2) := by rw [if_neg (show ¬ (false = true) by decide)] at H; exact H
  clear H
  have H := H1
  clear H1
  simp only [Option.some.injEq, Prod.mk.injEq] at H
  obtain ⟨rfl, rfl⟩ := H
  go_enter Try.func22, Try.ntmps22
  go_wp2_with (first | ((with_reducible refine gate_callee (f := 39) rfl ?_); refine goesL_ (some 5) rfl rfl Try.func39 (by kernel_rfl) rfl #[.slice A0 l0.length c0] rfl zm ?_; (with_reducible refine (impl_isSolid.calls k _ _ l0 false _ ?side1 ?side2 A2.out).mono ?_); (case side1 => repeat (first | exact HR0.out | (with_reducible refine Kd.C_alloc ?_ _) | (with_reducible refine Kd.C_drewN ?_ _) | (with_reducible refine Kd.C_drew ?_))); (case side2 => exact HC0.out); rintro e w7 ⟨rfl, hb⟩; refine ⟨_, rfl, ?_⟩; have n0_ := aM (below_step zb hb); clear HB; have HB := n0_; clear n0_; (try clear hb); (try clear hb2); (try clear hk); (try clear hi)))
  go_ret2
  exact ⟨zw, zb⟩
 subst c3
 have H1 : ((impl_connectedCubes.f k l0).bind fun t648 => (some (true, t648))) = some (r1, r2) := by rw [if_pos rfl] at H; exact H
 clear H
 have H := H1
 clear H1
 replace H := Option.bind_eq_some_iff.mp H
 obtain ⟨t648, A40, H⟩ := H
 replace H : (some (true, t648)) = some (r1, r2) := H
 have A4 := aM A40
 clear A40
 simp only [Option.some.injEq, Prod.mk.injEq] at H
 obtain ⟨rfl, rfl⟩ := H
 go_enter Try.func22, Try.ntmps22
 go_wp2_with (first | ((with_reducible refine gate_callee (f := 39) rfl ?_); refine goesL_ (some 5) rfl rfl Try.func39 (by kernel_rfl) rfl #[.slice A0 l0.length c0] rfl zm ?_; (with_reducible refine (impl_isSolid.calls k _ _ l0 true _ ?side1 ?side2 A2.out).mono ?_); (case side1 => repeat (first | exact HR0.out | (with_reducible refine Kd.C_alloc ?_ _) | (with_reducible refine Kd.C_drewN ?_ _) | (with_reducible refine Kd.C_drew ?_))); (case side2 => exact HC0.out); rintro e w5 ⟨rfl, hb⟩; refine ⟨_, rfl, ?_⟩; have n0_ := aM (below_step zb hb); clear HB; have HB := n0_; clear n0_; (try clear hb); (try clear hb2); (try clear hk); (try clear hi)) | ((with_reducible refine gate_callee (f := 47) rfl ?_); refine goesL_ (some 8) rfl rfl Try.func47 (by kernel_rfl) rfl #[.slice A0 l0.length c0] rfl zm ?_; (with_reducible refine (impl_connectedCubes.calls k _ _ l0 t648 _ ?side1 ?side2 A4.out).mono ?_); (case side1 => repeat (first | exact (Kd.C_below HR0.out HB.out) | (with_reducible refine Kd.C_alloc ?_ _) | (with_reducible refine Kd.C_drewN ?_ _) | (with_reducible refine Kd.C_drew ?_))); (case side2 => exact HC0.out); rintro e w6 ⟨rfl, hb⟩; refine ⟨_, rfl, ?_⟩; have n0_ := aM (below_step zb hb); clear HB; have HB := n0_; clear n0_; (try clear hb); (try clear hb2); (try clear hk); (try clear hi)))
 go_ret2
 exact ⟨zw, zb⟩
end Go.Proofs.Ytonldmalaajkgaa.F
end
section
namespace Go.Proofs.Ytonldmalaajkgaa.F
open Go.RowKit Go.Proofs.YtonldmalaajkgaaW.PrintWords Go.Proofs.YtonldmalaajkgaaW.PrintLast Go.Proofs.YtonldmalaajkgaaW.PrintMore
attribute [local go_sem] max2_int min2_int max_two min_two max_three min_three max_four min_four
set_option linter.unusedVariables false
set_option linter.unusedSimpArgs false
mutual
def spec_l09Connected.l0 : Nat → List (S63) → List (S63) → Int → Option (Bool)
 | 0, _, _, _ => none
 | k + 1, x0, x3, x4 => if x4 < (x3.length : Int) then (spec_l09Connected.l1 k x0 x3 x4 0) else (some ((x3.length : Int) == (x0.length : Int)))
def spec_l09Connected.l1 : Nat → List (S63) → List (S63) → Int → Int → Option (Bool)
 | 0, _, _, _, _ => none
 | k + 1, x0, x3, x4, x5 => if x5 < 6 then (if 0 ≤ x4 then (if x4 < (x3.length : Int) then ((spec_l09Steps.f).bind fun t654 => (if 0 ≤ x5 then (if x5 < (t654.length : Int) then ((spec_l09Add.f ((rd_T63 x3 x4).f0) ((rd_T63 x3 x4).f1) ((rd_T63 x3 x4).f2) ((rd_T63 t654 x5).f0) ((rd_T63 t654 x5).f1) ((rd_T63 t654 x5).f2)).bind fun bt658 => ((spec_l09Index.f k x0 bt658.1 bt658.2.1 bt658.2.2).bind fun t662 => (if t662 ≥ 0 then ((spec_l09Index.f k x3 bt658.1 bt658.2.1 bt658.2.2).bind fun t663 => (if t663 < 0 then (if x3.length < 5864062014805 then (spec_l09Connected.l1 k x0 (x3 ++ [(⟨bt658.1, bt658.2.1, bt658.2.2⟩ : S63)]) x4 (wrap64 (x5 + 1))) else (none)) else (spec_l09Connected.l1 k x0 x3 x4 (wrap64 (x5 + 1))))) else (spec_l09Connected.l1 k x0 x3 x4 (wrap64 (x5 + 1)))))) else (none)) else (none))) else (none)) else (none)) else (spec_l09Connected.l0 k x0 x3 (wrap64 (x4 + 1)))
end
def spec_l09Connected.f (k : Nat) (l0 : List (S63)) : Option (Bool) := if 0 < (l0.length : Int) then (spec_l09Connected.l0 k l0 (([(⟨(rd_T63 l0 0).f0, (rd_T63 l0 0).f1, (rd_T63 l0 0).f2⟩ : S63)] : List (S63))) 0) else (none)
def spec_l09Connected.T8 : Bool × List (List Nat × List Nat) := (true, [([], []), ([], []), ([0, 1], [0, 1]), ([2], [2]), ([], []), ([], []), ([4, 5], [4, 5]), ([6], [6]), ([3, 7, 4], [3, 7]), ([], []), ([9, 8, 8, 0, 1, 2, 3, 4, 5, 6, 7, 8, 9], [8, 9])])
def spec_l09Connected.B8 : List Nat := [0, 0, 3, 7, 0, 0, 48, 112, 255, 0, 1023]
theorem spec_l09Connected.tab8 : rtab .any (opsOf Try.f49 8) = spec_l09Connected.T8 := by kernel_rfl
theorem spec_l09Connected.bits8 : waitsOk spec_l09Connected.T8.2 spec_l09Connected.B8 = true := by kernel_rfl
end Go.Proofs.Ytonldmalaajkgaa.F
end
