/- The row of FnExactFillHoles, with what it needs: text 4 of 10. -/
import Derived.Test.YtaecheolnpofeaaI2
set_option maxHeartbeats 8000000
set_option maxRecDepth 100000
section
namespace Go.Proofs.Ytaecheolnpofeaa.F
open Go.RowKit Go.Proofs.YtaecheolnpofeaaW.PrintWords Go.Proofs.YtaecheolnpofeaaW.PrintLast Go.Proofs.YtaecheolnpofeaaW.PrintMore
attribute [local go_sem] max2_int min2_int max_two min_two max_three min_three max_four min_four
set_option linter.unusedVariables false
set_option linter.unusedSimpArgs false
theorem spec_l01In.calls (a0 : Int) (a1 : Int) (a2 : Int) (r : Bool) (w : World) (h : spec_l01In.f a0 a1 a2 = some r) :
  Calls Try.prog 54 #[.int .i64 a0, .int .i64 a1, .int .i64 a2] w fun e w' => e = .returned (.bool r) ∧ Drawn0 w w' := by
 have H : (if a0 ≥ a1 then (some (decide (a0 ≤ a2))) else (some false)) = some r := h
 clear h
 by_cases c4 : a0 ≥ a1
 ·rw [if_pos c4] at H
  have c4b0 : decide (a1 ≤ a0) = true := decide_eq_true c4
  clear c4
  obtain rfl := Option.some.inj H
  go_enter Try.func54, Try.ntmps54
  go_wp2
  go_ret
  exact ⟨by first | rfl | (simp; done) | (simp [*]; done), by repeat (first | exact Drawn0.refl _ | apply Drawn0.step)⟩
 rw [if_neg c4] at H
 have c4b0 : decide (a1 ≤ a0) = false := decide_eq_false c4
 clear c4
 obtain rfl := Option.some.inj H
 go_enter Try.func54, Try.ntmps54
 go_wp2
 go_ret
 exact ⟨by first | rfl | (simp; done) | (simp [*]; done), by repeat (first | exact Drawn0.refl _ | apply Drawn0.step)⟩
def spec_l02Cell.f (a0_0 : Int) (a0_1 : Int) : Option (Bool) := (spec_l01In.f a0_0 (-100) 100).bind fun t102 => (if t102 = true then ((spec_l01In.f a0_1 (-100) 100).bind fun t103 => (some t103)) else (some false))
theorem spec_l02Cell.calls (a0_0 : Int) (a0_1 : Int) (r : Bool) (w : World) (h : spec_l02Cell.f a0_0 a0_1 = some r) :
  Calls Try.prog 52 #[.agg #[.int .i64 a0_0, .int .i64 a0_1]] w fun e w' => e = .returned (.bool r) ∧ Below w.heap.size w w' := by
 have hu44 := Try.underlying44
 have HB := aM (Below.refl w.heap.size w)
 have H : ((spec_l01In.f a0_0 (-100) 100).bind fun t102 => (if t102 = true then ((spec_l01In.f a0_1 (-100) 100).bind fun t103 => (some t103)) else (some false))) = some r := h
 clear h
 replace H := Option.bind_eq_some_iff.mp H
 obtain ⟨t102, A20, H⟩ := H
 replace H : (if t102 = true then ((spec_l01In.f a0_1 (-100) 100).bind fun t103 => (some t103)) else (some false)) = some r := H
 have A2 := aM A20
 clear A20
 by_cases c3 : t102 = true
 rotate_left
 ·replace c3 := Bool.eq_false_iff.mpr c3
  subst c3
  have H1 : (some false) = some r := by rw [if_neg (show ¬ (false = true) by decide)] at H; exact H
  clear H
  have H := H1
  clear H1
  obtain rfl := Option.some.inj H
  go_enter Try.func52, Try.ntmps52
  go_wp2_with (first | ((with_reducible refine gate_dst (N := 1) rfl ?_); refine zx 1 #[.int .i64 a0_0, .int .i64 a0_1] 44 ?_; intro gb101 hg w7 hbox hb; have n0_ := aM (below_step zb hb); have n1_ := aM (hbox); have n2_ := aM ((ze : w.heap.size ≤ gb101)); have n3_ := aM ((ze : w.heap.size ≤ gb101)); clear HB; have HB := n0_; have BK101 := n1_; have GW101 := n2_; have GE101 := n3_; clear n0_ n1_ n2_ n3_ hb hbox hg; have hcz8_0 : w7.cell? ⟨gb101, 0, none⟩ = some (.int .i64 a0_0) := (blk_cell BK101.out 0).trans rfl; have hcz8_1 : w7.cell? ⟨gb101, 1, none⟩ = some (.int .i64 a0_1) := (blk_cell BK101.out 1).trans rfl; have hfz8_0 := blk_frozen BK101.out 0; have hfz8_1 := blk_frozen BK101.out 1) | ((with_reducible refine gate_callee (f := 54) rfl ?_); refine goesL_ (some 5) rfl rfl Try.func54 (by kernel_rfl) rfl #[.int .i64 a0_0, .int .i64 (-100), .int .i64 100] rfl zm ?_; (with_reducible refine (spec_l01In.calls a0_0 (-100) 100 false _ A2.out).mono ?_); rintro e w' ⟨rfl, ⟨nd, rfl⟩⟩; refine ⟨_, rfl, ?_⟩))
  go_ret
  exact ⟨zw, zs GE101.out⟩
 subst c3
 have H1 : ((spec_l01In.f a0_1 (-100) 100).bind fun t103 => (some t103)) = some r := by rw [if_pos rfl] at H; exact H
 clear H
 have H := H1
 clear H1
 replace H := Option.bind_eq_some_iff.mp H
 obtain ⟨t103, A40, H⟩ := H
 replace H : (some t103) = some r := H
 have A4 := aM A40
 clear A40
 obtain rfl := Option.some.inj H
 go_enter Try.func52, Try.ntmps52
 go_wp2_with (first | ((with_reducible refine gate_dst (N := 1) rfl ?_); refine zx 1 #[.int .i64 a0_0, .int .i64 a0_1] 44 ?_; intro gb101 hg w5 hbox hb; have n0_ := aM (below_step zb hb); have n1_ := aM (hbox); have n2_ := aM ((ze : w.heap.size ≤ gb101)); have n3_ := aM ((ze : w.heap.size ≤ gb101)); clear HB; have HB := n0_; have BK101 := n1_; have GW101 := n2_; have GE101 := n3_; clear n0_ n1_ n2_ n3_ hb hbox hg; have hcz6_0 : w5.cell? ⟨gb101, 0, none⟩ = some (.int .i64 a0_0) := (blk_cell BK101.out 0).trans rfl; have hcz6_1 : w5.cell? ⟨gb101, 1, none⟩ = some (.int .i64 a0_1) := (blk_cell BK101.out 1).trans rfl; have hfz6_0 := blk_frozen BK101.out 0; have hfz6_1 := blk_frozen BK101.out 1) | ((with_reducible refine gate_callee (f := 54) rfl ?_); refine goesL_ (some 5) rfl rfl Try.func54 (by kernel_rfl) rfl #[.int .i64 a0_0, .int .i64 (-100), .int .i64 100] rfl zm ?_; (with_reducible refine (spec_l01In.calls a0_0 (-100) 100 true _ A2.out).mono ?_); rintro e w' ⟨rfl, ⟨nd, rfl⟩⟩; refine ⟨_, rfl, ?_⟩) | (go_at_call 54; (with_reducible refine (spec_l01In.calls a0_1 (-100) 100 t103 _ A4.out).mono ?_); rintro e w' ⟨rfl, ⟨nd, rfl⟩⟩))
 go_ret
 exact ⟨zw, zs GE101.out⟩
def spec_l02Less.f (a0_0 : Int) (a0_1 : Int) (a1_0 : Int) (a1_1 : Int) : Option (Bool) := if a0_1 < a1_1 then (some true) else (if a0_1 = a1_1 then (some (decide (a0_0 < a1_0))) else (some false))
theorem spec_l02Less.calls (a0_0 : Int) (a0_1 : Int) (a1_0 : Int) (a1_1 : Int) (r : Bool) (w : World) (h : spec_l02Less.f a0_0 a0_1 a1_0 a1_1 = some r) :
  Calls Try.prog 53 #[.agg #[.int .i64 a0_0, .int .i64 a0_1], .agg #[.int .i64 a1_0, .int .i64 a1_1]] w fun e w' => e = .returned (.bool r) ∧ Below w.heap.size w w' := by
 have hu44 := Try.underlying44
 have HB := aM (Below.refl w.heap.size w)
 have H : (if a0_1 < a1_1 then (some true) else (if a0_1 = a1_1 then (some (decide (a0_0 < a1_0))) else (some false))) = some r := h
 clear h
 by_cases c3 : a0_1 < a1_1
 ·rw [if_pos c3] at H
  have c3b0 : decide (a0_1 < a1_1) = true := decide_eq_true c3
  clear c3
  obtain rfl := Option.some.inj H
  go_enter Try.func53, Try.ntmps53
  go_wp2_with (first | ((with_reducible refine gate_dst (N := 2) rfl ?_); refine zx 2 #[.int .i64 a0_0, .int .i64 a0_1] 44 ?_; intro gb104 hg w4 hbox hb; have n0_ := aM (below_step zb hb); have n1_ := aM (hbox); have n2_ := aM ((ze : w.heap.size ≤ gb104)); have n3_ := aM ((ze : w.heap.size ≤ gb104)); clear HB; have HB := n0_; have BK104 := n1_; have GW104 := n2_; have GE104 := n3_; clear n0_ n1_ n2_ n3_; clear hb hbox hg) | ((with_reducible refine gate_dst (N := 3) rfl ?_); refine zx 3 #[.int .i64 a1_0, .int .i64 a1_1] 44 ?_; intro gb105 hg w5 hbox hb; have n0_ := aM (blk_below (g := gb104) (o := .cells #[.int .i64 a0_0, .int .i64 a0_1] 44 (0, 0)) (mB_ BK104.out) hb); have n1_ := aM (below_step (zs GE104.out) hb); have n2_ := aM (hbox); have n3_ := aM ((zf GE104.out : w.heap.size ≤ gb105)); have n4_ := aM ((zf GE104.out : w.heap.size ≤ gb105)); have n5_ := aM ((zl BK104.out : gb104 ≠ gb105)); have n6_ := aM ((zn BK104.out : gb105 ≠ gb104)); clear BK104 HB; have BK104 := n0_; have HB := n1_; have BK105 := n2_; have GW105 := n3_; have GE105 := n4_; have NB104_105 := n5_; have NB105_104 := n6_; clear n0_ n1_ n2_ n3_ n4_ n5_ n6_ hb hbox hg; have hnb6 := NB104_105.out; have hnc6 := NB105_104.out; have hcz7_0 : w5.cell? ⟨gb104, 0, none⟩ = some (.int .i64 a0_0) := (blk_cell BK104.out 0).trans rfl; have hcz7_1 : w5.cell? ⟨gb104, 1, none⟩ = some (.int .i64 a0_1) := (blk_cell BK104.out 1).trans rfl; have hfz7_0 := blk_frozen BK104.out 0; have hfz7_1 := blk_frozen BK104.out 1; have hcz8_0 : w5.cell? ⟨gb105, 0, none⟩ = some (.int .i64 a1_0) := (blk_cell BK105.out 0).trans rfl; have hcz8_1 : w5.cell? ⟨gb105, 1, none⟩ = some (.int .i64 a1_1) := (blk_cell BK105.out 1).trans rfl; have hfz8_0 := blk_frozen BK105.out 0; have hfz8_1 := blk_frozen BK105.out 1))
  go_ret
  exact ⟨zw, zt GE104.out GE105.out⟩
 rw [if_neg c3] at H
 have c3b0 : decide (a0_1 < a1_1) = false := decide_eq_false c3
 clear c3
 by_cases c9 : a0_1 = a1_1
 rotate_left
 ·rw [if_neg c9] at H
  have c9b0 : (a0_1 == a1_1) = false := beq_eq_false_iff_ne.mpr c9
  have c9b1 : (a0_1 != a1_1) = true := bne_iff_ne.mpr c9
  obtain rfl := Option.some.inj H
  go_enter Try.func53, Try.ntmps53
  go_wp2_with (first | ((with_reducible refine gate_dst (N := 2) rfl ?_); refine zx 2 #[.int .i64 a0_0, .int .i64 a0_1] 44 ?_; intro gb104 hg w15 hbox hb; have n0_ := aM (below_step zb hb); have n1_ := aM (hbox); have n2_ := aM ((ze : w.heap.size ≤ gb104)); have n3_ := aM ((ze : w.heap.size ≤ gb104)); clear HB; have HB := n0_; have BK104 := n1_; have GW104 := n2_; have GE104 := n3_; clear n0_ n1_ n2_ n3_; clear hb hbox hg) | ((with_reducible refine gate_dst (N := 3) rfl ?_); refine zx 3 #[.int .i64 a1_0, .int .i64 a1_1] 44 ?_; intro gb105 hg w16 hbox hb; have n0_ := aM (blk_below (g := gb104) (o := .cells #[.int .i64 a0_0, .int .i64 a0_1] 44 (0, 0)) (mB_ BK104.out) hb); have n1_ := aM (below_step (zs GE104.out) hb); have n2_ := aM (hbox); have n3_ := aM ((zf GE104.out : w.heap.size ≤ gb105)); have n4_ := aM ((zf GE104.out : w.heap.size ≤ gb105)); have n5_ := aM ((zl BK104.out : gb104 ≠ gb105)); have n6_ := aM ((zn BK104.out : gb105 ≠ gb104)); clear BK104 HB; have BK104 := n0_; have HB := n1_; have BK105 := n2_; have GW105 := n3_; have GE105 := n4_; have NB104_105 := n5_; have NB105_104 := n6_; clear n0_ n1_ n2_ n3_ n4_ n5_ n6_ hb hbox hg; have hnb17 := NB104_105.out; have hnc17 := NB105_104.out; have hcz18_0 : w16.cell? ⟨gb104, 0, none⟩ = some (.int .i64 a0_0) := (blk_cell BK104.out 0).trans rfl; have hcz18_1 : w16.cell? ⟨gb104, 1, none⟩ = some (.int .i64 a0_1) := (blk_cell BK104.out 1).trans rfl; have hfz18_0 := blk_frozen BK104.out 0; have hfz18_1 := blk_frozen BK104.out 1; have hcz19_0 : w16.cell? ⟨gb105, 0, none⟩ = some (.int .i64 a1_0) := (blk_cell BK105.out 0).trans rfl; have hcz19_1 : w16.cell? ⟨gb105, 1, none⟩ = some (.int .i64 a1_1) := (blk_cell BK105.out 1).trans rfl; have hfz19_0 := blk_frozen BK105.out 0; have hfz19_1 := blk_frozen BK105.out 1))
  go_ret
  exact ⟨zw, zt GE104.out GE105.out⟩
 rw [if_pos c9] at H
 have c9b0 : (a0_1 == a1_1) = true := beq_iff_eq.mpr c9
 have c9b1 : (a0_1 != a1_1) = false := bne_eq_false_iff_eq.mpr c9
 clear c9
 obtain rfl := Option.some.inj H
 go_enter Try.func53, Try.ntmps53
 go_wp2_with (first | ((with_reducible refine gate_dst (N := 2) rfl ?_); refine zx 2 #[.int .i64 a0_0, .int .i64 a0_1] 44 ?_; intro gb104 hg w10 hbox hb; have n0_ := aM (below_step zb hb); have n1_ := aM (hbox); have n2_ := aM ((ze : w.heap.size ≤ gb104)); have n3_ := aM ((ze : w.heap.size ≤ gb104)); clear HB; have HB := n0_; have BK104 := n1_; have GW104 := n2_; have GE104 := n3_; clear n0_ n1_ n2_ n3_; clear hb hbox hg) | ((with_reducible refine gate_dst (N := 3) rfl ?_); refine zx 3 #[.int .i64 a1_0, .int .i64 a1_1] 44 ?_; intro gb105 hg w11 hbox hb; have n0_ := aM (blk_below (g := gb104) (o := .cells #[.int .i64 a0_0, .int .i64 a0_1] 44 (0, 0)) (mB_ BK104.out) hb); have n1_ := aM (below_step (zs GE104.out) hb); have n2_ := aM (hbox); have n3_ := aM ((zf GE104.out : w.heap.size ≤ gb105)); have n4_ := aM ((zf GE104.out : w.heap.size ≤ gb105)); have n5_ := aM ((zl BK104.out : gb104 ≠ gb105)); have n6_ := aM ((zn BK104.out : gb105 ≠ gb104)); clear BK104 HB; have BK104 := n0_; have HB := n1_; have BK105 := n2_; have GW105 := n3_; have GE105 := n4_; have NB104_105 := n5_; have NB105_104 := n6_; clear n0_ n1_ n2_ n3_ n4_ n5_ n6_ hb hbox hg; have hnb12 := NB104_105.out; have hnc12 := NB105_104.out; have hcz13_0 : w11.cell? ⟨gb104, 0, none⟩ = some (.int .i64 a0_0) := (blk_cell BK104.out 0).trans rfl; have hcz13_1 : w11.cell? ⟨gb104, 1, none⟩ = some (.int .i64 a0_1) := (blk_cell BK104.out 1).trans rfl; have hfz13_0 := blk_frozen BK104.out 0; have hfz13_1 := blk_frozen BK104.out 1; have hcz14_0 : w11.cell? ⟨gb105, 0, none⟩ = some (.int .i64 a1_0) := (blk_cell BK105.out 0).trans rfl; have hcz14_1 : w11.cell? ⟨gb105, 1, none⟩ = some (.int .i64 a1_1) := (blk_cell BK105.out 1).trans rfl; have hfz14_0 := blk_frozen BK105.out 0; have hfz14_1 := blk_frozen BK105.out 1))
 go_ret
 exact ⟨zw, zt GE104.out GE105.out⟩
def spec_l02Insert.l0 : Nat → List (S44) → List (S44) → Bool → Int → Int → Int → Option ((List (S44)))
 | 0, _, _, _, _, _, _ => none
 | k + 1, x0, x5, x6, x7, x189000, x189001 => if x7 < (x0.length : Int) then (if x6 = true then (if 0 ≤ x7 then (if x5.length < 8796093022208 then (spec_l02Insert.l0 k x0 (x5 ++ [(⟨(rd_T44 x0 x7).f0, (rd_T44 x0 x7).f1⟩ : S44)]) x6 (wrap64 (x7 + 1)) x189000 x189001) else (none)) else (none)) else (if 0 ≤ x7 then ((spec_l02Less.f x189000 x189001 ((rd_T44 x0 x7).f0) ((rd_T44 x0 x7).f1)).bind fun t197 => (if t197 = true then (if x5.length < 8796093022208 then ((some (x5 ++ [(⟨x189000, x189001⟩ : S44)] : List (S44))).bind fun y198 => (if y198.length < 8796093022208 then (spec_l02Insert.l0 k x0 (y198 ++ [(⟨(rd_T44 x0 x7).f0, (rd_T44 x0 x7).f1⟩ : S44)]) true (wrap64 (x7 + 1)) x189000 x189001) else (none))) else (none)) else (if x5.length < 8796093022208 then (spec_l02Insert.l0 k x0 (x5 ++ [(⟨(rd_T44 x0 x7).f0, (rd_T44 x0 x7).f1⟩ : S44)]) x6 (wrap64 (x7 + 1)) x189000 x189001) else (none)))) else (none))) else (if x6 = true then (some x5) else (if x5.length < 8796093022208 then (some (x5 ++ [(⟨x189000, x189001⟩ : S44)])) else (none)))
def spec_l02Insert.f (k : Nat) (l0 : List (S44)) (a1_0 : Int) (a1_1 : Int) : Option ((List (S44))) := spec_l02Insert.l0 k l0 (([] : List (S44))) false 0 a1_0 a1_1
def spec_l02Insert.T6 : Bool × List (List Nat × List Nat) := (true, [([], []), ([0], [0]), ([1], [1]), ([2], [2]), ([2], [2]), ([2], [2]), ([4, 5, 2], [2, 4, 5]), ([6, 2], [2, 6]), ([3, 7, 2, 2], [2, 3, 7]), ([2, 8], [2, 8])])
def spec_l02Insert.B6 : List Nat := [0, 1, 3, 7, 7, 7, 55, 119, 255, 511]
theorem spec_l02Insert.tab6 : rtab .any (opsOf Try.f69 6) = spec_l02Insert.T6 := by kernel_rfl
theorem spec_l02Insert.bits6 : waitsOk spec_l02Insert.T6.2 spec_l02Insert.B6 = true := by kernel_rfl
theorem spec_l02Insert.calls (k : Nat) (A0 : Option Addr) (c0 : Nat) (l0 : List (S44)) (a1_0 : Int) (a1_1 : Int) (r : List (S44)) (w : World) (hr0 : Kd.C k44 w A0 l0.length l0) (hc0 : l0.length ≤ c0) (h : spec_l02Insert.f k l0 a1_0 a1_1 = some r) :
  Calls Try.prog 69 #[.slice A0 l0.length c0, .agg #[.int .i64 a1_0, .int .i64 a1_1]] w fun e w' => ∃ v0_ : Value, e = .returned (v0_) ∧ Kd.R k44 44 w' w.heap.size (fun _ => True) v0_ r ∧ Below w.heap.size w w' := by
 have hu44 := Try.underlying44
 have HR0 := aM hr0
 have HC0 := aM hc0
 clear hr0 hc0
 have HB := aM (Below.refl w.heap.size w)
 have H : (spec_l02Insert.l0 k l0 (([] : List (S44))) false 0 a1_0 a1_1) = some r := h
 clear h
 obtain ⟨y189, hy189⟩ : ∃ y_ : List (S44), y_ = (([] : List (S44))) := ⟨_, rfl⟩
 replace H : (spec_l02Insert.l0 k l0 y189 false 0 a1_0 a1_1) = some r := zy H hy189
 have Ny189 := aM hy189
 clear hy189
 have H' := aM H
 clear H
 go_enter Try.func69, Try.ntmps69
 go_wp2_with (first | ((with_reducible refine gate_dst (N := 3) rfl ?_); refine zx 3 #[.int .i64 a1_0, .int .i64 a1_1] 44 ?_; intro gb188 hg w3 hbox hb; have n0_ := aM (below_step zb hb); have n1_ := aM (hbox); have n2_ := aM ((ze : w.heap.size ≤ gb188)); have n3_ := aM ((ze : w.heap.size ≤ gb188)); clear HB; have HB := n0_; have BK188 := n1_; have GW188 := n2_; have GE188 := n3_; clear n0_ n1_ n2_ n3_; clear hb hbox hg) | ((with_reducible refine gate_dst (N := 8) rfl ?_); refine Kd.R_lit k44 _ 44 ?hg (N := 8) ?hd (xs := ([] : List (S44))) (inner := []) (ok := fun _ => True) (okp := fun _ => True) ?hr ?hp (fun _ hk => hk) trivial (Below.refl _ _) (Nat.le_refl _) (by simp) ?_; (case hd => rfl); (case hg => rfl); (case hr => first | (go_simp; done) | (go_simp; rfl)); (case hp => exact (Reps.none _ _)); intro v190 w4 ho5 hb hg_ hnew_; clear hg_ hnew_; (first | rw [← Ny189.out] at ho5 | (simp only [Int.reduceToNat] at ho5; rw [← Ny189.out] at ho5)); have n0_ := aM (Kd.R_lower (Kd.R_newB ho5 (g := gb188) (o := .cells #[.int .i64 a1_0, .int .i64 a1_1] 44 (0, 0)) (mB_ BK188.out)) (below_size (zs GE188.out))); have n1_ := aM (blk_below (g := gb188) (o := .cells #[.int .i64 a1_0, .int .i64 a1_1] 44 (0, 0)) (mB_ BK188.out) hb); have n2_ := aM (below_step (zs GE188.out) hb); clear BK188 HB; have HO191 := n0_; have BK188 := n1_; have HB := n2_; clear n0_ n1_ n2_; clear hb ho5))
 go_loopg [5, 6, 7] k (fun kq v5 v6 v7 w' => ∃ (x5_1 : List (S44)) (x6_1 : Bool) (x7_1 : Int), v6 = .bool x6_1 ∧ v7 = .int .i64 x7_1 ∧ Aside0 (spec_l02Insert.l0 kq l0 x5_1 x6_1 x7_1 a1_0 a1_1 = some r) ∧ Aside0 (kq ≤ k) ∧ Aside0 (Kd.R k44 44 w' w.heap.size (fun k_ => k_ ≠ gb188) v5 x5_1) ∧ Aside0 (w'.heap[gb188]? = some (.cells #[.int .i64 a1_0, .int .i64 a1_1] 44 (0, 0))) ∧ Aside0 (Below w.heap.size w w'))
 case atStart => exact ⟨(y189), (false), (0), zr, zr, H', ⟨Nat.le_refl _⟩, ⟨zd0 HO191.out⟩, ⟨mB_ BK188.out⟩, ⟨zs GE188.out⟩⟩
 case round =>
  clear H'
  try clear p2
  obtain ⟨x5_1, x6_1, x7_1, rfl, rfl, HA, HK1, HO_5, BK188, HB⟩ := hrel
  cases gk with
  | zero => exact absurd HA.out (by simp [spec_l02Insert.l0])
  | succ k1 =>
   have H := HA.out
   clear HA
   simp only [spec_l02Insert.l0] at H
   by_cases c6 : x7_1 < (l0.length : Int)
   rotate_left
   ·rw [if_neg c6] at H
    have c6b0 : decide (x7_1 < (l0.length : Int)) = false := decide_eq_false c6
    clear c6
    by_cases c26 : x6_1 = true
    ·subst c26
     have H1 : (some x5_1) = some r := by rw [if_pos rfl] at H; exact H
     clear H
     have H := H1
     clear H1
     obtain rfl := Option.some.inj H
     go_wp2
     go_ret
     exact ⟨_, zw, zd1 HO_5.out, zs GE188.out⟩
    replace c26 := Bool.eq_false_iff.mpr c26
    subst c26
    have H1 : (if x5_1.length < 8796093022208 then (some (x5_1 ++ [(⟨a1_0, a1_1⟩ : S44)])) else (none)) = some r := by rw [if_neg (show ¬ (false = true) by decide)] at H; exact H
    clear H
    have H := H1
    clear H1
    by_cases c27 : x5_1.length < 8796093022208
    rotate_left
    ·rw [if_neg c27] at H
     exact absurd H (by simp)
    rw [if_pos c27] at H
    have LMc27 := aM c27
    clear c27
    obtain ⟨y209, hy209⟩ : ∃ y_ : List (S44), y_ = (x5_1 ++ [(⟨a1_0, a1_1⟩ : S44)]) := ⟨_, rfl⟩
    replace H : (some y209) = some r := zy H hy209
    have Ny209 := aM hy209
    clear hy209
    obtain rfl := Option.some.inj H
    have hcz28_0 : wr.cell? ⟨gb188, 0, none⟩ = some (.int .i64 a1_0) := (blk_cell BK188.out 0).trans rfl
    have hcz28_1 : wr.cell? ⟨gb188, 1, none⟩ = some (.int .i64 a1_1) := (blk_cell BK188.out 1).trans rfl
    have hfz28_0 := blk_frozen BK188.out 0
    have hfz28_1 := blk_frozen BK188.out 1
    go_wp2_with (first | ((with_reducible refine gate_builtin (b := .append) (xs := #[.tmp 38, .tmp 40]) rfl ?_); at_builtin; refine Kd.R_append k44 (w0 := w) w.heap.size rfl (.tmp 38) (.tmp 40) 26 44 (.agg #[(.int .i64 0), (.int .i64 0)]) 16 rfl Try.underlying26 info44 rfl (by decide) (by omega) u5 x5_1 (⟨a1_0, a1_1⟩ : S44) [.int .i64 a1_0, .int .i64 a1_1] (fun k_ => k_ ≠ gb188) (fun _ => False) rfl rfl ?aP (fun _ hk => hk.elim) ?aF ?aO ?aB ?aS ?aL ?_; (case aP => exact k44_mkM _ _ _ (⟨a1_0, a1_1⟩ : S44)); (case aB => exact (zs GE188.out)); (case aF => exact (fun k_ hk => Kd.freshB (g := gb188) (o := .cells #[.int .i64 a1_0, .int .i64 a1_1] 44 (0, 0)) (mB_ BK188.out) k_ hk)); (case aO => exact (mR_ HO_5.out)); (case aS => exact (below_size (zs GE188.out))); (case aL => have := LMc27.out; omega); intro v210 w29 ho hb hg hat; rw [← Ny209.out] at ho; have n0_ := aM (blk_grown (g := gb188) (o := .cells #[.int .i64 a1_0, .int .i64 a1_1] 44 (0, 0)) (mB_ BK188.out) hg (Kd.R_away HO_5.out (fun _ hk => hk))); have n1_ := aM (hb); have n2_ := aM (ho); clear BK188 HB HO_5; have BK188 := n0_; have HB := n1_; have HO211 := n2_; clear n0_ n1_ n2_; clear ho hb hg hat))
    go_ret
    exact ⟨_, zw, zd1 HO211.out, zs GE188.out⟩
   rw [if_pos c6] at H
   have c6b0 : decide (x7_1 < (l0.length : Int)) = true := decide_eq_true c6
   clear c6
   by_cases c7 : x6_1 = true
   ·subst c7
    have H1 : (if 0 ≤ x7_1 then (if x5_1.length < 8796093022208 then (spec_l02Insert.l0 k1 l0 (x5_1 ++ [(⟨(rd_T44 l0 x7_1).f0, (rd_T44 l0 x7_1).f1⟩ : S44)]) true (wrap64 (x7_1 + 1)) a1_0 a1_1) else (none)) else (none)) = some r := by rw [if_pos rfl] at H; exact H
    clear H
    have H := H1
    clear H1
    by_cases c8 : 0 ≤ x7_1
    rotate_left
    ·rw [if_neg c8] at H
     exact absurd H (by simp)
    rw [if_pos c8] at H
    have c8b0 : decide (0 ≤ x7_1) = true := decide_eq_true c8
    clear c8
    by_cases c9 : x5_1.length < 8796093022208
    rotate_left
    ·rw [if_neg c9] at H
     exact absurd H (by simp)
    rw [if_pos c9] at H
    have LMc9 := aM c9
    clear c9
    obtain ⟨y193, hy193⟩ : ∃ y_ : List (S44), y_ = (x5_1 ++ [(⟨(rd_T44 l0 x7_1).f0, (rd_T44 l0 x7_1).f1⟩ : S44)]) := ⟨_, rfl⟩
    replace H : (spec_l02Insert.l0 k1 l0 y193 true (wrap64 (x7_1 + 1)) a1_0 a1_1) = some r := zy H hy193
    have Ny193 := aM hy193
    clear hy193
    have H' := aM H
    clear H
    try go_wp2
    have n0_ := aM (Kd.R_drew HO_5.out)
    have n1_ := aM (blk_drew BK188.out)
    have n2_ := aM (below_drew1 HB.out)
    clear HO_5
    clear BK188
    clear HB
    have HO_5 := n0_
    have BK188 := n1_
    have HB := n2_
    clear n0_ n1_ n2_
    refine start_ (n := 10) (S := fun w' => True) (ds := []) zA0 (by kernel_rfl) rfl rfl trivial (fun hHeld => ?_); refine with_tabW spec_l02Insert.tab6 spec_l02Insert.bits6 (fun HT_ HW_ => ?_)
    generalize wr.drew = w10 at HO_5 BK188 HB hHeld ⊢
    refine zp 0 (some 15) ?_ zA1 rfl rfl (Or.inl ⟨by rfl, ?_⟩) ?_ ?_ ?_
    rotate_left
    ·intro w'
     go_simp
     with_reducible rfl
    rotate_left
    ·simp only [Act.put, xA, xB, xC, i64_w, i32_w]
     rfl
    refine zp 1 (some 16) ?_ zA2 rfl rfl (Or.inl ⟨by rfl, ?_⟩) ?_ ?_ ?_
    rotate_left
    ·intro w'
     go_simp
     with_reducible rfl
    rotate_left
    ·simp only [Act.put, xA, xB, xC, i64_w, i32_w]
     rfl
    refine zp 2 (some 17) ?_ zA3 rfl rfl (Or.inl ⟨by rfl, ?_⟩) ?_ ?_ ?_
    rotate_left
    ·intro w'
     go_simp
     with_reducible rfl
    rotate_left
    ·simp only [Act.put, xA, xB, xC, i64_w, i32_w]
     rfl
    refine zp 3 (some 18) undef zA36 rfl rfl (Or.inr ⟨by rfl, rfl⟩) ?_ ?_ ?_
    rotate_left
    ·simp only [Act.put, xA, xB, xC, i64_w, i32_w]
     rfl
    refine zp 4 (some 19) undef zA37 rfl rfl (Or.inr ⟨by rfl, rfl⟩) ?_ ?_ ?_
    rotate_left
    ·simp only [Act.put, xA, xB, xC, i64_w, i32_w]
     rfl
    refine zp 5 (some 20) undef zA38 rfl rfl (Or.inr ⟨by rfl, rfl⟩) ?_ ?_ ?_
    rotate_left
    ·simp only [Act.put, xA, xB, xC, i64_w, i32_w]
     rfl
    refine zp 6 (some 21) undef zA7 rfl rfl (Or.inr ⟨by rfl, rfl⟩) ?_ ?_ ?_
    rotate_left
    ·simp only [Act.put, xA, xB, xC, i64_w, i32_w]
     rfl
    refine zp 7 (some 22) undef zA8 rfl rfl (Or.inr ⟨by rfl, rfl⟩) ?_ ?_ ?_
    rotate_left
    ·simp only [Act.put, xA, xB, xC, i64_w, i32_w]
     rfl
    refine zp 8 (some 23) undef zA9 rfl rfl (Or.inr ⟨by rfl, rfl⟩) ?_ ?_ ?_
    rotate_left
    ·simp only [Act.put, xA, xB, xC, i64_w, i32_w]
     rfl
    refine zp 9 (some 24) ?_ zA10 rfl rfl (Or.inl ⟨by rfl, ?_⟩) ?_ ?_ ?_
    rotate_left
    ·intro w'
     go_simp
     with_reducible rfl
    rotate_left
    ·simp only [Act.put, xA, xB, xC, i64_w, i32_w]
     rfl
    refine done_ (done_of HT_.out (by kernel_rfl)) ?_
    have p192 : 0 ≤ (x7_1 : Int) := of_decide_eq_true za
    have q192 : x7_1 < (l0.length : Int) := of_decide_eq_true za
    obtain ⟨ad192, e192, hx192_0, hx192_1⟩ := at_T44 HR0.out x7_1 p192 q192
    cases e192
    replace hx192_0 := zk HB.out hx192_0
    replace hx192_1 := zk HB.out hx192_1
    replace p192 := eq_true p192
    replace q192 := eq_true q192
    try go_wp2_with (first | ((with_reducible refine gate_builtin (b := .append) (xs := #[.tmp 29, .tmp 34]) rfl ?_); at_builtin; refine Kd.R_append k44 (w0 := w) w.heap.size rfl (.tmp 29) (.tmp 34) 26 44 (.agg #[(.int .i64 0), (.int .i64 0)]) 16 rfl Try.underlying26 info44 rfl (by decide) (by omega) u5 x5_1 (⟨(rd_T44 l0 x7_1).f0, (rd_T44 l0 x7_1).f1⟩ : S44) [.int .i64 ((rd_T44 l0 x7_1).f0), .int .i64 ((rd_T44 l0 x7_1).f1)] (fun k_ => k_ ≠ gb188) (fun _ => False) rfl rfl ?aP (fun _ hk => hk.elim) ?aF ?aO ?aB ?aS ?aL ?_; (case aP => exact k44_mkM _ _ _ (⟨(rd_T44 l0 x7_1).f0, (rd_T44 l0 x7_1).f1⟩ : S44)); (case aB => exact (zs GE188.out)); (case aF => exact (fun k_ hk => Kd.freshB (g := gb188) (o := .cells #[.int .i64 a1_0, .int .i64 a1_1] 44 (0, 0)) (mB_ BK188.out) k_ hk)); (case aO => exact (mR_ HO_5.out)); (case aS => exact (below_size (zs GE188.out))); (case aL => have := LMc9.out; omega); intro v194 w11 ho hb hg hat; rw [← Ny193.out] at ho; have n0_ := aM (blk_grown (g := gb188) (o := .cells #[.int .i64 a1_0, .int .i64 a1_1] 44 (0, 0)) (mB_ BK188.out) hg (Kd.R_away HO_5.out (fun _ hk => hk))); have n1_ := aM (hb); have n2_ := aM (ho); clear BK188 HB HO_5; have BK188 := n0_; have HB := n1_; have HO195 := n2_; clear n0_ n1_ n2_; clear ho hb hg hat))
    go_roundg k1
    case measure => have := HK1.out; omega
    case rel => exact ⟨(y193), (true), (wrap64 (x7_1 + 1)), zr, zr, H', ⟨by have := HK1.out; omega⟩, ⟨mR_ HO195.out⟩, ⟨mB_ BK188.out⟩, ⟨zs GE188.out⟩⟩
   replace c7 := Bool.eq_false_iff.mpr c7
   subst c7
   have H1 : (if 0 ≤ x7_1 then ((spec_l02Less.f a1_0 a1_1 ((rd_T44 l0 x7_1).f0) ((rd_T44 l0 x7_1).f1)).bind fun t197 => (if t197 = true then (if x5_1.length < 8796093022208 then ((some (x5_1 ++ [(⟨a1_0, a1_1⟩ : S44)] : List (S44))).bind fun y198 => (if y198.length < 8796093022208 then (spec_l02Insert.l0 k1 l0 (y198 ++ [(⟨(rd_T44 l0 x7_1).f0, (rd_T44 l0 x7_1).f1⟩ : S44)]) true (wrap64 (x7_1 + 1)) a1_0 a1_1) else (none))) else (none)) else (if x5_1.length < 8796093022208 then (spec_l02Insert.l0 k1 l0 (x5_1 ++ [(⟨(rd_T44 l0 x7_1).f0, (rd_T44 l0 x7_1).f1⟩ : S44)]) false (wrap64 (x7_1 + 1)) a1_0 a1_1) else (none)))) else (none)) = some r := by rw [if_neg (show ¬ (false = true) by decide)] at H; exact H
   clear H
   have H := H1
   clear H1
   by_cases c12 : 0 ≤ x7_1
   rotate_left
   ·rw [if_neg c12] at H
    exact absurd H (by simp)
   rw [if_pos c12] at H
   have c12b0 : decide (0 ≤ x7_1) = true := decide_eq_true c12
   clear c12
   replace H := Option.bind_eq_some_iff.mp H
   obtain ⟨t197, A130, H⟩ := H
   replace H : (if t197 = true then (if x5_1.length < 8796093022208 then ((some (x5_1 ++ [(⟨a1_0, a1_1⟩ : S44)] : List (S44))).bind fun y198 => (if y198.length < 8796093022208 then (spec_l02Insert.l0 k1 l0 (y198 ++ [(⟨(rd_T44 l0 x7_1).f0, (rd_T44 l0 x7_1).f1⟩ : S44)]) true (wrap64 (x7_1 + 1)) a1_0 a1_1) else (none))) else (none)) else (if x5_1.length < 8796093022208 then (spec_l02Insert.l0 k1 l0 (x5_1 ++ [(⟨(rd_T44 l0 x7_1).f0, (rd_T44 l0 x7_1).f1⟩ : S44)]) false (wrap64 (x7_1 + 1)) a1_0 a1_1) else (none))) = some r := H
   have A13 := aM A130
   clear A130
   by_cases c14 : t197 = true
   rotate_left
   ·replace c14 := Bool.eq_false_iff.mpr c14
    subst c14
    have H1 : (if x5_1.length < 8796093022208 then (spec_l02Insert.l0 k1 l0 (x5_1 ++ [(⟨(rd_T44 l0 x7_1).f0, (rd_T44 l0 x7_1).f1⟩ : S44)]) false (wrap64 (x7_1 + 1)) a1_0 a1_1) else (none)) = some r := by rw [if_neg (show ¬ (false = true) by decide)] at H; exact H
    clear H
    have H := H1
    clear H1
    by_cases c22 : x5_1.length < 8796093022208
    rotate_left
    ·rw [if_neg c22] at H
     exact absurd H (by simp)
    rw [if_pos c22] at H
    have LMc22 := aM c22
    clear c22
    obtain ⟨y206, hy206⟩ : ∃ y_ : List (S44), y_ = (x5_1 ++ [(⟨(rd_T44 l0 x7_1).f0, (rd_T44 l0 x7_1).f1⟩ : S44)]) := ⟨_, rfl⟩
    replace H : (spec_l02Insert.l0 k1 l0 y206 false (wrap64 (x7_1 + 1)) a1_0 a1_1) = some r := zy H hy206
    have Ny206 := aM hy206
    clear hy206
    have H' := aM H
    clear H
    try go_wp2
    have n0_ := aM (Kd.R_drew HO_5.out)
    have n1_ := aM (blk_drew BK188.out)
    have n2_ := aM (below_drew1 HB.out)
    clear HO_5
    clear BK188
    clear HB
    have HO_5 := n0_
    have BK188 := n1_
    have HB := n2_
    clear n0_ n1_ n2_
    have p196 : 0 ≤ (x7_1 : Int) := of_decide_eq_true za
    have q196 : x7_1 < (l0.length : Int) := of_decide_eq_true za
    obtain ⟨ad196, e196, hx196_0, hx196_1⟩ := at_T44 HR0.out x7_1 p196 q196
    have hw196_1 := hx196_1
    have hw196_0 := hx196_0
    cases e196
    replace hx196_0 := zk HB.out hx196_0
    replace hx196_1 := zk HB.out hx196_1
    replace p196 := eq_true p196
    replace q196 := eq_true q196
    refine start_ (n := 10) (S := fun w' => w'.cell? ⟨gb188, 0, none⟩ = some (.int .i64 a1_0) ∧ w'.cell? ⟨gb188, 1, none⟩ = some (.int .i64 a1_1) ∧ w'.cell? (ad196.add ((x7_1).toNat * 2)) = some (.int .i64 ((rd_T44 l0 x7_1).f0)) ∧ w'.cell? ⟨(ad196.add ((x7_1).toNat * 2)).block, (ad196.add ((x7_1).toNat * 2)).off + 1, none⟩ = some (.int .i64 ((rd_T44 l0 x7_1).f1))) (ds := []) zA0 (by kernel_rfl) rfl rfl ⟨(blk_cell BK188.out 0).trans rfl, (blk_cell BK188.out 1).trans rfl, (zk HB.out hw196_0), (zk HB.out hw196_1)⟩ (fun hHeld => ?_); refine with_tabW spec_l02Insert.tab6 spec_l02Insert.bits6 (fun HT_ HW_ => ?_)
    generalize wr.drew = w23 at HO_5 BK188 HB hx196_0 hx196_1 hHeld ⊢
    refine zp 0 (some 15) ?_ zA1 rfl rfl (Or.inl ⟨by rfl, ?_⟩) ?_ ?_ ?_
    rotate_left
    ·intro w'
     go_simp
     with_reducible rfl
    rotate_left
    ·simp only [Act.put, xA, xB, xC, i64_w, i32_w]
     rfl
    refine zp 1 (some 16) ?_ zA2 rfl rfl (Or.inl ⟨by rfl, ?_⟩) ?_ ?_ ?_
    rotate_left
    ·intro w'
     go_simp
     with_reducible rfl
    rotate_left
    ·simp only [Act.put, xA, xB, xC, i64_w, i32_w]
     rfl
    refine zp 2 (some 17) ?_ zA3 rfl rfl (Or.inl ⟨by rfl, ?_⟩) ?_ ?_ ?_
    rotate_left
    ·intro w'
     go_simp
     with_reducible rfl
    rotate_left
    ·simp only [Act.put, xA, xB, xC, i64_w, i32_w]
     rfl
    refine zp 4 (some 19) ?_ zA4 rfl rfl (Or.inl ⟨by rfl, ?_⟩) ?_ ?_ ?_
    rotate_left
    ·intro w'
     go_simp
     with_reducible rfl
    rotate_left
    ·simp only [Act.put, xA, xB, xC, i64_w, i32_w]
     rfl
    refine zp 5 (some 20) ?_ zA5 rfl rfl (Or.inl ⟨by rfl, ?_⟩) ?_ ?_ ?_
    rotate_left
    ·intro w'
     go_simp
     with_reducible rfl
    rotate_left
    ·simp only [Act.put, xA, xB, xC, i64_w, i32_w]
     rfl
    refine zp 6 (some 21) ?_ zA6 rfl rfl (Or.inl ⟨by rfl, ?_⟩) ?_ ?_ ?_
    rotate_left
    ·intro w'
     go_simp
     with_reducible rfl
    rotate_left
    ·simp only [Act.put, xA, xB, xC, i64_w, i32_w]
     rfl
    refine zu 3 (some 18) ?_ zA7 rfl rfl (Or.inl ⟨by rfl, ?_⟩) hHeld ?_ ?_ ?_
    rotate_left
    ·rintro w' ⟨s0, s1, s2, s3⟩
     go_simp
     with_reducible rfl
    rotate_left
    ·simp only [Act.put, xA, xB, xC, i64_w, i32_w]
     rfl
    refine zu 7 (some 22) ?_ zA8 rfl rfl (Or.inl ⟨by rfl, ?_⟩) hHeld ?_ ?_ ?_
    rotate_left
    ·rintro w' ⟨s0, s1, s2, s3⟩
     go_simp
     with_reducible rfl
    rotate_left
    ·simp only [Act.put, xA, xB, xC, i64_w, i32_w]
     rfl
    refine one_ (i := 8) (N := some 23) zA9 rfl rfl (one_of HT_.out (by kernel_rfl)) (by decide) (fun K hK => ?_)
    refine goes_ Try.func53 (by kernel_rfl) rfl #[.agg #[.int .i64 a1_0, .int .i64 a1_1], .agg #[.int .i64 ((rd_T44 l0 x7_1).f0), .int .i64 ((rd_T44 l0 x7_1).f1)]] (by rfl) rfl rfl zm ?_
    with_reducible refine (spec_l02Less.calls a1_0 a1_1 ((rd_T44 l0 x7_1).f0) ((rd_T44 l0 x7_1).f1) false _ A13.out).mono ?_
    rintro e w24 ⟨rfl, hb⟩
    refine ⟨_, rfl, ?_⟩
    have n0_ := aM (Kd.R_below (mR_ HO_5.out) hb)
    have n1_ := aM (blk_below (g := gb188) (o := .cells #[.int .i64 a1_0, .int .i64 a1_1] 44 (0, 0)) (mB_ BK188.out) hb)
    have n2_ := aM (below_step (zs GE188.out) hb)
    clear HO_5
    clear BK188
    clear HB
    have HO_5 := n0_
    have BK188 := n1_
    have HB := n2_
    clear n0_ n1_ n2_
    (try clear hb)
    (try clear hb2)
    (try clear hk)
    (try clear hi)
    refine hK.out _ _ ⟨(blk_cell BK188.out 0).trans rfl, (blk_cell BK188.out 1).trans rfl, (zk HB.out hw196_0), (zk HB.out hw196_1)⟩ (fun hHeld => ?_)
    clear hK K
    refine norm_ (a' := ?_) ?_ ?_
    rotate_left
    ·show Act.put _ (some 23) _ = _
     simp only [Act.put, xA, xB, xC, i64_w, i32_w]
     rfl
    refine zp 9 (some 24) ?_ zA10 rfl rfl (Or.inl ⟨by rfl, ?_⟩) ?_ ?_ ?_
    rotate_left
    ·intro w'
     go_simp
     with_reducible rfl
    rotate_left
    ·simp only [Act.put, xA, xB, xC, i64_w, i32_w]
     rfl
    refine done_ (done_of HT_.out (by kernel_rfl)) ?_
    have p205 : 0 ≤ (x7_1 : Int) := of_decide_eq_true za
    have q205 : x7_1 < (l0.length : Int) := of_decide_eq_true za
    obtain ⟨ad205, e205, hx205_0, hx205_1⟩ := at_T44 HR0.out x7_1 p205 q205
    obtain rfl : ad196 = ad205 := (by injection e205)
    replace hx205_0 := zk HB.out hx205_0
    replace hx205_1 := zk HB.out hx205_1
    replace p205 := eq_true p205
    replace q205 := eq_true q205
    try go_wp2_with (first | ((with_reducible refine gate_builtin (b := .append) (xs := #[.tmp 29, .tmp 34]) rfl ?_); at_builtin; refine Kd.R_append k44 (w0 := w) w.heap.size rfl (.tmp 29) (.tmp 34) 26 44 (.agg #[(.int .i64 0), (.int .i64 0)]) 16 rfl Try.underlying26 info44 rfl (by decide) (by omega) u5 x5_1 (⟨(rd_T44 l0 x7_1).f0, (rd_T44 l0 x7_1).f1⟩ : S44) [.int .i64 ((rd_T44 l0 x7_1).f0), .int .i64 ((rd_T44 l0 x7_1).f1)] (fun k_ => k_ ≠ gb188) (fun _ => False) rfl rfl ?aP (fun _ hk => hk.elim) ?aF ?aO ?aB ?aS ?aL ?_; (case aP => exact k44_mkM _ _ _ (⟨(rd_T44 l0 x7_1).f0, (rd_T44 l0 x7_1).f1⟩ : S44)); (case aB => exact (zs GE188.out)); (case aF => exact (fun k_ hk => Kd.freshB (g := gb188) (o := .cells #[.int .i64 a1_0, .int .i64 a1_1] 44 (0, 0)) (mB_ BK188.out) k_ hk)); (case aO => exact (mR_ HO_5.out)); (case aS => exact (below_size (zs GE188.out))); (case aL => have := LMc22.out; omega); intro v207 w25 ho hb hg hat; rw [← Ny206.out] at ho; have n0_ := aM (blk_grown (g := gb188) (o := .cells #[.int .i64 a1_0, .int .i64 a1_1] 44 (0, 0)) (mB_ BK188.out) hg (Kd.R_away HO_5.out (fun _ hk => hk))); have n1_ := aM (hb); have n2_ := aM (ho); clear BK188 HB HO_5; have BK188 := n0_; have HB := n1_; have HO208 := n2_; clear n0_ n1_ n2_; clear ho hb hg hat))
    go_roundg k1
    case measure => have := HK1.out; omega
    case rel => exact ⟨(y206), (false), (wrap64 (x7_1 + 1)), zr, zr, H', ⟨by have := HK1.out; omega⟩, ⟨mR_ HO208.out⟩, ⟨mB_ BK188.out⟩, ⟨zs GE188.out⟩⟩
   subst c14
   have H1 : (if x5_1.length < 8796093022208 then ((some (x5_1 ++ [(⟨a1_0, a1_1⟩ : S44)] : List (S44))).bind fun y198 => (if y198.length < 8796093022208 then (spec_l02Insert.l0 k1 l0 (y198 ++ [(⟨(rd_T44 l0 x7_1).f0, (rd_T44 l0 x7_1).f1⟩ : S44)]) true (wrap64 (x7_1 + 1)) a1_0 a1_1) else (none))) else (none)) = some r := by rw [if_pos rfl] at H; exact H
   clear H
   have H := H1
   clear H1
   by_cases c15 : x5_1.length < 8796093022208
   rotate_left
   ·rw [if_neg c15] at H
    exact absurd H (by simp)
   rw [if_pos c15] at H
   have LMc15 := aM c15
   clear c15
   obtain ⟨y198, hy198⟩ : ∃ y_ : List (S44), y_ = (x5_1 ++ [(⟨a1_0, a1_1⟩ : S44)]) := ⟨_, rfl⟩
   replace H : (if y198.length < 8796093022208 then (spec_l02Insert.l0 k1 l0 (y198 ++ [(⟨(rd_T44 l0 x7_1).f0, (rd_T44 l0 x7_1).f1⟩ : S44)]) true (wrap64 (x7_1 + 1)) a1_0 a1_1) else (none)) = some r := zy H hy198
   have Ny198 := aM hy198
   clear hy198
   by_cases c16 : y198.length < 8796093022208
   rotate_left
   ·rw [if_neg c16] at H
    exact absurd H (by simp)
   rw [if_pos c16] at H
   have LMc16 := aM c16
   clear c16
   obtain ⟨y202, hy202⟩ : ∃ y_ : List (S44), y_ = (y198 ++ [(⟨(rd_T44 l0 x7_1).f0, (rd_T44 l0 x7_1).f1⟩ : S44)]) := ⟨_, rfl⟩
   replace H : (spec_l02Insert.l0 k1 l0 y202 true (wrap64 (x7_1 + 1)) a1_0 a1_1) = some r := zy H hy202
   have Ny202 := aM hy202
   clear hy202
   have H' := aM H
   clear H
   try go_wp2
   have n0_ := aM (Kd.R_drew HO_5.out)
   have n1_ := aM (blk_drew BK188.out)
   have n2_ := aM (below_drew1 HB.out)
   clear HO_5
   clear BK188
   clear HB
   have HO_5 := n0_
   have BK188 := n1_
   have HB := n2_
   clear n0_ n1_ n2_
   have p196 : 0 ≤ (x7_1 : Int) := of_decide_eq_true za
   have q196 : x7_1 < (l0.length : Int) := of_decide_eq_true za
   obtain ⟨ad196, e196, hx196_0, hx196_1⟩ := at_T44 HR0.out x7_1 p196 q196
   have hw196_1 := hx196_1
   have hw196_0 := hx196_0
   cases e196
   replace hx196_0 := zk HB.out hx196_0
   replace hx196_1 := zk HB.out hx196_1
   replace p196 := eq_true p196
   replace q196 := eq_true q196
   refine start_ (n := 10) (S := fun w' => w'.cell? ⟨gb188, 0, none⟩ = some (.int .i64 a1_0) ∧ w'.cell? ⟨gb188, 1, none⟩ = some (.int .i64 a1_1) ∧ w'.cell? (ad196.add ((x7_1).toNat * 2)) = some (.int .i64 ((rd_T44 l0 x7_1).f0)) ∧ w'.cell? ⟨(ad196.add ((x7_1).toNat * 2)).block, (ad196.add ((x7_1).toNat * 2)).off + 1, none⟩ = some (.int .i64 ((rd_T44 l0 x7_1).f1))) (ds := []) zA0 (by kernel_rfl) rfl rfl ⟨(blk_cell BK188.out 0).trans rfl, (blk_cell BK188.out 1).trans rfl, (zk HB.out hw196_0), (zk HB.out hw196_1)⟩ (fun hHeld => ?_); refine with_tabW spec_l02Insert.tab6 spec_l02Insert.bits6 (fun HT_ HW_ => ?_)
   generalize wr.drew = w17 at HO_5 BK188 HB hx196_0 hx196_1 hHeld ⊢
   refine zp 0 (some 15) ?_ zA1 rfl rfl (Or.inl ⟨by rfl, ?_⟩) ?_ ?_ ?_
   rotate_left
   ·intro w'
    go_simp
    with_reducible rfl
   rotate_left
   ·simp only [Act.put, xA, xB, xC, i64_w, i32_w]
    rfl
   refine zp 1 (some 16) ?_ zA2 rfl rfl (Or.inl ⟨by rfl, ?_⟩) ?_ ?_ ?_
   rotate_left
   ·intro w'
    go_simp
    with_reducible rfl
   rotate_left
   ·simp only [Act.put, xA, xB, xC, i64_w, i32_w]
    rfl
   refine zp 2 (some 17) ?_ zA3 rfl rfl (Or.inl ⟨by rfl, ?_⟩) ?_ ?_ ?_
   rotate_left
   ·intro w'
    go_simp
    with_reducible rfl
   rotate_left
   ·simp only [Act.put, xA, xB, xC, i64_w, i32_w]
    rfl
   refine zp 4 (some 19) ?_ zA4 rfl rfl (Or.inl ⟨by rfl, ?_⟩) ?_ ?_ ?_
   rotate_left
   ·intro w'
    go_simp
    with_reducible rfl
   rotate_left
   ·simp only [Act.put, xA, xB, xC, i64_w, i32_w]
    rfl
   refine zp 5 (some 20) ?_ zA5 rfl rfl (Or.inl ⟨by rfl, ?_⟩) ?_ ?_ ?_
   rotate_left
   ·intro w'
    go_simp
    with_reducible rfl
   rotate_left
   ·simp only [Act.put, xA, xB, xC, i64_w, i32_w]
    rfl
   refine zp 6 (some 21) ?_ zA6 rfl rfl (Or.inl ⟨by rfl, ?_⟩) ?_ ?_ ?_
   rotate_left
   ·intro w'
    go_simp
    with_reducible rfl
   rotate_left
   ·simp only [Act.put, xA, xB, xC, i64_w, i32_w]
    rfl
   refine zu 3 (some 18) ?_ zA7 rfl rfl (Or.inl ⟨by rfl, ?_⟩) hHeld ?_ ?_ ?_
   rotate_left
   ·rintro w' ⟨s0, s1, s2, s3⟩
    go_simp
    with_reducible rfl
   rotate_left
   ·simp only [Act.put, xA, xB, xC, i64_w, i32_w]
    rfl
   refine zu 7 (some 22) ?_ zA8 rfl rfl (Or.inl ⟨by rfl, ?_⟩) hHeld ?_ ?_ ?_
   rotate_left
   ·rintro w' ⟨s0, s1, s2, s3⟩
    go_simp
    with_reducible rfl
   rotate_left
   ·simp only [Act.put, xA, xB, xC, i64_w, i32_w]
    rfl
   refine one_ (i := 8) (N := some 23) zA9 rfl rfl (one_of HT_.out (by kernel_rfl)) (by decide) (fun K hK => ?_)
   refine goes_ Try.func53 (by kernel_rfl) rfl #[.agg #[.int .i64 a1_0, .int .i64 a1_1], .agg #[.int .i64 ((rd_T44 l0 x7_1).f0), .int .i64 ((rd_T44 l0 x7_1).f1)]] (by rfl) rfl rfl zm ?_
   with_reducible refine (spec_l02Less.calls a1_0 a1_1 ((rd_T44 l0 x7_1).f0) ((rd_T44 l0 x7_1).f1) true _ A13.out).mono ?_
   rintro e w18 ⟨rfl, hb⟩
   refine ⟨_, rfl, ?_⟩
   have n0_ := aM (Kd.R_below (mR_ HO_5.out) hb)
   have n1_ := aM (blk_below (g := gb188) (o := .cells #[.int .i64 a1_0, .int .i64 a1_1] 44 (0, 0)) (mB_ BK188.out) hb)
   have n2_ := aM (below_step (zs GE188.out) hb)
   clear HO_5
   clear BK188
   clear HB
   have HO_5 := n0_
   have BK188 := n1_
   have HB := n2_
   clear n0_ n1_ n2_
   (try clear hb)
   (try clear hb2)
   (try clear hk)
   (try clear hi)
   refine hK.out _ _ ⟨(blk_cell BK188.out 0).trans rfl, (blk_cell BK188.out 1).trans rfl, (zk HB.out hw196_0), (zk HB.out hw196_1)⟩ (fun hHeld => ?_)
   clear hK K
   refine norm_ (a' := ?_) ?_ ?_
   rotate_left
   ·show Act.put _ (some 23) _ = _
    simp only [Act.put, xA, xB, xC, i64_w, i32_w]
    rfl
   refine zp 9 (some 24) ?_ zA10 rfl rfl (Or.inl ⟨by rfl, ?_⟩) ?_ ?_ ?_
   rotate_left
   ·intro w'
    go_simp
    with_reducible rfl
   rotate_left
   ·simp only [Act.put, xA, xB, xC, i64_w, i32_w]
    rfl
   refine done_ (done_of HT_.out (by kernel_rfl)) ?_
   have hcz19_0 : w18.cell? ⟨gb188, 0, none⟩ = some (.int .i64 a1_0) := (blk_cell BK188.out 0).trans rfl
   have hcz19_1 : w18.cell? ⟨gb188, 1, none⟩ = some (.int .i64 a1_1) := (blk_cell BK188.out 1).trans rfl
   have hfz19_0 := blk_frozen BK188.out 0
   have hfz19_1 := blk_frozen BK188.out 1
   try go_wp2_with (first | ((with_reducible refine gate_builtin (b := .append) (xs := #[.tmp 25, .tmp 27]) rfl ?_); at_builtin; refine Kd.R_append k44 (w0 := w) w.heap.size rfl (.tmp 25) (.tmp 27) 26 44 (.agg #[(.int .i64 0), (.int .i64 0)]) 16 rfl Try.underlying26 info44 rfl (by decide) (by omega) u5 x5_1 (⟨a1_0, a1_1⟩ : S44) [.int .i64 a1_0, .int .i64 a1_1] (fun k_ => k_ ≠ gb188) (fun _ => False) rfl rfl ?aP (fun _ hk => hk.elim) ?aF ?aO ?aB ?aS ?aL ?_; (case aP => exact k44_mkM _ _ _ (⟨a1_0, a1_1⟩ : S44)); (case aB => exact (zs GE188.out)); (case aF => exact (fun k_ hk => Kd.freshB (g := gb188) (o := .cells #[.int .i64 a1_0, .int .i64 a1_1] 44 (0, 0)) (mB_ BK188.out) k_ hk)); (case aO => exact (mR_ HO_5.out)); (case aS => exact (below_size (zs GE188.out))); (case aL => have := LMc15.out; omega); intro v199 w20 ho hb hg hat; rw [← Ny198.out] at ho; have n0_ := aM (blk_grown (g := gb188) (o := .cells #[.int .i64 a1_0, .int .i64 a1_1] 44 (0, 0)) (mB_ BK188.out) hg (Kd.R_away HO_5.out (fun _ hk => hk))); have n1_ := aM (hb); have n2_ := aM (ho); clear BK188 HB HO_5; have BK188 := n0_; have HB := n1_; have HO200 := n2_; clear n0_ n1_ n2_ ho hb hg hat; have p201 : 0 ≤ (x7_1 : Int) := of_decide_eq_true za; have q201 : x7_1 < (l0.length : Int) := of_decide_eq_true za; obtain ⟨ad201, e201, hx201_0, hx201_1⟩ := at_T44 HR0.out x7_1 p201 q201; obtain rfl : ad196 = ad201 := (by injection e201); replace hx201_0 := zk HB.out hx201_0; replace hx201_1 := zk HB.out hx201_1; replace p201 := eq_true p201; replace q201 := eq_true q201) | ((with_reducible refine gate_builtin (b := .append) (xs := #[.tmp 29, .tmp 34]) rfl ?_); at_builtin; refine Kd.R_append k44 (w0 := w) w.heap.size rfl (.tmp 29) (.tmp 34) 26 44 (.agg #[(.int .i64 0), (.int .i64 0)]) 16 rfl Try.underlying26 info44 rfl (by decide) (by omega) v199 y198 (⟨(rd_T44 l0 x7_1).f0, (rd_T44 l0 x7_1).f1⟩ : S44) [.int .i64 ((rd_T44 l0 x7_1).f0), .int .i64 ((rd_T44 l0 x7_1).f1)] (fun k_ => k_ ≠ gb188) (fun _ => False) rfl rfl ?aP (fun _ hk => hk.elim) ?aF ?aO ?aB ?aS ?aL ?_; (case aP => exact k44_mkM _ _ _ (⟨(rd_T44 l0 x7_1).f0, (rd_T44 l0 x7_1).f1⟩ : S44)); (case aB => exact (zs GE188.out)); (case aF => exact (fun k_ hk => Kd.freshB (g := gb188) (o := .cells #[.int .i64 a1_0, .int .i64 a1_1] 44 (0, 0)) (mB_ BK188.out) k_ hk)); (case aO => exact (mR_ HO200.out)); (case aS => exact (below_size (zs GE188.out))); (case aL => have := LMc16.out; omega); intro v203 w21 ho hb hg hat; rw [← Ny202.out] at ho; have n0_ := aM (blk_grown (g := gb188) (o := .cells #[.int .i64 a1_0, .int .i64 a1_1] 44 (0, 0)) (mB_ BK188.out) hg (Kd.R_away HO200.out (fun _ hk => hk))); have n1_ := aM (hb); have n2_ := aM (ho); clear BK188 HB HO200; have BK188 := n0_; have HB := n1_; have HO204 := n2_; clear n0_ n1_ n2_; clear ho hb hg hat))
   go_roundg k1
   case measure => have := HK1.out; omega
   case rel => exact ⟨(y202), (true), (wrap64 (x7_1 + 1)), zr, zr, H', ⟨by have := HK1.out; omega⟩, ⟨mR_ HO204.out⟩, ⟨mB_ BK188.out⟩, ⟨zs GE188.out⟩⟩
def spec_l02Sort.l0 : Nat → List (S44) → List (S44) → Int → Option ((List (S44)))
 | 0, _, _, _ => none
 | k + 1, x0, x3, x4 => if x4 < (x0.length : Int) then (if 0 ≤ x4 then ((spec_l02Insert.f k x3 ((rd_T44 x0 x4).f0) ((rd_T44 x0 x4).f1)).bind fun t216 => (spec_l02Sort.l0 k x0 t216 (wrap64 (x4 + 1)))) else (none)) else (some x3)
def spec_l02Sort.f (k : Nat) (l0 : List (S44)) : Option ((List (S44))) := spec_l02Sort.l0 k l0 (([] : List (S44))) 0
theorem spec_l02Sort.calls (k : Nat) (A0 : Option Addr) (c0 : Nat) (l0 : List (S44)) (r : List (S44)) (w : World) (hr0 : Kd.C k44 w A0 l0.length l0) (hc0 : l0.length ≤ c0) (h : spec_l02Sort.f k l0 = some r) :
  Calls Try.prog 47 #[.slice A0 l0.length c0] w fun e w' => ∃ v0_ : Value, e = .returned (v0_) ∧ Kd.R k44 44 w' w.heap.size (fun _ => True) v0_ r ∧ Below w.heap.size w w' := by
 have hu44 := Try.underlying44
 have HR0 := aM hr0
 have HC0 := aM hc0
 clear hr0 hc0
 have HB := aM (Below.refl w.heap.size w)
 have H : (spec_l02Sort.l0 k l0 (([] : List (S44))) 0) = some r := h
 clear h
 obtain ⟨y212, hy212⟩ : ∃ y_ : List (S44), y_ = (([] : List (S44))) := ⟨_, rfl⟩
 replace H : (spec_l02Sort.l0 k l0 y212 0) = some r := zy H hy212
 have Ny212 := aM hy212
 clear hy212
 have H' := aM H
 clear H
 go_enter Try.func47, Try.ntmps47
 go_wp2_with (first | ((with_reducible refine gate_dst (N := 5) rfl ?_); refine Kd.R_lit k44 _ 44 ?hg (N := 5) ?hd (xs := ([] : List (S44))) (inner := []) (ok := fun _ => True) (okp := fun _ => True) ?hr ?hp (fun _ hk => hk) trivial (Below.refl _ _) (Nat.le_refl _) (by simp) ?_; (case hd => rfl); (case hg => rfl); (case hr => first | (go_simp; done) | (go_simp; rfl)); (case hp => exact (Reps.none _ _)); intro v213 w2 ho3 hb hg_ hnew_; clear hg_ hnew_; (first | rw [← Ny212.out] at ho3 | (simp only [Int.reduceToNat] at ho3; rw [← Ny212.out] at ho3)); have n0_ := aM (Kd.R_lower ho3 (below_size zb)); have n1_ := aM (below_step zb hb); clear HB; have HO214 := n0_; have HB := n1_; clear n0_ n1_; clear hb ho3))
 go_loopg [3, 4] k (fun kq v3 v4 w' => ∃ (x3_1 : List (S44)) (x4_1 : Int), v4 = .int .i64 x4_1 ∧ Aside0 (spec_l02Sort.l0 kq l0 x3_1 x4_1 = some r) ∧ Aside0 (kq ≤ k) ∧ Aside0 (Kd.R k44 44 w' w.heap.size (fun _ => True) v3 x3_1) ∧ Aside0 (Below w.heap.size w w'))
 case atStart => exact ⟨(y212), (0), zr, H', ⟨Nat.le_refl _⟩, ⟨mR_ HO214.out⟩, ⟨zb⟩⟩
 case round =>
  clear H'
  try clear p2
  obtain ⟨x3_1, x4_1, rfl, HA, HK1, HO_3, HB⟩ := hrel
  cases gk with
  | zero => exact absurd HA.out (by simp [spec_l02Sort.l0])
  | succ k1 =>
   have H := HA.out
   clear HA
   simp only [spec_l02Sort.l0] at H
   by_cases c4 : x4_1 < (l0.length : Int)
   rotate_left
   ·rw [if_neg c4] at H
    have c4b0 : decide (x4_1 < (l0.length : Int)) = false := decide_eq_false c4
    clear c4
    obtain rfl := Option.some.inj H
    go_wp2
    go_ret
    exact ⟨_, zw, mR_ HO_3.out, zb⟩
   rw [if_pos c4] at H
   have c4b0 : decide (x4_1 < (l0.length : Int)) = true := decide_eq_true c4
   clear c4
   by_cases c5 : 0 ≤ x4_1
   rotate_left
   ·rw [if_neg c5] at H
    exact absurd H (by simp)
   rw [if_pos c5] at H
   have c5b0 : decide (0 ≤ x4_1) = true := decide_eq_true c5
   clear c5
   replace H := Option.bind_eq_some_iff.mp H
   obtain ⟨t216, A60, H⟩ := H
   replace H : (spec_l02Sort.l0 k1 l0 t216 (wrap64 (x4_1 + 1))) = some r := H
   have A6 := aM A60
   clear A60
   have H' := aM H
   clear H
   have p215 : 0 ≤ (x4_1 : Int) := of_decide_eq_true za
   have q215 : x4_1 < (l0.length : Int) := of_decide_eq_true za
   obtain ⟨ad215, e215, hx215_0, hx215_1⟩ := at_T44 HR0.out x4_1 p215 q215
   cases e215
   replace hx215_0 := zk HB.out hx215_0
   replace hx215_1 := zk HB.out hx215_1
   replace p215 := eq_true p215
   replace q215 := eq_true q215
   obtain ⟨Ao7, co7, eo7⟩ := Kd.R_slice HO_3.out
   subst eo7
   go_wp2_with (first | ((with_reducible refine gate_callee (f := 69) rfl ?_); refine goesL_ (some 17) rfl rfl Try.func69 (by kernel_rfl) rfl #[.slice Ao7 x3_1.length co7, .agg #[.int .i64 ((rd_T44 l0 x4_1).f0), .int .i64 ((rd_T44 l0 x4_1).f1)]] rfl zm ?_; (with_reducible refine (spec_l02Insert.calls k1 _ _ x3_1 ((rd_T44 l0 x4_1).f0) ((rd_T44 l0 x4_1).f1) t216 _ ?side1 ?side2 A6.out).mono ?_); (case side1 => exact zc HO_3.out); (case side2 => exact (Kd.R_reads' HO_3.out).2.1); rintro e w8 ⟨v217, rfl, ho0, hb⟩; refine ⟨_, rfl, ?_⟩; have n0_ := aM (Kd.R_elder' (mR_ HO_3.out) (Kd.R_base ho0) hb); have n1_ := aM (Kd.R_lower (Kd.R_new' ho0 (Kd.R_lt (mR_ HO_3.out))) (below_size zb)); have n2_ := aM (below_step zb hb); clear HO_3 HB; have HO_3 := n0_; have HO218 := n1_; have HB := n2_; clear n0_ n1_ n2_; (try clear hb); (try clear hb2); (try clear hk); (try clear hi); (try clear ho0)))
   go_roundg k1
   case measure => have := HK1.out; omega
   case rel => exact ⟨(t216), (wrap64 (x4_1 + 1)), zr, H', ⟨by have := HK1.out; omega⟩, ⟨zd1 HO218.out⟩, ⟨zb⟩⟩
def spec_IsShape.l0 : Nat → List (S44) → Int → Option (Bool)
 | 0, _, _ => none
 | k + 1, x0, x3 => if x3 < (x0.length : Int) then (if 0 ≤ x3 then ((spec_l02Cell.f ((rd_T44 x0 x3).f0) ((rd_T44 x0 x3).f1)).bind fun t108 => (if t108 = true then (if x3 > 0 then (if 0 ≤ (wrap64 (x3 - 1)) then (if (wrap64 (x3 - 1)) < (x0.length : Int) then ((spec_l02Less.f ((rd_T44 x0 (wrap64 (x3 - 1))).f0) ((rd_T44 x0 (wrap64 (x3 - 1))).f1) ((rd_T44 x0 x3).f0) ((rd_T44 x0 x3).f1)).bind fun t111 => (if t111 = true then (spec_IsShape.l0 k x0 (wrap64 (x3 + 1))) else (some false))) else (none)) else (none)) else (spec_IsShape.l0 k x0 (wrap64 (x3 + 1)))) else (some false))) else (none)) else ((spec_l01In.f (x0.length : Int) 1 40).bind fun t106 => (some t106))
def spec_IsShape.f (k : Nat) (l0 : List (S44)) : Option (Bool) := spec_IsShape.l0 k l0 0
def spec_IsShape.T4 : Bool × List (List Nat × List Nat) := (true, [([], []), ([], []), ([0, 1], [0, 1]), ([2], [2]), ([3], [3]), ([4], [4]), ([5, 4], [5]), ([6], [6]), ([7, 6], [6, 7]), ([8, 6, 6], [6, 8]), ([9], [9]), ([9], [9]), ([11, 9], [9, 11]), ([10, 12, 9], [9, 10, 12]), ([13, 9], [9, 13]), ([9], [9]), ([9], [9]), ([15, 16, 9], [9, 15, 16]), ([17, 9], [9, 17]), ([14, 18, 9, 9], [9, 14, 18]), ([19, 9], [9, 19]), ([9, 20, 6], [6, 9, 20]), ([6, 21], [6, 21])])
def spec_IsShape.B4 : List Nat := [0, 0, 3, 7, 15, 31, 63, 127, 255, 511, 1023, 1023, 3071, 8191, 16383, 1023, 1023, 99327, 230399, 524287, 1048575, 2097151, 4194303]
theorem spec_IsShape.tab4 : rtab .any (opsOf Try.f32 4) = spec_IsShape.T4 := by kernel_rfl
theorem spec_IsShape.bits4 : waitsOk spec_IsShape.T4.2 spec_IsShape.B4 = true := by kernel_rfl
theorem spec_IsShape.calls (k : Nat) (A0 : Option Addr) (c0 : Nat) (l0 : List (S44)) (r : Bool) (w : World) (hr0 : Kd.C k44 w A0 l0.length l0) (hc0 : l0.length ≤ c0) (h : spec_IsShape.f k l0 = some r) :
  Calls Try.prog 32 #[.slice A0 l0.length c0] w fun e w' => e = .returned (.bool r) ∧ Below w.heap.size w w' := by
 have hu44 := Try.underlying44
 have HR0 := aM hr0
 have HC0 := aM hc0
 clear hr0 hc0
 have HB := aM (Below.refl w.heap.size w)
 have H : (spec_IsShape.l0 k l0 0) = some r := h
 clear h
 have H' := aM H
 clear H
 go_enter Try.func32, Try.ntmps32
 go_wp2
 go_loopg [3] k (fun kq v3 w' => ∃ (x3_1 : Int), v3 = .int .i64 x3_1 ∧ Aside0 (spec_IsShape.l0 kq l0 x3_1 = some r) ∧ Aside0 (kq ≤ k) ∧ Aside0 (Below w.heap.size w w'))
 case atStart => exact ⟨(0), zr, H', ⟨Nat.le_refl _⟩, ⟨zb⟩⟩
 case round =>
  clear H'
  obtain ⟨x3_1, rfl, HA, HK1, HB⟩ := hrel
  cases gk with
  | zero => exact absurd HA.out (by simp [spec_IsShape.l0])
  | succ k1 =>
   have H := HA.out
   clear HA
   simp only [spec_IsShape.l0] at H
   by_cases c2 : x3_1 < (l0.length : Int)
   rotate_left
   ·rw [if_neg c2] at H
    have c2b0 : decide (x3_1 < (l0.length : Int)) = false := decide_eq_false c2
    clear c2
    replace H := Option.bind_eq_some_iff.mp H
    obtain ⟨t106, A220, H⟩ := H
    replace H : (some t106) = some r := H
    have A22 := aM A220
    clear A220
    obtain rfl := Option.some.inj H
    go_wp2_with (first | ((with_reducible refine gate_callee (f := 54) rfl ?_); refine goesL_ (some 35) rfl rfl Try.func54 (by kernel_rfl) rfl #[.int .i64 (l0.length : Int), .int .i64 1, .int .i64 40] rfl zm ?_; (with_reducible refine (spec_l01In.calls (l0.length : Int) 1 40 t106 _ A22.out).mono ?_); rintro e w' ⟨rfl, ⟨nd, rfl⟩⟩; refine ⟨_, rfl, ?_⟩))
    go_ret
    exact ⟨zw, zb⟩
   rw [if_pos c2] at H
   have c2b0 : decide (x3_1 < (l0.length : Int)) = true := decide_eq_true c2
   clear c2
   by_cases c3 : 0 ≤ x3_1
   rotate_left
   ·rw [if_neg c3] at H
    exact absurd H (by simp)
   rw [if_pos c3] at H
   have c3b0 : decide (0 ≤ x3_1) = true := decide_eq_true c3
   clear c3
   replace H := Option.bind_eq_some_iff.mp H
   obtain ⟨t108, A40, H⟩ := H
   replace H : (if t108 = true then (if x3_1 > 0 then (if 0 ≤ (wrap64 (x3_1 - 1)) then (if (wrap64 (x3_1 - 1)) < (l0.length : Int) then ((spec_l02Less.f ((rd_T44 l0 (wrap64 (x3_1 - 1))).f0) ((rd_T44 l0 (wrap64 (x3_1 - 1))).f1) ((rd_T44 l0 x3_1).f0) ((rd_T44 l0 x3_1).f1)).bind fun t111 => (if t111 = true then (spec_IsShape.l0 k1 l0 (wrap64 (x3_1 + 1))) else (some false))) else (none)) else (none)) else (spec_IsShape.l0 k1 l0 (wrap64 (x3_1 + 1)))) else (some false)) = some r := H
   have A4 := aM A40
   clear A40
   by_cases c5 : t108 = true
   rotate_left
   ·replace c5 := Bool.eq_false_iff.mpr c5
    subst c5
    have H1 : (some false) = some r := by rw [if_neg (show ¬ (false = true) by decide)] at H; exact H
    clear H
    have H := H1
    clear H1
    obtain rfl := Option.some.inj H
    try go_wp2
    have n0_ := aM (below_drew1 HB.out)
    clear HB
    have HB := n0_
    clear n0_
    have p107 : 0 ≤ (x3_1 : Int) := of_decide_eq_true za
    have q107 : x3_1 < (l0.length : Int) := of_decide_eq_true za
    obtain ⟨ad107, e107, hx107_0, hx107_1⟩ := at_T44 HR0.out x3_1 p107 q107
    have hw107_1 := hx107_1
    have hw107_0 := hx107_0
    cases e107
    replace hx107_0 := zk HB.out hx107_0
    replace hx107_1 := zk HB.out hx107_1
    replace p107 := eq_true p107
    replace q107 := eq_true q107
    refine start_ (n := 23) (S := fun w' => w'.cell? (ad107.add ((x3_1).toNat * 2)) = some (.int .i64 ((rd_T44 l0 x3_1).f0)) ∧ w'.cell? ⟨(ad107.add ((x3_1).toNat * 2)).block, (ad107.add ((x3_1).toNat * 2)).off + 1, none⟩ = some (.int .i64 ((rd_T44 l0 x3_1).f1))) (ds := []) zA39 (by kernel_rfl) rfl rfl ⟨(zk HB.out hw107_0), (zk HB.out hw107_1)⟩ (fun hHeld => ?_); refine with_tabW spec_IsShape.tab4 spec_IsShape.bits4 (fun HT_ HW_ => ?_)
    generalize wr.drew = w20 at HB hx107_0 hx107_1 hHeld ⊢
    refine zp 0 (some 10) ?_ zA40 rfl rfl (Or.inl ⟨by rfl, ?_⟩) ?_ ?_ ?_
    rotate_left
    ·intro w'
     go_simp
     with_reducible rfl
    rotate_left
    ·simp only [Act.put, xA, xB, xC, i64_w, i32_w]
     rfl
    refine zp 1 (some 11) ?_ zA41 rfl rfl (Or.inl ⟨by rfl, ?_⟩) ?_ ?_ ?_
    rotate_left
    ·intro w'
     go_simp
     with_reducible rfl
    rotate_left
    ·simp only [Act.put, xA, xB, xC, i64_w, i32_w]
     rfl
    refine zp 2 (some 12) ?_ zA42 rfl rfl (Or.inl ⟨by rfl, ?_⟩) ?_ ?_ ?_
    rotate_left
    ·intro w'
     go_simp
     with_reducible rfl
    rotate_left
    ·simp only [Act.put, xA, xB, xC, i64_w, i32_w]
     rfl
    refine zu 3 (some 13) ?_ zA43 rfl rfl (Or.inl ⟨by rfl, ?_⟩) hHeld ?_ ?_ ?_
    rotate_left
    ·rintro w' ⟨s0, s1⟩
     go_simp
     with_reducible rfl
    rotate_left
    ·simp only [Act.put, xA, xB, xC, i64_w, i32_w]
     rfl
    refine one_ (i := 4) (N := some 14) zA44 rfl rfl (one_of HT_.out (by kernel_rfl)) (by decide) (fun K hK => ?_)
    refine goes_ Try.func52 (by kernel_rfl) rfl #[.agg #[.int .i64 ((rd_T44 l0 x3_1).f0), .int .i64 ((rd_T44 l0 x3_1).f1)]] (by rfl) rfl rfl zm ?_
    with_reducible refine (spec_l02Cell.calls ((rd_T44 l0 x3_1).f0) ((rd_T44 l0 x3_1).f1) false _ A4.out).mono ?_
    rintro e w21 ⟨rfl, hb⟩
    refine ⟨_, rfl, ?_⟩
    have n0_ := aM (below_step zb hb)
    clear HB
    have HB := n0_
    clear n0_
    (try clear hb)
    (try clear hb2)
    (try clear hk)
    (try clear hi)
    refine hK.out _ _ ⟨(zk HB.out hw107_0), (zk HB.out hw107_1)⟩ (fun hHeld => ?_)
    clear hK K
    refine norm_ (a' := ?_) ?_ ?_
    rotate_left
    ·show Act.put _ (some 14) _ = _
     simp only [Act.put, xA, xB, xC, i64_w, i32_w]
     rfl
    refine zp 5 (some 15) ?_ zA45 rfl rfl (Or.inl ⟨by rfl, ?_⟩) ?_ ?_ ?_
    rotate_left
    ·intro w'
     go_simp
     with_reducible rfl
    rotate_left
    ·simp only [Act.put, xA, xB, xC, i64_w, i32_w]
     rfl
    refine zp 6 (some 16) ?_ zA46 rfl rfl (Or.inl ⟨by rfl, ?_⟩) ?_ ?_ ?_
    rotate_left
    ·intro w'
     go_simp
     with_reducible rfl
    rotate_left
    ·simp only [Act.put, xA, xB, xC, i64_w, i32_w]
     rfl
    refine zp 7 (some 17) undef zA47 rfl rfl (Or.inr ⟨by rfl, rfl⟩) ?_ ?_ ?_
    rotate_left
    ·simp only [Act.put, xA, xB, xC, i64_w, i32_w]
     rfl
    refine zp 8 (some 18) undef zA48 rfl rfl (Or.inr ⟨by rfl, rfl⟩) ?_ ?_ ?_
    rotate_left
    ·simp only [Act.put, xA, xB, xC, i64_w, i32_w]
     rfl
    refine zp 9 (some 19) undef zA49 rfl rfl (Or.inr ⟨by rfl, rfl⟩) ?_ ?_ ?_
    rotate_left
    ·simp only [Act.put, xA, xB, xC, i64_w, i32_w]
     rfl
    refine zp 10 (some 20) undef zA50 rfl rfl (Or.inr ⟨by rfl, rfl⟩) ?_ ?_ ?_
    rotate_left
    ·simp only [Act.put, xA, xB, xC, i64_w, i32_w]
     rfl
    refine zp 11 (some 21) undef zA51 rfl rfl (Or.inr ⟨by rfl, rfl⟩) ?_ ?_ ?_
    rotate_left
    ·simp only [Act.put, xA, xB, xC, i64_w, i32_w]
     rfl
    refine zp 12 (some 22) undef zA52 rfl rfl (Or.inr ⟨by rfl, rfl⟩) ?_ ?_ ?_
    rotate_left
    ·simp only [Act.put, xA, xB, xC, i64_w, i32_w]
     rfl
    refine zp 13 (some 23) undef zA53 rfl rfl (Or.inr ⟨by rfl, rfl⟩) ?_ ?_ ?_
    rotate_left
    ·simp only [Act.put, xA, xB, xC, i64_w, i32_w]
     rfl
    refine zp 14 (some 24) undef zA54 rfl rfl (Or.inr ⟨by rfl, rfl⟩) ?_ ?_ ?_
    rotate_left
    ·simp only [Act.put, xA, xB, xC, i64_w, i32_w]
     rfl
    refine zp 15 (some 25) undef zA55 rfl rfl (Or.inr ⟨by rfl, rfl⟩) ?_ ?_ ?_
    rotate_left
    ·simp only [Act.put, xA, xB, xC, i64_w, i32_w]
     rfl
    refine zp 16 (some 26) undef zA56 rfl rfl (Or.inr ⟨by rfl, rfl⟩) ?_ ?_ ?_
    rotate_left
    ·simp only [Act.put, xA, xB, xC, i64_w, i32_w]
     rfl
    refine zp 17 (some 27) undef zA57 rfl rfl (Or.inr ⟨by rfl, rfl⟩) ?_ ?_ ?_
    rotate_left
    ·simp only [Act.put, xA, xB, xC, i64_w, i32_w]
     rfl
    refine zp 18 (some 28) undef zA58 rfl rfl (Or.inr ⟨by rfl, rfl⟩) ?_ ?_ ?_
    rotate_left
    ·simp only [Act.put, xA, xB, xC, i64_w, i32_w]
     rfl
    refine zp 19 (some 29) undef zA59 rfl rfl (Or.inr ⟨by rfl, rfl⟩) ?_ ?_ ?_
    rotate_left
    ·simp only [Act.put, xA, xB, xC, i64_w, i32_w]
     rfl
    refine zp 20 (some 30) undef zA60 rfl rfl (Or.inr ⟨by rfl, rfl⟩) ?_ ?_ ?_
    rotate_left
    ·simp only [Act.put, xA, xB, xC, i64_w, i32_w]
     rfl
    refine zp 21 (some 31) undef zA61 rfl rfl (Or.inr ⟨by rfl, rfl⟩) ?_ ?_ ?_
    rotate_left
    ·simp only [Act.put, xA, xB, xC, i64_w, i32_w]
     rfl
    refine zp 22 (some 32) ?_ zA62 rfl rfl (Or.inl ⟨by rfl, ?_⟩) ?_ ?_ ?_
    rotate_left
    ·intro w'
     go_simp
     with_reducible rfl
    rotate_left
    ·simp only [Act.put, xA, xB, xC, i64_w, i32_w]
     rfl
    refine done_ (done_of HT_.out (by kernel_rfl)) ?_
    try go_wp2
    go_ret
    exact ⟨zw, zb⟩
   subst c5
   have H1 : (if x3_1 > 0 then (if 0 ≤ (wrap64 (x3_1 - 1)) then (if (wrap64 (x3_1 - 1)) < (l0.length : Int) then ((spec_l02Less.f ((rd_T44 l0 (wrap64 (x3_1 - 1))).f0) ((rd_T44 l0 (wrap64 (x3_1 - 1))).f1) ((rd_T44 l0 x3_1).f0) ((rd_T44 l0 x3_1).f1)).bind fun t111 => (if t111 = true then (spec_IsShape.l0 k1 l0 (wrap64 (x3_1 + 1))) else (some false))) else (none)) else (none)) else (spec_IsShape.l0 k1 l0 (wrap64 (x3_1 + 1)))) = some r := by rw [if_pos rfl] at H; exact H
   clear H
   have H := H1
   clear H1
   by_cases c6 : x3_1 > 0
   rotate_left
   ·rw [if_neg c6] at H
    have c6b0 : decide (0 < x3_1) = false := decide_eq_false c6
    clear c6
    have H' := aM H
    clear H
    try go_wp2
    have n0_ := aM (below_drew1 HB.out)
    clear HB
    have HB := n0_
    clear n0_
    have p107 : 0 ≤ (x3_1 : Int) := of_decide_eq_true za
    have q107 : x3_1 < (l0.length : Int) := of_decide_eq_true za
    obtain ⟨ad107, e107, hx107_0, hx107_1⟩ := at_T44 HR0.out x3_1 p107 q107
    have hw107_1 := hx107_1
    have hw107_0 := hx107_0
    cases e107
    replace hx107_0 := zk HB.out hx107_0
    replace hx107_1 := zk HB.out hx107_1
    replace p107 := eq_true p107
    replace q107 := eq_true q107
    refine start_ (n := 23) (S := fun w' => w'.cell? (ad107.add ((x3_1).toNat * 2)) = some (.int .i64 ((rd_T44 l0 x3_1).f0)) ∧ w'.cell? ⟨(ad107.add ((x3_1).toNat * 2)).block, (ad107.add ((x3_1).toNat * 2)).off + 1, none⟩ = some (.int .i64 ((rd_T44 l0 x3_1).f1))) (ds := []) zA39 (by kernel_rfl) rfl rfl ⟨(zk HB.out hw107_0), (zk HB.out hw107_1)⟩ (fun hHeld => ?_); refine with_tabW spec_IsShape.tab4 spec_IsShape.bits4 (fun HT_ HW_ => ?_)
    generalize wr.drew = w18 at HB hx107_0 hx107_1 hHeld ⊢
    refine zp 0 (some 10) ?_ zA40 rfl rfl (Or.inl ⟨by rfl, ?_⟩) ?_ ?_ ?_
    rotate_left
    ·intro w'
     go_simp
     with_reducible rfl
    rotate_left
    ·simp only [Act.put, xA, xB, xC, i64_w, i32_w]
     rfl
    refine zp 1 (some 11) ?_ zA41 rfl rfl (Or.inl ⟨by rfl, ?_⟩) ?_ ?_ ?_
    rotate_left
    ·intro w'
     go_simp
     with_reducible rfl
    rotate_left
    ·simp only [Act.put, xA, xB, xC, i64_w, i32_w]
     rfl
    refine zp 2 (some 12) ?_ zA42 rfl rfl (Or.inl ⟨by rfl, ?_⟩) ?_ ?_ ?_
    rotate_left
    ·intro w'
     go_simp
     with_reducible rfl
    rotate_left
    ·simp only [Act.put, xA, xB, xC, i64_w, i32_w]
     rfl
    refine zu 3 (some 13) ?_ zA43 rfl rfl (Or.inl ⟨by rfl, ?_⟩) hHeld ?_ ?_ ?_
    rotate_left
    ·rintro w' ⟨s0, s1⟩
     go_simp
     with_reducible rfl
    rotate_left
    ·simp only [Act.put, xA, xB, xC, i64_w, i32_w]
     rfl
    refine one_ (i := 4) (N := some 14) zA44 rfl rfl (one_of HT_.out (by kernel_rfl)) (by decide) (fun K hK => ?_)
    refine goes_ Try.func52 (by kernel_rfl) rfl #[.agg #[.int .i64 ((rd_T44 l0 x3_1).f0), .int .i64 ((rd_T44 l0 x3_1).f1)]] (by rfl) rfl rfl zm ?_
    with_reducible refine (spec_l02Cell.calls ((rd_T44 l0 x3_1).f0) ((rd_T44 l0 x3_1).f1) true _ A4.out).mono ?_
    rintro e w19 ⟨rfl, hb⟩
    refine ⟨_, rfl, ?_⟩
    have n0_ := aM (below_step zb hb)
    clear HB
    have HB := n0_
    clear n0_
    (try clear hb)
    (try clear hb2)
    (try clear hk)
    (try clear hi)
    refine hK.out _ _ ⟨(zk HB.out hw107_0), (zk HB.out hw107_1)⟩ (fun hHeld => ?_)
    clear hK K
    refine norm_ (a' := ?_) ?_ ?_
    rotate_left
    ·show Act.put _ (some 14) _ = _
     simp only [Act.put, xA, xB, xC, i64_w, i32_w]
     rfl
    refine zp 5 (some 15) ?_ zA45 rfl rfl (Or.inl ⟨by rfl, ?_⟩) ?_ ?_ ?_
    rotate_left
    ·intro w'
     go_simp
     with_reducible rfl
    rotate_left
    ·simp only [Act.put, xA, xB, xC, i64_w, i32_w]
     rfl
    refine zp 6 (some 16) ?_ zA46 rfl rfl (Or.inl ⟨by rfl, ?_⟩) ?_ ?_ ?_
    rotate_left
    ·intro w'
     go_simp
     with_reducible rfl
    rotate_left
    ·simp only [Act.put, xA, xB, xC, i64_w, i32_w]
     rfl
    refine zp 7 (some 17) ?_ zA47 rfl rfl (Or.inl ⟨by rfl, ?_⟩) ?_ ?_ ?_
    rotate_left
    ·intro w'
     go_simp
     with_reducible rfl
    rotate_left
    ·simp only [Act.put, xA, xB, xC, i64_w, i32_w]
     rfl
    refine zp 8 (some 18) ?_ zA48 rfl rfl (Or.inl ⟨by rfl, ?_⟩) ?_ ?_ ?_
    rotate_left
    ·intro w'
     go_simp
     with_reducible rfl
    rotate_left
    ·simp only [Act.put, xA, xB, xC, i64_w, i32_w]
     rfl
    refine zp 9 (some 19) ?_ zA49 rfl rfl (Or.inl ⟨by rfl, ?_⟩) ?_ ?_ ?_
    rotate_left
    ·intro w'
     go_simp
     with_reducible rfl
    rotate_left
    ·simp only [Act.put, xA, xB, xC, i64_w, i32_w]
     rfl
    refine zp 10 (some 20) undef zA50 rfl rfl (Or.inr ⟨by rfl, rfl⟩) ?_ ?_ ?_
    rotate_left
    ·simp only [Act.put, xA, xB, xC, i64_w, i32_w]
     rfl
    refine zp 11 (some 21) undef zA51 rfl rfl (Or.inr ⟨by rfl, rfl⟩) ?_ ?_ ?_
    rotate_left
    ·simp only [Act.put, xA, xB, xC, i64_w, i32_w]
     rfl
    refine zp 12 (some 22) undef zA52 rfl rfl (Or.inr ⟨by rfl, rfl⟩) ?_ ?_ ?_
    rotate_left
    ·simp only [Act.put, xA, xB, xC, i64_w, i32_w]
     rfl
    refine zp 13 (some 23) undef zA53 rfl rfl (Or.inr ⟨by rfl, rfl⟩) ?_ ?_ ?_
    rotate_left
    ·simp only [Act.put, xA, xB, xC, i64_w, i32_w]
     rfl
    refine zp 14 (some 24) undef zA54 rfl rfl (Or.inr ⟨by rfl, rfl⟩) ?_ ?_ ?_
    rotate_left
    ·simp only [Act.put, xA, xB, xC, i64_w, i32_w]
     rfl
    refine zp 15 (some 25) undef zA55 rfl rfl (Or.inr ⟨by rfl, rfl⟩) ?_ ?_ ?_
    rotate_left
    ·simp only [Act.put, xA, xB, xC, i64_w, i32_w]
     rfl
    refine zp 16 (some 26) undef zA56 rfl rfl (Or.inr ⟨by rfl, rfl⟩) ?_ ?_ ?_
    rotate_left
    ·simp only [Act.put, xA, xB, xC, i64_w, i32_w]
     rfl
    refine zp 17 (some 27) undef zA57 rfl rfl (Or.inr ⟨by rfl, rfl⟩) ?_ ?_ ?_
    rotate_left
    ·simp only [Act.put, xA, xB, xC, i64_w, i32_w]
     rfl
    refine zp 18 (some 28) undef zA58 rfl rfl (Or.inr ⟨by rfl, rfl⟩) ?_ ?_ ?_
    rotate_left
    ·simp only [Act.put, xA, xB, xC, i64_w, i32_w]
     rfl
    refine zp 19 (some 29) undef zA59 rfl rfl (Or.inr ⟨by rfl, rfl⟩) ?_ ?_ ?_
    rotate_left
    ·simp only [Act.put, xA, xB, xC, i64_w, i32_w]
     rfl
    refine zp 20 (some 30) undef zA60 rfl rfl (Or.inr ⟨by rfl, rfl⟩) ?_ ?_ ?_
    rotate_left
    ·simp only [Act.put, xA, xB, xC, i64_w, i32_w]
     rfl
    refine zp 21 (some 31) ?_ zA61 rfl rfl (Or.inl ⟨by rfl, ?_⟩) ?_ ?_ ?_
    rotate_left
    ·intro w'
     go_simp
     with_reducible rfl
    rotate_left
    ·simp only [Act.put, xA, xB, xC, i64_w, i32_w]
     rfl
    refine zp 22 (some 32) ?_ zA62 rfl rfl (Or.inl ⟨by rfl, ?_⟩) ?_ ?_ ?_
    rotate_left
    ·intro w'
     go_simp
     with_reducible rfl
    rotate_left
    ·simp only [Act.put, xA, xB, xC, i64_w, i32_w]
     rfl
    refine done_ (done_of HT_.out (by kernel_rfl)) ?_
    try go_wp2
    go_roundg k1
    case measure => have := HK1.out; omega
    case rel => exact ⟨(wrap64 (x3_1 + 1)), zr, H', ⟨by have := HK1.out; omega⟩, ⟨zb⟩⟩
   rw [if_pos c6] at H
   have c6b0 : decide (0 < x3_1) = true := decide_eq_true c6
   clear c6
   obtain ⟨ji7, hji7⟩ : ∃ j_ : Int, (wrap64 (x3_1 - 1)) = j_ := ⟨_, rfl⟩
   replace H : (if 0 ≤ (ji7) then (if (ji7) < (l0.length : Int) then ((spec_l02Less.f ((rd_T44 l0 (ji7)).f0) ((rd_T44 l0 (ji7)).f1) ((rd_T44 l0 x3_1).f0) ((rd_T44 l0 x3_1).f1)).bind fun t111 => (if t111 = true then (spec_IsShape.l0 k1 l0 (wrap64 (x3_1 + 1))) else (some false))) else (none)) else (none)) = some r := by first | (rw [hji7] at H; exact H) | (simp only [hji7] at H ⊢; exact H)
   (try rw [hji7] at A4)
   have hji7w : (IntKind.i64.wrap (x3_1 - 1)) = ji7 := (i64_w _).trans hji7
   by_cases c8 : 0 ≤ (ji7)
   rotate_left
   ·rw [if_neg c8] at H
    exact absurd H (by simp)
   rw [if_pos c8] at H
   have c8b0 : decide (0 ≤ (ji7)) = true := decide_eq_true c8
   clear c8
   by_cases c9 : (ji7) < (l0.length : Int)
   rotate_left
   ·rw [if_neg c9] at H
    exact absurd H (by simp)
   rw [if_pos c9] at H
   have c9b0 : decide ((ji7) < (l0.length : Int)) = true := decide_eq_true c9
   clear c9
   replace H := Option.bind_eq_some_iff.mp H
   obtain ⟨t111, A100, H⟩ := H
   replace H : (if t111 = true then (spec_IsShape.l0 k1 l0 (wrap64 (x3_1 + 1))) else (some false)) = some r := H
   have A10 := aM A100
   clear A100
   by_cases c11 : t111 = true
   rotate_left
   ·replace c11 := Bool.eq_false_iff.mpr c11
    subst c11
    have H1 : (some false) = some r := by rw [if_neg (show ¬ (false = true) by decide)] at H; exact H
    clear H
    have H := H1
    clear H1
    obtain rfl := Option.some.inj H
    try go_wp2
    have n0_ := aM (below_drew1 HB.out)
    clear HB
    have HB := n0_
    clear n0_
    have p107 : 0 ≤ (x3_1 : Int) := of_decide_eq_true za
    have q107 : x3_1 < (l0.length : Int) := of_decide_eq_true za
    obtain ⟨ad107, e107, hx107_0, hx107_1⟩ := at_T44 HR0.out x3_1 p107 q107
    have hw107_1 := hx107_1
    have hw107_0 := hx107_0
    cases e107
    replace hx107_0 := zk HB.out hx107_0
    replace hx107_1 := zk HB.out hx107_1
    replace p107 := eq_true p107
    replace q107 := eq_true q107
    have p109 : 0 ≤ ((ji7) : Int) := of_decide_eq_true za
    have q109 : (ji7) < (l0.length : Int) := of_decide_eq_true za
    obtain ⟨ad109, e109, hx109_0, hx109_1⟩ := at_T44 HR0.out (ji7) p109 q109
    have hw109_1 := hx109_1
    have hw109_0 := hx109_0
    obtain rfl : ad107 = ad109 := (by injection e109)
    replace hx109_0 := zk HB.out hx109_0
    replace hx109_1 := zk HB.out hx109_1
    replace p109 := eq_true p109
    replace q109 := eq_true q109
    have p110 : 0 ≤ (x3_1 : Int) := of_decide_eq_true za
    have q110 : x3_1 < (l0.length : Int) := of_decide_eq_true za
    obtain ⟨ad110, e110, hx110_0, hx110_1⟩ := at_T44 HR0.out x3_1 p110 q110
    have hw110_1 := hx110_1
    have hw110_0 := hx110_0
    obtain rfl : ad107 = ad110 := (by injection e110)
    replace hx110_0 := zk HB.out hx110_0
    replace hx110_1 := zk HB.out hx110_1
    replace p110 := eq_true p110
    replace q110 := eq_true q110
    refine start_ (n := 23) (S := fun w' => w'.cell? (ad107.add ((x3_1).toNat * 2)) = some (.int .i64 ((rd_T44 l0 x3_1).f0)) ∧ w'.cell? ⟨(ad107.add ((x3_1).toNat * 2)).block, (ad107.add ((x3_1).toNat * 2)).off + 1, none⟩ = some (.int .i64 ((rd_T44 l0 x3_1).f1)) ∧ w'.cell? (ad107.add (((ji7)).toNat * 2)) = some (.int .i64 ((rd_T44 l0 (ji7)).f0)) ∧ w'.cell? ⟨(ad107.add (((ji7)).toNat * 2)).block, (ad107.add (((ji7)).toNat * 2)).off + 1, none⟩ = some (.int .i64 ((rd_T44 l0 (ji7)).f1)) ∧ w'.cell? (ad107.add ((x3_1).toNat * 2)) = some (.int .i64 ((rd_T44 l0 x3_1).f0)) ∧ w'.cell? ⟨(ad107.add ((x3_1).toNat * 2)).block, (ad107.add ((x3_1).toNat * 2)).off + 1, none⟩ = some (.int .i64 ((rd_T44 l0 x3_1).f1))) (ds := []) zA39 (by kernel_rfl) rfl rfl ⟨(zk HB.out hw107_0), (zk HB.out hw107_1), (zk HB.out hw109_0), (zk HB.out hw109_1), (zk HB.out hw110_0), (zk HB.out hw110_1)⟩ (fun hHeld => ?_); refine with_tabW spec_IsShape.tab4 spec_IsShape.bits4 (fun HT_ HW_ => ?_)
    generalize wr.drew = w15 at HB hx107_0 hx107_1 hx109_0 hx109_1 hx110_0 hx110_1 hHeld ⊢
    refine zp 0 (some 10) ?_ zA40 rfl rfl (Or.inl ⟨by rfl, ?_⟩) ?_ ?_ ?_
    rotate_left
    ·intro w'
     go_simp
     with_reducible rfl
    rotate_left
    ·simp only [Act.put, xA, xB, xC, i64_w, i32_w]
     rfl
    refine zp 1 (some 11) ?_ zA41 rfl rfl (Or.inl ⟨by rfl, ?_⟩) ?_ ?_ ?_
    rotate_left
    ·intro w'
     go_simp
     with_reducible rfl
    rotate_left
    ·simp only [Act.put, xA, xB, xC, i64_w, i32_w]
     rfl
    refine zp 2 (some 12) ?_ zA42 rfl rfl (Or.inl ⟨by rfl, ?_⟩) ?_ ?_ ?_
    rotate_left
    ·intro w'
     go_simp
     with_reducible rfl
    rotate_left
    ·simp only [Act.put, xA, xB, xC, i64_w, i32_w]
     rfl
    refine zu 3 (some 13) ?_ zA43 rfl rfl (Or.inl ⟨by rfl, ?_⟩) hHeld ?_ ?_ ?_
    rotate_left
    ·rintro w' ⟨s0, s1, s2, s3, s4, s5⟩
     go_simp
     with_reducible rfl
    rotate_left
    ·simp only [Act.put, xA, xB, xC, i64_w, i32_w]
     rfl
    refine one_ (i := 4) (N := some 14) zA44 rfl rfl (one_of HT_.out (by kernel_rfl)) (by decide) (fun K hK => ?_)
    refine goes_ Try.func52 (by kernel_rfl) rfl #[.agg #[.int .i64 ((rd_T44 l0 x3_1).f0), .int .i64 ((rd_T44 l0 x3_1).f1)]] (by rfl) rfl rfl zm ?_
    with_reducible refine (spec_l02Cell.calls ((rd_T44 l0 x3_1).f0) ((rd_T44 l0 x3_1).f1) true _ A4.out).mono ?_
    rintro e w16 ⟨rfl, hb⟩
    refine ⟨_, rfl, ?_⟩
    have n0_ := aM (below_step zb hb)
    clear HB
    have HB := n0_
    clear n0_
    (try clear hb)
    (try clear hb2)
    (try clear hk)
    (try clear hi)
    refine hK.out _ _ ⟨(zk HB.out hw107_0), (zk HB.out hw107_1), (zk HB.out hw109_0), (zk HB.out hw109_1), (zk HB.out hw110_0), (zk HB.out hw110_1)⟩ (fun hHeld => ?_)
    clear hK K
    refine norm_ (a' := ?_) ?_ ?_
    rotate_left
    ·show Act.put _ (some 14) _ = _
     simp only [Act.put, xA, xB, xC, i64_w, i32_w]
     rfl
    refine zp 5 (some 15) ?_ zA45 rfl rfl (Or.inl ⟨by rfl, ?_⟩) ?_ ?_ ?_
    rotate_left
    ·intro w'
     go_simp
     with_reducible rfl
    rotate_left
    ·simp only [Act.put, xA, xB, xC, i64_w, i32_w]
     rfl
    refine zp 6 (some 16) ?_ zA46 rfl rfl (Or.inl ⟨by rfl, ?_⟩) ?_ ?_ ?_
    rotate_left
    ·intro w'
     go_simp
     with_reducible rfl
    rotate_left
    ·simp only [Act.put, xA, xB, xC, i64_w, i32_w]
     rfl
    refine zp 7 (some 17) ?_ zA47 rfl rfl (Or.inl ⟨by rfl, ?_⟩) ?_ ?_ ?_
    rotate_left
    ·intro w'
     go_simp
     with_reducible rfl
    rotate_left
    ·simp only [Act.put, xA, xB, xC, i64_w, i32_w]
     rfl
    refine zp 8 (some 18) ?_ zA48 rfl rfl (Or.inl ⟨by rfl, ?_⟩) ?_ ?_ ?_
    rotate_left
    ·intro w'
     go_simp
     with_reducible rfl
    rotate_left
    ·simp only [Act.put, xA, xB, xC, i64_w, i32_w]
     rfl
    refine zp 9 (some 19) ?_ zA49 rfl rfl (Or.inl ⟨by rfl, ?_⟩) ?_ ?_ ?_
    rotate_left
    ·intro w'
     go_simp
     with_reducible rfl
    rotate_left
    ·simp only [Act.put, xA, xB, xC, i64_w, i32_w]
     rfl
    refine zp 10 (some 20) ?_ zA50 rfl rfl (Or.inl ⟨by rfl, ?_⟩) ?_ ?_ ?_
    rotate_left
    ·intro w'
     go_simp
     with_reducible rfl
    rotate_left
    ·simp only [Act.put, xA, xB, xC, i64_w, i32_w]
     rfl
    refine zp 11 (some 21) ?_ zA51 rfl rfl (Or.inl ⟨by rfl, ?_⟩) ?_ ?_ ?_
    rotate_left
    ·intro w'
     go_simp
     with_reducible rfl
    rotate_left
    ·simp only [Act.put, xA, xB, xC, i64_w, i32_w]
     rfl
    refine zp 12 (some 22) ?_ zA52 rfl rfl (Or.inl ⟨by rfl, ?_⟩) ?_ ?_ ?_
    rotate_left
    ·intro w'
     go_simp
     with_reducible rfl
    rotate_left
    ·simp only [Act.put, xA, xB, xC, i64_w, i32_w]
     rfl
    refine zp 13 (some 23) ?_ zA53 rfl rfl (Or.inl ⟨by rfl, ?_⟩) ?_ ?_ ?_
    rotate_left
    ·intro w'
     go_simp
     with_reducible rfl
    rotate_left
    ·simp only [Act.put, xA, xB, xC, i64_w, i32_w]
     rfl
    refine zp 15 (some 25) ?_ zA63 rfl rfl (Or.inl ⟨by rfl, ?_⟩) ?_ ?_ ?_
    rotate_left
    ·intro w'
     go_simp
     with_reducible rfl
    rotate_left
    ·simp only [Act.put, xA, xB, xC, i64_w, i32_w]
     rfl
    refine zp 16 (some 26) ?_ zA64 rfl rfl (Or.inl ⟨by rfl, ?_⟩) ?_ ?_ ?_
    rotate_left
    ·intro w'
     go_simp
     with_reducible rfl
    rotate_left
    ·simp only [Act.put, xA, xB, xC, i64_w, i32_w]
     rfl
    refine zp 17 (some 27) ?_ zA65 rfl rfl (Or.inl ⟨by rfl, ?_⟩) ?_ ?_ ?_
    rotate_left
    ·intro w'
     go_simp
     with_reducible rfl
    rotate_left
    ·simp only [Act.put, xA, xB, xC, i64_w, i32_w]
     rfl
    refine zu 14 (some 24) ?_ zA57 rfl rfl (Or.inl ⟨by rfl, ?_⟩) hHeld ?_ ?_ ?_
    rotate_left
    ·rintro w' ⟨s0, s1, s2, s3, s4, s5⟩
     go_simp
     with_reducible rfl
    rotate_left
    ·simp only [Act.put, xA, xB, xC, i64_w, i32_w]
     rfl
    refine zu 18 (some 28) ?_ zA58 rfl rfl (Or.inl ⟨by rfl, ?_⟩) hHeld ?_ ?_ ?_
    rotate_left
    ·rintro w' ⟨s0, s1, s2, s3, s4, s5⟩
     go_simp
     with_reducible rfl
    rotate_left
    ·simp only [Act.put, xA, xB, xC, i64_w, i32_w]
     rfl
    refine one_ (i := 19) (N := some 29) zA59 rfl rfl (one_of HT_.out (by kernel_rfl)) (by decide) (fun K hK => ?_)
    refine goes_ Try.func53 (by kernel_rfl) rfl #[.agg #[.int .i64 ((rd_T44 l0 (ji7)).f0), .int .i64 ((rd_T44 l0 (ji7)).f1)], .agg #[.int .i64 ((rd_T44 l0 x3_1).f0), .int .i64 ((rd_T44 l0 x3_1).f1)]] (by rfl) rfl rfl (by (try simp only [mA, mB, mC]); first | done | (simp only [hji7]; rfl) | rfl | (simp only [lD, lT]; rfl)) ?_
    with_reducible refine (spec_l02Less.calls ((rd_T44 l0 (ji7)).f0) ((rd_T44 l0 (ji7)).f1) ((rd_T44 l0 x3_1).f0) ((rd_T44 l0 x3_1).f1) false _ A10.out).mono ?_
    rintro e w17 ⟨rfl, hb⟩
    refine ⟨_, rfl, ?_⟩
    have n0_ := aM (below_step zb hb)
    clear HB
    have HB := n0_
    clear n0_
    (try clear hb)
    (try clear hb2)
    (try clear hk)
    (try clear hi)
    refine hK.out _ _ ⟨(zk HB.out hw107_0), (zk HB.out hw107_1), (zk HB.out hw109_0), (zk HB.out hw109_1), (zk HB.out hw110_0), (zk HB.out hw110_1)⟩ (fun hHeld => ?_)
    clear hK K
    refine norm_ (a' := ?_) ?_ ?_
    rotate_left
    ·show Act.put _ (some 29) _ = _
     simp only [Act.put, xA, xB, xC, i64_w, i32_w]
     rfl
    refine zp 20 (some 30) ?_ zA60 rfl rfl (Or.inl ⟨by rfl, ?_⟩) ?_ ?_ ?_
    rotate_left
    ·intro w'
     go_simp
     with_reducible rfl
    rotate_left
    ·simp only [Act.put, xA, xB, xC, i64_w, i32_w]
     rfl
    refine zp 21 (some 31) ?_ zA61 rfl rfl (Or.inl ⟨by rfl, ?_⟩) ?_ ?_ ?_
    rotate_left
    ·intro w'
     go_simp
     with_reducible rfl
    rotate_left
    ·simp only [Act.put, xA, xB, xC, i64_w, i32_w]
     rfl
    refine zp 22 (some 32) ?_ zA62 rfl rfl (Or.inl ⟨by rfl, ?_⟩) ?_ ?_ ?_
    rotate_left
    ·intro w'
     go_simp
     with_reducible rfl
    rotate_left
    ·simp only [Act.put, xA, xB, xC, i64_w, i32_w]
     rfl
    refine done_ (done_of HT_.out (by kernel_rfl)) ?_
    try go_wp2
    go_ret
    exact ⟨by first | rfl | (simp [errW_none, errW_some] <;> rfl) | (simp only [← hji7]; first | rfl | (simp [errW_none, errW_some] <;> rfl)) | (simp [*, errW_none, errW_some] <;> rfl), zb⟩
   subst c11
   have H1 : (spec_IsShape.l0 k1 l0 (wrap64 (x3_1 + 1))) = some r := by rw [if_pos rfl] at H; exact H
   clear H
   have H := H1
   clear H1
   have H' := aM H
   clear H
   try go_wp2
   have n0_ := aM (below_drew1 HB.out)
   clear HB
   have HB := n0_
   clear n0_
   have p107 : 0 ≤ (x3_1 : Int) := of_decide_eq_true za
   have q107 : x3_1 < (l0.length : Int) := of_decide_eq_true za
   obtain ⟨ad107, e107, hx107_0, hx107_1⟩ := at_T44 HR0.out x3_1 p107 q107
   have hw107_1 := hx107_1
   have hw107_0 := hx107_0
   cases e107
   replace hx107_0 := zk HB.out hx107_0
   replace hx107_1 := zk HB.out hx107_1
   replace p107 := eq_true p107
   replace q107 := eq_true q107
   have p109 : 0 ≤ ((ji7) : Int) := of_decide_eq_true za
   have q109 : (ji7) < (l0.length : Int) := of_decide_eq_true za
   obtain ⟨ad109, e109, hx109_0, hx109_1⟩ := at_T44 HR0.out (ji7) p109 q109
   have hw109_1 := hx109_1
   have hw109_0 := hx109_0
   obtain rfl : ad107 = ad109 := (by injection e109)
   replace hx109_0 := zk HB.out hx109_0
   replace hx109_1 := zk HB.out hx109_1
   replace p109 := eq_true p109
   replace q109 := eq_true q109
   have p110 : 0 ≤ (x3_1 : Int) := of_decide_eq_true za
   have q110 : x3_1 < (l0.length : Int) := of_decide_eq_true za
   obtain ⟨ad110, e110, hx110_0, hx110_1⟩ := at_T44 HR0.out x3_1 p110 q110
   have hw110_1 := hx110_1
   have hw110_0 := hx110_0
   obtain rfl : ad107 = ad110 := (by injection e110)
   replace hx110_0 := zk HB.out hx110_0
   replace hx110_1 := zk HB.out hx110_1
   replace p110 := eq_true p110
   replace q110 := eq_true q110
   refine start_ (n := 23) (S := fun w' => w'.cell? (ad107.add ((x3_1).toNat * 2)) = some (.int .i64 ((rd_T44 l0 x3_1).f0)) ∧ w'.cell? ⟨(ad107.add ((x3_1).toNat * 2)).block, (ad107.add ((x3_1).toNat * 2)).off + 1, none⟩ = some (.int .i64 ((rd_T44 l0 x3_1).f1)) ∧ w'.cell? (ad107.add (((ji7)).toNat * 2)) = some (.int .i64 ((rd_T44 l0 (ji7)).f0)) ∧ w'.cell? ⟨(ad107.add (((ji7)).toNat * 2)).block, (ad107.add (((ji7)).toNat * 2)).off + 1, none⟩ = some (.int .i64 ((rd_T44 l0 (ji7)).f1)) ∧ w'.cell? (ad107.add ((x3_1).toNat * 2)) = some (.int .i64 ((rd_T44 l0 x3_1).f0)) ∧ w'.cell? ⟨(ad107.add ((x3_1).toNat * 2)).block, (ad107.add ((x3_1).toNat * 2)).off + 1, none⟩ = some (.int .i64 ((rd_T44 l0 x3_1).f1))) (ds := []) zA39 (by kernel_rfl) rfl rfl ⟨(zk HB.out hw107_0), (zk HB.out hw107_1), (zk HB.out hw109_0), (zk HB.out hw109_1), (zk HB.out hw110_0), (zk HB.out hw110_1)⟩ (fun hHeld => ?_); refine with_tabW spec_IsShape.tab4 spec_IsShape.bits4 (fun HT_ HW_ => ?_)
   generalize wr.drew = w12 at HB hx107_0 hx107_1 hx109_0 hx109_1 hx110_0 hx110_1 hHeld ⊢
   refine zp 0 (some 10) ?_ zA40 rfl rfl (Or.inl ⟨by rfl, ?_⟩) ?_ ?_ ?_
   rotate_left
   ·intro w'
    go_simp
    with_reducible rfl
   rotate_left
   ·simp only [Act.put, xA, xB, xC, i64_w, i32_w]
    rfl
   refine zp 1 (some 11) ?_ zA41 rfl rfl (Or.inl ⟨by rfl, ?_⟩) ?_ ?_ ?_
   rotate_left
   ·intro w'
    go_simp
    with_reducible rfl
   rotate_left
   ·simp only [Act.put, xA, xB, xC, i64_w, i32_w]
    rfl
   refine zp 2 (some 12) ?_ zA42 rfl rfl (Or.inl ⟨by rfl, ?_⟩) ?_ ?_ ?_
   rotate_left
   ·intro w'
    go_simp
    with_reducible rfl
   rotate_left
   ·simp only [Act.put, xA, xB, xC, i64_w, i32_w]
    rfl
   refine zu 3 (some 13) ?_ zA43 rfl rfl (Or.inl ⟨by rfl, ?_⟩) hHeld ?_ ?_ ?_
   rotate_left
   ·rintro w' ⟨s0, s1, s2, s3, s4, s5⟩
    go_simp
    with_reducible rfl
   rotate_left
   ·simp only [Act.put, xA, xB, xC, i64_w, i32_w]
    rfl
   refine one_ (i := 4) (N := some 14) zA44 rfl rfl (one_of HT_.out (by kernel_rfl)) (by decide) (fun K hK => ?_)
   refine goes_ Try.func52 (by kernel_rfl) rfl #[.agg #[.int .i64 ((rd_T44 l0 x3_1).f0), .int .i64 ((rd_T44 l0 x3_1).f1)]] (by rfl) rfl rfl zm ?_
   with_reducible refine (spec_l02Cell.calls ((rd_T44 l0 x3_1).f0) ((rd_T44 l0 x3_1).f1) true _ A4.out).mono ?_
   rintro e w13 ⟨rfl, hb⟩
   refine ⟨_, rfl, ?_⟩
   have n0_ := aM (below_step zb hb)
   clear HB
   have HB := n0_
   clear n0_
   (try clear hb)
   (try clear hb2)
   (try clear hk)
   (try clear hi)
   refine hK.out _ _ ⟨(zk HB.out hw107_0), (zk HB.out hw107_1), (zk HB.out hw109_0), (zk HB.out hw109_1), (zk HB.out hw110_0), (zk HB.out hw110_1)⟩ (fun hHeld => ?_)
   clear hK K
   refine norm_ (a' := ?_) ?_ ?_
   rotate_left
   ·show Act.put _ (some 14) _ = _
    simp only [Act.put, xA, xB, xC, i64_w, i32_w]
    rfl
   refine zp 5 (some 15) ?_ zA45 rfl rfl (Or.inl ⟨by rfl, ?_⟩) ?_ ?_ ?_
   rotate_left
   ·intro w'
    go_simp
    with_reducible rfl
   rotate_left
   ·simp only [Act.put, xA, xB, xC, i64_w, i32_w]
    rfl
   refine zp 6 (some 16) ?_ zA46 rfl rfl (Or.inl ⟨by rfl, ?_⟩) ?_ ?_ ?_
   rotate_left
   ·intro w'
    go_simp
    with_reducible rfl
   rotate_left
   ·simp only [Act.put, xA, xB, xC, i64_w, i32_w]
    rfl
   refine zp 7 (some 17) ?_ zA47 rfl rfl (Or.inl ⟨by rfl, ?_⟩) ?_ ?_ ?_
   rotate_left
   ·intro w'
    go_simp
    with_reducible rfl
   rotate_left
   ·simp only [Act.put, xA, xB, xC, i64_w, i32_w]
    rfl
   refine zp 8 (some 18) ?_ zA48 rfl rfl (Or.inl ⟨by rfl, ?_⟩) ?_ ?_ ?_
   rotate_left
   ·intro w'
    go_simp
    with_reducible rfl
   rotate_left
   ·simp only [Act.put, xA, xB, xC, i64_w, i32_w]
    rfl
   refine zp 9 (some 19) ?_ zA49 rfl rfl (Or.inl ⟨by rfl, ?_⟩) ?_ ?_ ?_
   rotate_left
   ·intro w'
    go_simp
    with_reducible rfl
   rotate_left
   ·simp only [Act.put, xA, xB, xC, i64_w, i32_w]
    rfl
   refine zp 10 (some 20) ?_ zA50 rfl rfl (Or.inl ⟨by rfl, ?_⟩) ?_ ?_ ?_
   rotate_left
   ·intro w'
    go_simp
    with_reducible rfl
   rotate_left
   ·simp only [Act.put, xA, xB, xC, i64_w, i32_w]
    rfl
   refine zp 11 (some 21) ?_ zA51 rfl rfl (Or.inl ⟨by rfl, ?_⟩) ?_ ?_ ?_
   rotate_left
   ·intro w'
    go_simp
    with_reducible rfl
   rotate_left
   ·simp only [Act.put, xA, xB, xC, i64_w, i32_w]
    rfl
   refine zp 12 (some 22) ?_ zA52 rfl rfl (Or.inl ⟨by rfl, ?_⟩) ?_ ?_ ?_
   rotate_left
   ·intro w'
    go_simp
    with_reducible rfl
   rotate_left
   ·simp only [Act.put, xA, xB, xC, i64_w, i32_w]
    rfl
   refine zp 13 (some 23) ?_ zA53 rfl rfl (Or.inl ⟨by rfl, ?_⟩) ?_ ?_ ?_
   rotate_left
   ·intro w'
    go_simp
    with_reducible rfl
   rotate_left
   ·simp only [Act.put, xA, xB, xC, i64_w, i32_w]
    rfl
   refine zp 15 (some 25) ?_ zA63 rfl rfl (Or.inl ⟨by rfl, ?_⟩) ?_ ?_ ?_
   rotate_left
   ·intro w'
    go_simp
    with_reducible rfl
   rotate_left
   ·simp only [Act.put, xA, xB, xC, i64_w, i32_w]
    rfl
   refine zp 16 (some 26) ?_ zA64 rfl rfl (Or.inl ⟨by rfl, ?_⟩) ?_ ?_ ?_
   rotate_left
   ·intro w'
    go_simp
    with_reducible rfl
   rotate_left
   ·simp only [Act.put, xA, xB, xC, i64_w, i32_w]
    rfl
   refine zp 17 (some 27) ?_ zA65 rfl rfl (Or.inl ⟨by rfl, ?_⟩) ?_ ?_ ?_
   rotate_left
   ·intro w'
    go_simp
    with_reducible rfl
   rotate_left
   ·simp only [Act.put, xA, xB, xC, i64_w, i32_w]
    rfl
   refine zu 14 (some 24) ?_ zA57 rfl rfl (Or.inl ⟨by rfl, ?_⟩) hHeld ?_ ?_ ?_
   rotate_left
   ·rintro w' ⟨s0, s1, s2, s3, s4, s5⟩
    go_simp
    with_reducible rfl
   rotate_left
   ·simp only [Act.put, xA, xB, xC, i64_w, i32_w]
    rfl
   refine zu 18 (some 28) ?_ zA58 rfl rfl (Or.inl ⟨by rfl, ?_⟩) hHeld ?_ ?_ ?_
   rotate_left
   ·rintro w' ⟨s0, s1, s2, s3, s4, s5⟩
    go_simp
    with_reducible rfl
   rotate_left
   ·simp only [Act.put, xA, xB, xC, i64_w, i32_w]
    rfl
   refine one_ (i := 19) (N := some 29) zA59 rfl rfl (one_of HT_.out (by kernel_rfl)) (by decide) (fun K hK => ?_)
   refine goes_ Try.func53 (by kernel_rfl) rfl #[.agg #[.int .i64 ((rd_T44 l0 (ji7)).f0), .int .i64 ((rd_T44 l0 (ji7)).f1)], .agg #[.int .i64 ((rd_T44 l0 x3_1).f0), .int .i64 ((rd_T44 l0 x3_1).f1)]] (by rfl) rfl rfl (by (try simp only [mA, mB, mC]); first | done | (simp only [hji7]; rfl) | rfl | (simp only [lD, lT]; rfl)) ?_
   with_reducible refine (spec_l02Less.calls ((rd_T44 l0 (ji7)).f0) ((rd_T44 l0 (ji7)).f1) ((rd_T44 l0 x3_1).f0) ((rd_T44 l0 x3_1).f1) true _ A10.out).mono ?_
   rintro e w14 ⟨rfl, hb⟩
   refine ⟨_, rfl, ?_⟩
   have n0_ := aM (below_step zb hb)
   clear HB
   have HB := n0_
   clear n0_
   (try clear hb)
   (try clear hb2)
   (try clear hk)
   (try clear hi)
   refine hK.out _ _ ⟨(zk HB.out hw107_0), (zk HB.out hw107_1), (zk HB.out hw109_0), (zk HB.out hw109_1), (zk HB.out hw110_0), (zk HB.out hw110_1)⟩ (fun hHeld => ?_)
   clear hK K
   refine norm_ (a' := ?_) ?_ ?_
   rotate_left
   ·show Act.put _ (some 29) _ = _
    simp only [Act.put, xA, xB, xC, i64_w, i32_w]
    rfl
   refine zp 20 (some 30) ?_ zA60 rfl rfl (Or.inl ⟨by rfl, ?_⟩) ?_ ?_ ?_
   rotate_left
   ·intro w'
    go_simp
    with_reducible rfl
   rotate_left
   ·simp only [Act.put, xA, xB, xC, i64_w, i32_w]
    rfl
   refine zp 21 (some 31) ?_ zA61 rfl rfl (Or.inl ⟨by rfl, ?_⟩) ?_ ?_ ?_
   rotate_left
   ·intro w'
    go_simp
    with_reducible rfl
   rotate_left
   ·simp only [Act.put, xA, xB, xC, i64_w, i32_w]
    rfl
   refine zp 22 (some 32) ?_ zA62 rfl rfl (Or.inl ⟨by rfl, ?_⟩) ?_ ?_ ?_
   rotate_left
   ·intro w'
    go_simp
    with_reducible rfl
   rotate_left
   ·simp only [Act.put, xA, xB, xC, i64_w, i32_w]
    rfl
   refine done_ (done_of HT_.out (by kernel_rfl)) ?_
   try go_wp2
   go_roundg k1
   case measure => have := HK1.out; omega
   case rel => exact ⟨(wrap64 (x3_1 + 1)), zr, H', ⟨by have := HK1.out; omega⟩, ⟨zb⟩⟩
def spec_l02Move.l0 : Nat → List (S44) → Int → Int → List (S44) → Int → Option ((List (S44)))
 | 0, _, _, _, _, _ => none
 | k + 1, x0, x1, x2, x7, x8 => if x8 < (x0.length : Int) then (if 0 ≤ x8 then (if x7.length < 8796093022208 then (spec_l02Move.l0 k x0 x1 x2 (x7 ++ [(⟨wrap64 (((rd_T44 x0 x8).f0) + x1), wrap64 (((rd_T44 x0 x8).f1) + x2)⟩ : S44)]) (wrap64 (x8 + 1))) else (none)) else (none)) else (some x7)
def spec_l02Move.f (k : Nat) (l0 : List (S44)) (a1 : Int) (a2 : Int) : Option ((List (S44))) := spec_l02Move.l0 k l0 a1 a2 (([] : List (S44))) 0
def spec_l02Move.T5 : Bool × List (List Nat × List Nat) := (true, [([], []), ([], []), ([], []), ([1, 2], [1, 2]), ([3], [3]), ([4], [4]), ([], []), ([5, 6], [5, 6]), ([], []), ([], []), ([8, 9], [8, 9]), ([10], [10]), ([11], [11]), ([], []), ([12, 13], [12, 13]), ([7, 14], [7, 14]), ([15], [15]), ([0, 16], [0, 16]), ([17, 17, 0, 1, 2, 3, 4, 5, 6, 7, 8, 9, 10, 11, 12, 13, 14, 15, 16, 17], [0, 17])])
def spec_l02Move.B5 : List Nat := [0, 0, 0, 6, 14, 30, 0, 126, 0, 0, 768, 1792, 3840, 0, 16128, 32766, 65534, 131071, 262143]
theorem spec_l02Move.tab5 : rtab .any (opsOf Try.f74 5) = spec_l02Move.T5 := by kernel_rfl
theorem spec_l02Move.bits5 : waitsOk spec_l02Move.T5.2 spec_l02Move.B5 = true := by kernel_rfl
theorem spec_l02Move.calls (k : Nat) (A0 : Option Addr) (c0 : Nat) (l0 : List (S44)) (a1 : Int) (a2 : Int) (r : List (S44)) (w : World) (hr0 : Kd.C k44 w A0 l0.length l0) (hc0 : l0.length ≤ c0) (h : spec_l02Move.f k l0 a1 a2 = some r) :
  Calls Try.prog 74 #[.slice A0 l0.length c0, .int .i64 a1, .int .i64 a2] w fun e w' => ∃ v0_ : Value, e = .returned (v0_) ∧ Kd.R k44 44 w' w.heap.size (fun _ => True) v0_ r ∧ Below w.heap.size w w' := by
 have hu44 := Try.underlying44
 have HR0 := aM hr0
 have HC0 := aM hc0
 clear hr0 hc0
 have HB := aM (Below.refl w.heap.size w)
 have H : (spec_l02Move.l0 k l0 a1 a2 (([] : List (S44))) 0) = some r := h
 clear h
 obtain ⟨y219, hy219⟩ : ∃ y_ : List (S44), y_ = (([] : List (S44))) := ⟨_, rfl⟩
 replace H : (spec_l02Move.l0 k l0 a1 a2 y219 0) = some r := zy H hy219
 have Ny219 := aM hy219
 clear hy219
 have H' := aM H
 clear H
 go_enter Try.func74, Try.ntmps74
 go_wp2_with (first | ((with_reducible refine gate_dst (N := 9) rfl ?_); refine Kd.R_lit k44 _ 44 ?hg (N := 9) ?hd (xs := ([] : List (S44))) (inner := []) (ok := fun _ => True) (okp := fun _ => True) ?hr ?hp (fun _ hk => hk) trivial (Below.refl _ _) (Nat.le_refl _) (by simp) ?_; (case hd => rfl); (case hg => rfl); (case hr => first | (go_simp; done) | (go_simp; rfl)); (case hp => exact (Reps.none _ _)); intro v220 w4 ho5 hb hg_ hnew_; clear hg_ hnew_; (first | rw [← Ny219.out] at ho5 | (simp only [Int.reduceToNat] at ho5; rw [← Ny219.out] at ho5)); have n0_ := aM (Kd.R_lower ho5 (below_size zb)); have n1_ := aM (below_step zb hb); clear HB; have HO221 := n0_; have HB := n1_; clear n0_ n1_; clear hb ho5))
 go_loopg [7, 8] k (fun kq v7 v8 w' => ∃ (x7_1 : List (S44)) (x8_1 : Int), v8 = .int .i64 x8_1 ∧ Aside0 (spec_l02Move.l0 kq l0 a1 a2 x7_1 x8_1 = some r) ∧ Aside0 (kq ≤ k) ∧ Aside0 (Kd.R k44 44 w' w.heap.size (fun _ => True) v7 x7_1) ∧ Aside0 (Below w.heap.size w w'))
 case atStart => exact ⟨(y219), (0), zr, H', ⟨Nat.le_refl _⟩, ⟨mR_ HO221.out⟩, ⟨zb⟩⟩
 case round =>
  clear H'
  try clear p2
  obtain ⟨x7_1, x8_1, rfl, HA, HK1, HO_7, HB⟩ := hrel
  cases gk with
  | zero => exact absurd HA.out (by simp [spec_l02Move.l0])
  | succ k1 =>
   have H := HA.out
   clear HA
   simp only [spec_l02Move.l0] at H
   by_cases c6 : x8_1 < (l0.length : Int)
   rotate_left
   ·rw [if_neg c6] at H
    have c6b0 : decide (x8_1 < (l0.length : Int)) = false := decide_eq_false c6
    clear c6
    obtain rfl := Option.some.inj H
    go_wp2
    go_ret
    exact ⟨_, zw, mR_ HO_7.out, zb⟩
   rw [if_pos c6] at H
   have c6b0 : decide (x8_1 < (l0.length : Int)) = true := decide_eq_true c6
   clear c6
   by_cases c7 : 0 ≤ x8_1
   rotate_left
   ·rw [if_neg c7] at H
    exact absurd H (by simp)
   rw [if_pos c7] at H
   have c7b0 : decide (0 ≤ x8_1) = true := decide_eq_true c7
   clear c7
   by_cases c8 : x7_1.length < 8796093022208
   rotate_left
   ·rw [if_neg c8] at H
    exact absurd H (by simp)
   rw [if_pos c8] at H
   have LMc8 := aM c8
   clear c8
   obtain ⟨y224, hy224⟩ : ∃ y_ : List (S44), y_ = (x7_1 ++ [(⟨wrap64 (((rd_T44 l0 x8_1).f0) + a1), wrap64 (((rd_T44 l0 x8_1).f1) + a2)⟩ : S44)]) := ⟨_, rfl⟩
   replace H : (spec_l02Move.l0 k1 l0 a1 a2 y224 (wrap64 (x8_1 + 1))) = some r := zy H hy224
   have Ny224 := aM hy224
   clear hy224
   have H' := aM H
   clear H
   try go_wp2
   have n0_ := aM (Kd.R_drew HO_7.out)
   have n1_ := aM (below_drew1 HB.out)
   clear HO_7
   clear HB
   have HO_7 := n0_
   have HB := n1_
   clear n0_ n1_
   have p222 : 0 ≤ (x8_1 : Int) := of_decide_eq_true za
   have q222 : x8_1 < (l0.length : Int) := of_decide_eq_true za
   obtain ⟨ad222, e222, hx222_0, hx222_1⟩ := at_T44 HR0.out x8_1 p222 q222
   have hw222_1 := hx222_1
   have hw222_0 := hx222_0
   cases e222
   replace hx222_0 := zk HB.out hx222_0
   replace hx222_1 := zk HB.out hx222_1
   replace p222 := eq_true p222
   replace q222 := eq_true q222
   have p223 : 0 ≤ (x8_1 : Int) := of_decide_eq_true za
   have q223 : x8_1 < (l0.length : Int) := of_decide_eq_true za
   obtain ⟨ad223, e223, hx223_0, hx223_1⟩ := at_T44 HR0.out x8_1 p223 q223
   have hw223_1 := hx223_1
   have hw223_0 := hx223_0
   obtain rfl : ad222 = ad223 := (by injection e223)
   replace hx223_0 := zk HB.out hx223_0
   replace hx223_1 := zk HB.out hx223_1
   replace p223 := eq_true p223
   replace q223 := eq_true q223
   refine start_ (n := 19) (S := fun w' => w'.cell? (ad222.add ((x8_1).toNat * 2)) = some (.int .i64 ((rd_T44 l0 x8_1).f0)) ∧ w'.cell? ⟨(ad222.add ((x8_1).toNat * 2)).block, (ad222.add ((x8_1).toNat * 2)).off + 1, none⟩ = some (.int .i64 ((rd_T44 l0 x8_1).f1)) ∧ w'.cell? (ad222.add ((x8_1).toNat * 2)) = some (.int .i64 ((rd_T44 l0 x8_1).f0)) ∧ w'.cell? ⟨(ad222.add ((x8_1).toNat * 2)).block, (ad222.add ((x8_1).toNat * 2)).off + 1, none⟩ = some (.int .i64 ((rd_T44 l0 x8_1).f1))) (ds := []) zA66 (by kernel_rfl) rfl rfl ⟨(zk HB.out hw222_0), (zk HB.out hw222_1), (zk HB.out hw223_0), (zk HB.out hw223_1)⟩ (fun hHeld => ?_); refine with_tabW spec_l02Move.tab5 spec_l02Move.bits5 (fun HT_ HW_ => ?_)
   generalize wr.drew = w9 at HO_7 HB hx222_0 hx222_1 hx223_0 hx223_1 hHeld ⊢
   refine zp 0 (some 16) ?_ zA67 rfl rfl (Or.inl ⟨by rfl, ?_⟩) ?_ ?_ ?_
   rotate_left
   ·intro w'
    go_simp
    with_reducible rfl
   rotate_left
   ·simp only [Act.put, xA, xB, xC, i64_w, i32_w]
    rfl
   refine zp 1 (some 17) ?_ zA68 rfl rfl (Or.inl ⟨by rfl, ?_⟩) ?_ ?_ ?_
   rotate_left
   ·intro w'
    go_simp
    with_reducible rfl
   rotate_left
   ·simp only [Act.put, xA, xB, xC, i64_w, i32_w]
    rfl
   refine zp 2 (some 18) ?_ zA69 rfl rfl (Or.inl ⟨by rfl, ?_⟩) ?_ ?_ ?_
   rotate_left
   ·intro w'
    go_simp
    with_reducible rfl
   rotate_left
   ·simp only [Act.put, xA, xB, xC, i64_w, i32_w]
    rfl
   refine zp 3 (some 19) ?_ zA70 rfl rfl (Or.inl ⟨by rfl, ?_⟩) ?_ ?_ ?_
   rotate_left
   ·intro w'
    go_simp
    with_reducible rfl
   rotate_left
   ·simp only [Act.put, xA, xB, xC, i64_w, i32_w]
    rfl
   refine zp 4 (some 20) ?_ zA71 rfl rfl (Or.inl ⟨by rfl, ?_⟩) ?_ ?_ ?_
   rotate_left
   ·intro w'
    go_simp
    with_reducible rfl
   rotate_left
   ·simp only [Act.put, xA, xB, xC, i64_w, i32_w]
    rfl
   refine zp 6 (some 22) ?_ zA72 rfl rfl (Or.inl ⟨by rfl, ?_⟩) ?_ ?_ ?_
   rotate_left
   ·intro w'
    go_simp
    with_reducible rfl
   rotate_left
   ·simp only [Act.put, xA, xB, xC, i64_w, i32_w]
    rfl
   refine zp 8 (some 24) ?_ zA73 rfl rfl (Or.inl ⟨by rfl, ?_⟩) ?_ ?_ ?_
   rotate_left
   ·intro w'
    go_simp
    with_reducible rfl
   rotate_left
   ·simp only [Act.put, xA, xB, xC, i64_w, i32_w]
    rfl
   refine zp 9 (some 25) ?_ zA74 rfl rfl (Or.inl ⟨by rfl, ?_⟩) ?_ ?_ ?_
   rotate_left
   ·intro w'
    go_simp
    with_reducible rfl
   rotate_left
   ·simp only [Act.put, xA, xB, xC, i64_w, i32_w]
    rfl
   refine zp 10 (some 26) ?_ zA75 rfl rfl (Or.inl ⟨by rfl, ?_⟩) ?_ ?_ ?_
   rotate_left
   ·intro w'
    go_simp
    with_reducible rfl
   rotate_left
   ·simp only [Act.put, xA, xB, xC, i64_w, i32_w]
    rfl
   refine zp 11 (some 27) ?_ zA76 rfl rfl (Or.inl ⟨by rfl, ?_⟩) ?_ ?_ ?_
   rotate_left
   ·intro w'
    go_simp
    with_reducible rfl
   rotate_left
   ·simp only [Act.put, xA, xB, xC, i64_w, i32_w]
    rfl
   refine zp 13 (some 29) ?_ zA77 rfl rfl (Or.inl ⟨by rfl, ?_⟩) ?_ ?_ ?_
   rotate_left
   ·intro w'
    go_simp
    with_reducible rfl
   rotate_left
   ·simp only [Act.put, xA, xB, xC, i64_w, i32_w]
    rfl
   refine zu 5 (some 21) ?_ zA78 rfl rfl (Or.inl ⟨by rfl, ?_⟩) hHeld ?_ ?_ ?_
   rotate_left
   ·rintro w' ⟨s0, s1, s2, s3⟩
    go_simp
    with_reducible rfl
   rotate_left
   ·simp only [Act.put, xA, xB, xC, i64_w, i32_w]
    rfl
   refine zp 7 (some 23) ?_ zA79 rfl rfl (Or.inl ⟨by rfl, ?_⟩) ?_ ?_ ?_
   rotate_left
   ·intro w'
    go_simp
    with_reducible rfl
   rotate_left
   ·simp only [Act.put, xA, xB, xC, i64_w, i32_w]
    rfl
   refine zu 12 (some 28) ?_ zA80 rfl rfl (Or.inl ⟨by rfl, ?_⟩) hHeld ?_ ?_ ?_
   rotate_left
   ·rintro w' ⟨s0, s1, s2, s3⟩
    go_simp
    with_reducible rfl
   rotate_left
   ·simp only [Act.put, xA, xB, xC, i64_w, i32_w]
    rfl
   refine zp 14 (some 30) ?_ zA81 rfl rfl (Or.inl ⟨by rfl, ?_⟩) ?_ ?_ ?_
   rotate_left
   ·intro w'
    go_simp
    with_reducible rfl
   rotate_left
   ·simp only [Act.put, xA, xB, xC, i64_w, i32_w]
    rfl
   refine zp 15 (some 31) ?_ zA82 rfl rfl (Or.inl ⟨by rfl, ?_⟩) ?_ ?_ ?_
   rotate_left
   ·intro w'
    go_simp
    with_reducible rfl
   rotate_left
   ·simp only [Act.put, xA, xB, xC, i64_w, i32_w]
    rfl
   refine one_ (i := 16) (N := some 32) zA83 rfl rfl (one_of HT_.out (by kernel_rfl)) (by decide) (fun K hK => ?_)
   refine value_ (w1 := ?_) (v := ?_) (by rfl) rfl ?_ ?_
   rotate_left 2
   ·go_simp
    constructor
    ·rfl
    ·rfl
   refine hK.out _ _ ⟨(World.cell?_alloc_lt _ _ _ (World.block_lt_of_cell? _ _ ((zk HB.out hw222_0)))).trans ((zk HB.out hw222_0)), (World.cell?_alloc_lt _ _ _ (World.block_lt_of_cell? _ _ ((zk HB.out hw222_1)))).trans ((zk HB.out hw222_1)), (World.cell?_alloc_lt _ _ _ (World.block_lt_of_cell? _ _ ((zk HB.out hw223_0)))).trans ((zk HB.out hw223_0)), (World.cell?_alloc_lt _ _ _ (World.block_lt_of_cell? _ _ ((zk HB.out hw223_1)))).trans ((zk HB.out hw223_1))⟩ (fun hHeld => ?_)
   clear hK K
   refine norm_ (a' := ?_) ?_ ?_
   rotate_left
   ·show Act.put _ (some 32) _ = _
    simp only [Act.put, xA, xB, xC, i64_w, i32_w]
    rfl
   refine one_ (i := 17) (N := some 33) zA84 rfl rfl (one_of HT_.out (by kernel_rfl)) (by decide) (fun K hK => ?_)
   refine Kd.R_append_step k44 (w0 := w) w.heap.size (by rfl) (.tmp 16) (.tmp 32) 26 44 (.agg #[(.int .i64 0), (.int .i64 0)]) 16 rfl Try.underlying26 info44 rfl (by decide) (by omega) u7 x7_1 (⟨wrap64 (((rd_T44 l0 x8_1).f0) + a1), wrap64 (((rd_T44 l0 x8_1).f1) + a2)⟩ : S44) [.int .i64 (wrap64 (((rd_T44 l0 x8_1).f0) + a1)), .int .i64 (wrap64 (((rd_T44 l0 x8_1).f1) + a2))] (fun _ => True) (fun _ => False) rfl rfl ?aP (fun _ hk => hk.elim) ?aF ?aO ?aB ?aS ?aL ?_
   (case aP => exact k44_mkM _ _ _ (⟨wrap64 (((rd_T44 l0 x8_1).f0) + a1), wrap64 (((rd_T44 l0 x8_1).f1) + a2)⟩ : S44))
   (case aB => exact zb)
   (case aF => exact (fun _ _ => trivial))
   (case aO => exact (mR_ HO_7.out))
   (case aS => exact (below_size zb))
   (case aL => have := LMc8.out; omega)
   intro v225 w10 ho hb hg hat
   rw [← Ny224.out] at ho
   have n0_ := aM (hb)
   have n1_ := aM (ho)
   clear HB
   clear HO_7
   have HB := n0_
   have HO226 := n1_
   clear n0_ n1_
   clear ho hb hg hat
   refine hK.out _ _ ⟨(zk HB.out hw222_0), (zk HB.out hw222_1), (zk HB.out hw223_0), (zk HB.out hw223_1)⟩ (fun hHeld => ?_)
   clear hK K
   refine norm_ (a' := ?_) ?_ ?_
   rotate_left
   ·show Act.put _ (some 33) _ = _
    simp only [Act.put, xA, xB, xC, i64_w, i32_w]
    rfl
   refine zp 18 (some 7) ?_ zA85 rfl rfl (Or.inl ⟨by rfl, ?_⟩) ?_ ?_ ?_
   rotate_left
   ·intro w'
    go_simp
    with_reducible rfl
   rotate_left
   ·simp only [Act.put, xA, xB, xC, i64_w, i32_w]
    rfl
   refine done_ (done_of HT_.out (by kernel_rfl)) ?_
   try go_wp2
   go_roundg k1
   case measure => have := HK1.out; omega
   case rel => exact ⟨(y224), (wrap64 (x8_1 + 1)), zr, H', ⟨by have := HK1.out; omega⟩, ⟨mR_ HO226.out⟩, ⟨zb⟩⟩
def spec_l02Least.l0 : Nat → List (S44) → Int → Int → Int → Option (Int × Int)
 | 0, _, _, _, _ => none
 | k + 1, x0, x4, x5, x6 => if x6 < (x0.length : Int) then (if 0 ≤ x6 then (spec_l02Least.l0 k x0 (mn x4 ((rd_T44 x0 x6).f0)) (mn x5 ((rd_T44 x0 x6).f1)) (wrap64 (x6 + 1))) else (none)) else (some (x4, x5))
def spec_l02Least.f (k : Nat) (l0 : List (S44)) : Option (Int × Int) := if 0 < (l0.length : Int) then (spec_l02Least.l0 k l0 ((rd_T44 l0 0).f0) ((rd_T44 l0 0).f1) 1) else (none)
theorem spec_l02Least.calls (k : Nat) (A0 : Option Addr) (c0 : Nat) (l0 : List (S44)) (r1 : Int) (r2 : Int) (w : World) (hr0 : Kd.C k44 w A0 l0.length l0) (hc0 : l0.length ≤ c0) (h : spec_l02Least.f k l0 = some (r1, r2)) :
  Calls Try.prog 62 #[.slice A0 l0.length c0] w fun e w' => e = .returned (.tuple #[.int .i64 r1, .int .i64 r2]) ∧ Below w.heap.size w w' := by
 have HR0 := aM hr0
 have HC0 := aM hc0
 clear hr0 hc0
 have HB := aM (Below.refl w.heap.size w)
 have H : (if 0 < (l0.length : Int) then (spec_l02Least.l0 k l0 ((rd_T44 l0 0).f0) ((rd_T44 l0 0).f1) 1) else (none)) = some (r1, r2) := h
 clear h
 by_cases c2 : 0 < (l0.length : Int)
 rotate_left
 ·rw [if_neg c2] at H
  exact absurd H (by simp)
 rw [if_pos c2] at H
 have c2b0 : decide (0 < (l0.length : Int)) = true := decide_eq_true c2
 have c2b1 : decide (0 < l0.length) = true := decide_eq_true (by omega)
 clear c2
 have H' := aM H
 clear H
 have p227 : 0 ≤ (0 : Int) := (by omega)
 have q227 : 0 < (l0.length : Int) := of_decide_eq_true za
 obtain ⟨ad227, e227, hx227_0, hx227_1⟩ := at_T44 HR0.out 0 p227 q227
 cases e227
 have qi227 : (0 < l0.length) = True := eq_true (by omega)
 (try rw [show ((0 : Int)).toNat = 0 from rfl] at hx227_0)
 (try rw [show 0 * 2 = 0 from rfl] at hx227_0)
 (try rw [Addr.add_zero'] at hx227_0)
 (try rw [show ((0 : Int)).toNat = 0 from rfl] at hx227_1)
 (try rw [show 0 * 2 = 0 from rfl] at hx227_1)
 (try rw [Addr.add_zero'] at hx227_1)
 replace p227 := eq_true p227
 replace q227 := eq_true q227
 have p228 : 0 ≤ (0 : Int) := (by omega)
 have q228 : 0 < (l0.length : Int) := of_decide_eq_true za
 obtain ⟨ad228, e228, hx228_0, hx228_1⟩ := at_T44 HR0.out 0 p228 q228
 obtain rfl : ad227 = ad228 := (by injection e228)
 have qi228 : (0 < l0.length) = True := eq_true (by omega)
 (try rw [show ((0 : Int)).toNat = 0 from rfl] at hx228_0)
 (try rw [show 0 * 2 = 0 from rfl] at hx228_0)
 (try rw [Addr.add_zero'] at hx228_0)
 (try rw [show ((0 : Int)).toNat = 0 from rfl] at hx228_1)
 (try rw [show 0 * 2 = 0 from rfl] at hx228_1)
 (try rw [Addr.add_zero'] at hx228_1)
 replace p228 := eq_true p228
 replace q228 := eq_true q228
 go_enter Try.func62, Try.ntmps62
 go_wp2
 repeat (go_quiet (fail); try go_wp2)
 go_loopg [4, 5, 6] k (fun kq v4 v5 v6 w' => ∃ (x4_1 : Int) (x5_1 : Int) (x6_1 : Int), v4 = .int .i64 x4_1 ∧ v5 = .int .i64 x5_1 ∧ v6 = .int .i64 x6_1 ∧ Aside0 (spec_l02Least.l0 kq l0 x4_1 x5_1 x6_1 = some (r1, r2)) ∧ Aside0 (kq ≤ k) ∧ Aside0 (Below w.heap.size w w'))
 case atStart => exact ⟨((rd_T44 l0 0).f0), ((rd_T44 l0 0).f1), (1), zr, zr, zr, H', ⟨Nat.le_refl _⟩, ⟨zb⟩⟩
 case round =>
  clear H'
  try clear c2
  try clear c2b0
  try clear c2b1
  try clear p2
  try clear q2
  try clear hx2
  try clear qi2
  try clear hx227_0
  try clear hx227_1
  try clear hx228_0
  try clear hx228_1
  try clear p227
  try clear p228
  try clear q227
  try clear q228
  obtain ⟨x4_1, x5_1, x6_1, rfl, rfl, rfl, HA, HK1, HB⟩ := hrel
  cases gk with
  | zero => exact absurd HA.out (by simp [spec_l02Least.l0])
  | succ k1 =>
   have H := HA.out
   clear HA
   simp only [spec_l02Least.l0] at H
   by_cases c3 : x6_1 < (l0.length : Int)
   rotate_left
   ·rw [if_neg c3] at H
    have c3b0 : decide (x6_1 < (l0.length : Int)) = false := decide_eq_false c3
    clear c3
    simp only [Option.some.injEq, Prod.mk.injEq] at H
    obtain ⟨rfl, rfl⟩ := H
    go_wp2
    repeat (go_quiet (fail); try go_wp2)
    go_ret2
    exact ⟨zw, zb⟩
   rw [if_pos c3] at H
   have c3b0 : decide (x6_1 < (l0.length : Int)) = true := decide_eq_true c3
   clear c3
   by_cases c4 : 0 ≤ x6_1
   rotate_left
   ·rw [if_neg c4] at H
    exact absurd H (by simp)
   rw [if_pos c4] at H
   have c4b0 : decide (0 ≤ x6_1) = true := decide_eq_true c4
   clear c4
   obtain ⟨ji5, hji5⟩ : ∃ j_ : Int, (mn x4_1 ((rd_T44 l0 x6_1).f0)) = j_ := ⟨_, rfl⟩
   replace H : (spec_l02Least.l0 k1 l0 ji5 (mn x5_1 ((rd_T44 l0 x6_1).f1)) (wrap64 (x6_1 + 1))) = some (r1, r2) := by first | (rw [hji5] at H; exact H) | (simp only [hji5] at H ⊢; exact H)
   have hji5_ : (if ((rd_T44 l0 x6_1).f0) < x4_1 then ((rd_T44 l0 x6_1).f0) else x4_1) = ji5 := hji5
   obtain ⟨ji6, hji6⟩ : ∃ j_ : Int, (mn x5_1 ((rd_T44 l0 x6_1).f1)) = j_ := ⟨_, rfl⟩
   replace H : (spec_l02Least.l0 k1 l0 ji5 ji6 (wrap64 (x6_1 + 1))) = some (r1, r2) := by first | (rw [hji6] at H; exact H) | (simp only [hji6] at H ⊢; exact H)
   have hji6_ : (if ((rd_T44 l0 x6_1).f1) < x5_1 then ((rd_T44 l0 x6_1).f1) else x5_1) = ji6 := hji6
   have H' := aM H
   clear H
   have p229 : 0 ≤ (x6_1 : Int) := of_decide_eq_true za
   have q229 : x6_1 < (l0.length : Int) := of_decide_eq_true za
   obtain ⟨ad229, e229, hx229_0, hx229_1⟩ := at_T44 HR0.out x6_1 p229 q229
   obtain rfl : ad227 = ad229 := (by injection e229)
   replace hx229_0 := zk HB.out hx229_0
   replace hx229_1 := zk HB.out hx229_1
   replace p229 := eq_true p229
   replace q229 := eq_true q229
   have p230 : 0 ≤ (x6_1 : Int) := of_decide_eq_true za
   have q230 : x6_1 < (l0.length : Int) := of_decide_eq_true za
   obtain ⟨ad230, e230, hx230_0, hx230_1⟩ := at_T44 HR0.out x6_1 p230 q230
   obtain rfl : ad227 = ad230 := (by injection e230)
   replace hx230_0 := zk HB.out hx230_0
   replace hx230_1 := zk HB.out hx230_1
   replace p230 := eq_true p230
   replace q230 := eq_true q230
   go_wp2
   repeat (go_quiet (fail); try go_wp2)
   go_roundg k1
   case measure => have := HK1.out; omega
   case rel => exact ⟨(ji5), (ji6), (wrap64 (x6_1 + 1)), (by first | rfl | (simp; done) | (simp only [← hji5] <;> (first | rfl | simp)) | (simp [*]; done)), (by first | rfl | (simp; done) | (simp only [← hji6] <;> (first | rfl | simp)) | (simp [*]; done)), zr, H', ⟨by have := HK1.out; omega⟩, ⟨zb⟩⟩
def spec_l02Normal.f (k : Nat) (l0 : List (S44)) : Option ((List (S44))) := (spec_l02Least.f k l0).bind fun bt231 => ((spec_l02Move.f k l0 (wrap64 (-bt231.1)) (wrap64 (-bt231.2))).bind fun t233 => (some t233))
theorem spec_l02Normal.calls (k : Nat) (A0 : Option Addr) (c0 : Nat) (l0 : List (S44)) (r : List (S44)) (w : World) (hr0 : Kd.C k44 w A0 l0.length l0) (hc0 : l0.length ≤ c0) (h : spec_l02Normal.f k l0 = some r) :
  Calls Try.prog 76 #[.slice A0 l0.length c0] w fun e w' => ∃ v0_ : Value, e = .returned (v0_) ∧ Kd.R k44 44 w' w.heap.size (fun _ => True) v0_ r ∧ Below w.heap.size w w' := by
 have HR0 := aM hr0
 have HC0 := aM hc0
 clear hr0 hc0
 have HB := aM (Below.refl w.heap.size w)
 have H : ((spec_l02Least.f k l0).bind fun bt231 => ((spec_l02Move.f k l0 (wrap64 (-bt231.1)) (wrap64 (-bt231.2))).bind fun t233 => (some t233))) = some r := h
 clear h
 replace H := Option.bind_eq_some_iff.mp H
 obtain ⟨⟨t231, t232⟩, A20, H⟩ := H
 replace H : ((spec_l02Move.f k l0 (wrap64 (-t231)) (wrap64 (-t232))).bind fun t233 => (some t233)) = some r := H
 have A2 := aM A20
 clear A20
 replace H := Option.bind_eq_some_iff.mp H
 obtain ⟨t233, A30, H⟩ := H
 replace H : (some t233) = some r := H
 have A3 := aM A30
 clear A30
 obtain rfl := Option.some.inj H
 go_enter Try.func76, Try.ntmps76
 go_wp2_with (first | ((with_reducible refine gate_callee (f := 62) rfl ?_); refine goesL_ (some 7) rfl rfl Try.func62 (by kernel_rfl) rfl #[.slice A0 l0.length c0] rfl zm ?_; (with_reducible refine (spec_l02Least.calls k _ _ l0 t231 t232 _ ?side1 ?side2 A2.out).mono ?_); (case side1 => repeat (first | exact HR0.out | (with_reducible refine Kd.C_alloc ?_ _) | (with_reducible refine Kd.C_drewN ?_ _) | (with_reducible refine Kd.C_drew ?_))); (case side2 => exact HC0.out); rintro e w4 ⟨rfl, hb⟩; refine ⟨_, rfl, ?_⟩; have n0_ := aM (below_step zb hb); clear HB; have HB := n0_; clear n0_; (try clear hb); (try clear hb2); (try clear hk); (try clear hi)) | ((with_reducible refine gate_callee (f := 74) rfl ?_); refine goesL_ (some 15) rfl rfl Try.func74 (by kernel_rfl) rfl #[.slice A0 l0.length c0, .int .i64 (wrap64 (-t231)), .int .i64 (wrap64 (-t232))] rfl zm ?_; (with_reducible refine (spec_l02Move.calls k _ _ l0 (wrap64 (-t231)) (wrap64 (-t232)) t233 _ ?side1 ?side2 A3.out).mono ?_); (case side1 => repeat (first | exact (Kd.C_below HR0.out HB.out) | (with_reducible refine Kd.C_alloc ?_ _) | (with_reducible refine Kd.C_drewN ?_ _) | (with_reducible refine Kd.C_drew ?_))); (case side2 => exact HC0.out); rintro e w5 ⟨v234, rfl, ho0, hb⟩; refine ⟨_, rfl, ?_⟩; have n0_ := aM (Kd.R_lower ho0 (below_size zb)); have n1_ := aM (below_step zb hb); clear HB; have HO235 := n0_; have HB := n1_; clear n0_ n1_; (try clear hb); (try clear hb2); (try clear hk); (try clear hi); (try clear ho0)))
 go_ret
 exact ⟨_, zw, mR_ HO235.out, zb⟩
def spec_l02Around.f (a0_0 : Int) (a0_1 : Int) : Option ((List (S44))) := some (([(⟨a0_0, wrap64 (a0_1 - 1)⟩ : S44), (⟨wrap64 (a0_0 - 1), a0_1⟩ : S44), (⟨wrap64 (a0_0 + 1), a0_1⟩ : S44), (⟨a0_0, wrap64 (a0_1 + 1)⟩ : S44)] : List (S44)))
theorem spec_l02Around.calls (a0_0 : Int) (a0_1 : Int) (r : List (S44)) (w : World) (h : spec_l02Around.f a0_0 a0_1 = some r) :
  Calls Try.prog 60 #[.agg #[.int .i64 a0_0, .int .i64 a0_1]] w fun e w' => ∃ v0_ : Value, e = .returned (v0_) ∧ Kd.R k44 44 w' w.heap.size (fun _ => True) v0_ r ∧ Below w.heap.size w w' := by
 have hu44 := Try.underlying44
 have HB := aM (Below.refl w.heap.size w)
 have H : (some (([(⟨a0_0, wrap64 (a0_1 - 1)⟩ : S44), (⟨wrap64 (a0_0 - 1), a0_1⟩ : S44), (⟨wrap64 (a0_0 + 1), a0_1⟩ : S44), (⟨a0_0, wrap64 (a0_1 + 1)⟩ : S44)] : List (S44)))) = some r := h
 clear h
 obtain ⟨y237, hy237⟩ : ∃ y_ : List (S44), y_ = (([(⟨a0_0, wrap64 (a0_1 - 1)⟩ : S44), (⟨wrap64 (a0_0 - 1), a0_1⟩ : S44), (⟨wrap64 (a0_0 + 1), a0_1⟩ : S44), (⟨a0_0, wrap64 (a0_1 + 1)⟩ : S44)] : List (S44))) := ⟨_, rfl⟩
 replace H : (some y237) = some r := zy H hy237
 have Ny237 := aM hy237
 clear hy237
 obtain rfl := Option.some.inj H
 go_enter Try.func60, Try.ntmps60
 go_wp2_with (first | ((with_reducible refine gate_dst (N := 1) rfl ?_); refine zx 1 #[.int .i64 a0_0, .int .i64 a0_1] 44 ?_; intro gb236 hg w2 hbox hb; have n0_ := aM (below_step zb hb); have n1_ := aM (hbox); have n2_ := aM ((ze : w.heap.size ≤ gb236)); have n3_ := aM ((ze : w.heap.size ≤ gb236)); clear HB; have HB := n0_; have BK236 := n1_; have GW236 := n2_; have GE236 := n3_; clear n0_ n1_ n2_ n3_ hb hbox hg; have hcz3_0 : w2.cell? ⟨gb236, 0, none⟩ = some (.int .i64 a0_0) := (blk_cell BK236.out 0).trans rfl; have hcz3_1 : w2.cell? ⟨gb236, 1, none⟩ = some (.int .i64 a0_1) := (blk_cell BK236.out 1).trans rfl; have hfz3_0 := blk_frozen BK236.out 0; have hfz3_1 := blk_frozen BK236.out 1) | ((with_reducible refine gate_dst (N := 27) rfl ?_); refine Kd.R_lit k44 _ 44 ?hg (N := 27) ?hd (xs := ([(⟨a0_0, wrap64 (a0_1 - 1)⟩ : S44), (⟨wrap64 (a0_0 - 1), a0_1⟩ : S44), (⟨wrap64 (a0_0 + 1), a0_1⟩ : S44), (⟨a0_0, wrap64 (a0_1 + 1)⟩ : S44)] : List (S44))) (inner := [.int .i64 a0_0, .int .i64 (wrap64 (a0_1 - 1)), .int .i64 (wrap64 (a0_0 - 1)), .int .i64 a0_1, .int .i64 (wrap64 (a0_0 + 1)), .int .i64 a0_1, .int .i64 a0_0, .int .i64 (wrap64 (a0_1 + 1))]) (ok := fun _ => True) (okp := fun _ => True) ?hr ?hp (fun _ hk => hk) trivial (Below.refl _ _) (Nat.le_refl _) (by simp) ?_; (case hd => rfl); (case hg => rfl); (case hr => first | (go_simp; done) | (go_simp; rfl)); (case hp => exact (Reps.c2 (show Kd.M k44 _ _ _ (⟨a0_0, wrap64 (a0_1 - 1)⟩ : S44) [.int .i64 a0_0, .int .i64 (wrap64 (a0_1 - 1))] from (k44_mkM _ _ _ (⟨a0_0, wrap64 (a0_1 - 1)⟩ : S44) )) (Reps.c2 (show Kd.M k44 _ _ _ (⟨wrap64 (a0_0 - 1), a0_1⟩ : S44) [.int .i64 (wrap64 (a0_0 - 1)), .int .i64 a0_1] from (k44_mkM _ _ _ (⟨wrap64 (a0_0 - 1), a0_1⟩ : S44) )) (Reps.c2 (show Kd.M k44 _ _ _ (⟨wrap64 (a0_0 + 1), a0_1⟩ : S44) [.int .i64 (wrap64 (a0_0 + 1)), .int .i64 a0_1] from (k44_mkM _ _ _ (⟨wrap64 (a0_0 + 1), a0_1⟩ : S44) )) (Reps.c2 (show Kd.M k44 _ _ _ (⟨a0_0, wrap64 (a0_1 + 1)⟩ : S44) [.int .i64 a0_0, .int .i64 (wrap64 (a0_1 + 1))] from (k44_mkM _ _ _ (⟨a0_0, wrap64 (a0_1 + 1)⟩ : S44) )) (Reps.none _ _)))))); intro v238 w4 ho5 hb hg_ hnew_; clear hg_ hnew_; (first | rw [← Ny237.out] at ho5 | (simp only [Int.reduceToNat] at ho5; rw [← Ny237.out] at ho5)); have n0_ := aM (Kd.R_lower (Kd.R_newB ho5 (g := gb236) (o := .cells #[.int .i64 a0_0, .int .i64 a0_1] 44 (0, 0)) (mB_ BK236.out)) (below_size (zs GE236.out))); have n1_ := aM (blk_below (g := gb236) (o := .cells #[.int .i64 a0_0, .int .i64 a0_1] 44 (0, 0)) (mB_ BK236.out) hb); have n2_ := aM (below_step (zs GE236.out) hb); clear BK236 HB; have HO239 := n0_; have BK236 := n1_; have HB := n2_; clear n0_ n1_ n2_; clear hb ho5))
 go_ret
 exact ⟨_, zw, zd1 HO239.out, zs GE236.out⟩
def impl_around.f (a0_0 : Int) (a0_1 : Int) : Option ((List (S44))) := some (([(⟨a0_0, wrap64 (a0_1 - 1)⟩ : S44), (⟨wrap64 (a0_0 - 1), a0_1⟩ : S44), (⟨wrap64 (a0_0 + 1), a0_1⟩ : S44), (⟨a0_0, wrap64 (a0_1 + 1)⟩ : S44)] : List (S44)))
theorem impl_around.calls (a0_0 : Int) (a0_1 : Int) (r : List (S44)) (w : World) (h : impl_around.f a0_0 a0_1 = some r) :
  Calls Try.prog 59 #[.agg #[.int .i64 a0_0, .int .i64 a0_1]] w fun e w' => ∃ v0_ : Value, e = .returned (v0_) ∧ Kd.R k44 44 w' w.heap.size (fun _ => True) v0_ r ∧ Below w.heap.size w w' := by
 have hu44 := Try.underlying44
 have HB := aM (Below.refl w.heap.size w)
 have H : (some (([(⟨a0_0, wrap64 (a0_1 - 1)⟩ : S44), (⟨wrap64 (a0_0 - 1), a0_1⟩ : S44), (⟨wrap64 (a0_0 + 1), a0_1⟩ : S44), (⟨a0_0, wrap64 (a0_1 + 1)⟩ : S44)] : List (S44)))) = some r := h
 clear h
 obtain ⟨y369, hy369⟩ : ∃ y_ : List (S44), y_ = (([(⟨a0_0, wrap64 (a0_1 - 1)⟩ : S44), (⟨wrap64 (a0_0 - 1), a0_1⟩ : S44), (⟨wrap64 (a0_0 + 1), a0_1⟩ : S44), (⟨a0_0, wrap64 (a0_1 + 1)⟩ : S44)] : List (S44))) := ⟨_, rfl⟩
 replace H : (some y369) = some r := zy H hy369
 have Ny369 := aM hy369
 clear hy369
 obtain rfl := Option.some.inj H
 go_enter Try.func59, Try.ntmps59
 go_wp2_with (first | ((with_reducible refine gate_dst (N := 1) rfl ?_); refine zx 1 #[.int .i64 a0_0, .int .i64 a0_1] 44 ?_; intro gb368 hg w2 hbox hb; have n0_ := aM (below_step zb hb); have n1_ := aM (hbox); have n2_ := aM ((ze : w.heap.size ≤ gb368)); have n3_ := aM ((ze : w.heap.size ≤ gb368)); clear HB; have HB := n0_; have BK368 := n1_; have GW368 := n2_; have GE368 := n3_; clear n0_ n1_ n2_ n3_ hb hbox hg; have hcz3_0 : w2.cell? ⟨gb368, 0, none⟩ = some (.int .i64 a0_0) := (blk_cell BK368.out 0).trans rfl; have hcz3_1 : w2.cell? ⟨gb368, 1, none⟩ = some (.int .i64 a0_1) := (blk_cell BK368.out 1).trans rfl; have hfz3_0 := blk_frozen BK368.out 0; have hfz3_1 := blk_frozen BK368.out 1) | ((with_reducible refine gate_dst (N := 27) rfl ?_); refine Kd.R_lit k44 _ 44 ?hg (N := 27) ?hd (xs := ([(⟨a0_0, wrap64 (a0_1 - 1)⟩ : S44), (⟨wrap64 (a0_0 - 1), a0_1⟩ : S44), (⟨wrap64 (a0_0 + 1), a0_1⟩ : S44), (⟨a0_0, wrap64 (a0_1 + 1)⟩ : S44)] : List (S44))) (inner := [.int .i64 a0_0, .int .i64 (wrap64 (a0_1 - 1)), .int .i64 (wrap64 (a0_0 - 1)), .int .i64 a0_1, .int .i64 (wrap64 (a0_0 + 1)), .int .i64 a0_1, .int .i64 a0_0, .int .i64 (wrap64 (a0_1 + 1))]) (ok := fun _ => True) (okp := fun _ => True) ?hr ?hp (fun _ hk => hk) trivial (Below.refl _ _) (Nat.le_refl _) (by simp) ?_; (case hd => rfl); (case hg => rfl); (case hr => first | (go_simp; done) | (go_simp; rfl)); (case hp => exact (Reps.c2 (show Kd.M k44 _ _ _ (⟨a0_0, wrap64 (a0_1 - 1)⟩ : S44) [.int .i64 a0_0, .int .i64 (wrap64 (a0_1 - 1))] from (k44_mkM _ _ _ (⟨a0_0, wrap64 (a0_1 - 1)⟩ : S44) )) (Reps.c2 (show Kd.M k44 _ _ _ (⟨wrap64 (a0_0 - 1), a0_1⟩ : S44) [.int .i64 (wrap64 (a0_0 - 1)), .int .i64 a0_1] from (k44_mkM _ _ _ (⟨wrap64 (a0_0 - 1), a0_1⟩ : S44) )) (Reps.c2 (show Kd.M k44 _ _ _ (⟨wrap64 (a0_0 + 1), a0_1⟩ : S44) [.int .i64 (wrap64 (a0_0 + 1)), .int .i64 a0_1] from (k44_mkM _ _ _ (⟨wrap64 (a0_0 + 1), a0_1⟩ : S44) )) (Reps.c2 (show Kd.M k44 _ _ _ (⟨a0_0, wrap64 (a0_1 + 1)⟩ : S44) [.int .i64 a0_0, .int .i64 (wrap64 (a0_1 + 1))] from (k44_mkM _ _ _ (⟨a0_0, wrap64 (a0_1 + 1)⟩ : S44) )) (Reps.none _ _)))))); intro v370 w4 ho5 hb hg_ hnew_; clear hg_ hnew_; (first | rw [← Ny369.out] at ho5 | (simp only [Int.reduceToNat] at ho5; rw [← Ny369.out] at ho5)); have n0_ := aM (Kd.R_lower (Kd.R_newB ho5 (g := gb368) (o := .cells #[.int .i64 a0_0, .int .i64 a0_1] 44 (0, 0)) (mB_ BK368.out)) (below_size (zs GE368.out))); have n1_ := aM (blk_below (g := gb368) (o := .cells #[.int .i64 a0_0, .int .i64 a0_1] 44 (0, 0)) (mB_ BK368.out) hb); have n2_ := aM (below_step (zs GE368.out) hb); clear BK368 HB; have HO371 := n0_; have BK368 := n1_; have HB := n2_; clear n0_ n1_ n2_; clear hb ho5))
 go_ret
 exact ⟨_, zw, zd1 HO371.out, zs GE368.out⟩
end Go.Proofs.Ytaecheolnpofeaa.F
end
section
namespace Go.Proofs.Ytaecheolnpofeaa.F
open Go.RowKit Go.Proofs.YtaecheolnpofeaaW.PrintWords Go.Proofs.YtaecheolnpofeaaW.PrintLast Go.Proofs.YtaecheolnpofeaaW.PrintMore
attribute [local go_sem] max2_int min2_int max_two min_two max_three min_three max_four min_four
set_option linter.unusedVariables false
set_option linter.unusedSimpArgs false
def spec_l03Code.f (k : Nat) (l0 : List (S44)) : Option (Int) := (spec_IsShape.f k l0).bind fun t414 => (if t414 = true then ((spec_l02Normal.f k l0).bind fun t415 => ((spec_IsShape.f k t415).bind fun t418 => (if t418 = true then (some 0) else (some 3)))) else (some 1))
theorem spec_l03Code.calls (k : Nat) (A0 : Option Addr) (c0 : Nat) (l0 : List (S44)) (r : Int) (w : World) (hr0 : Kd.C k44 w A0 l0.length l0) (hc0 : l0.length ≤ c0) (h : spec_l03Code.f k l0 = some r) :
  Calls Try.prog 61 #[.slice A0 l0.length c0] w fun e w' => e = .returned (.int .i64 r) ∧ Below w.heap.size w w' := by
 have HR0 := aM hr0
 have HC0 := aM hc0
 clear hr0 hc0
 have HB := aM (Below.refl w.heap.size w)
 have H : ((spec_IsShape.f k l0).bind fun t414 => (if t414 = true then ((spec_l02Normal.f k l0).bind fun t415 => ((spec_IsShape.f k t415).bind fun t418 => (if t418 = true then (some 0) else (some 3)))) else (some 1))) = some r := h
 clear h
 replace H := Option.bind_eq_some_iff.mp H
 obtain ⟨t414, A20, H⟩ := H
 replace H : (if t414 = true then ((spec_l02Normal.f k l0).bind fun t415 => ((spec_IsShape.f k t415).bind fun t418 => (if t418 = true then (some 0) else (some 3)))) else (some 1)) = some r := H
 have A2 := aM A20
 clear A20
 by_cases c3 : t414 = true
 rotate_left
 ·replace c3 := Bool.eq_false_iff.mpr c3
  subst c3
  have H1 : (some 1) = some r := by rw [if_neg (show ¬ (false = true) by decide)] at H; exact H
  clear H
  have H := H1
  clear H1
  obtain rfl := Option.some.inj H
  go_enter Try.func61, Try.ntmps61
  go_wp2_with (first | ((with_reducible refine gate_callee (f := 32) rfl ?_); refine goesL_ (some 4) rfl rfl Try.func32 (by kernel_rfl) rfl #[.slice A0 l0.length c0] rfl zm ?_; (with_reducible refine (spec_IsShape.calls k _ _ l0 false _ ?side1 ?side2 A2.out).mono ?_); (case side1 => repeat (first | exact HR0.out | (with_reducible refine Kd.C_alloc ?_ _) | (with_reducible refine Kd.C_drewN ?_ _) | (with_reducible refine Kd.C_drew ?_))); (case side2 => exact HC0.out); rintro e w15 ⟨rfl, hb⟩; refine ⟨_, rfl, ?_⟩; have n0_ := aM (below_step zb hb); clear HB; have HB := n0_; clear n0_; (try clear hb); (try clear hb2); (try clear hk); (try clear hi)))
  go_ret
  exact ⟨zw, zb⟩
 subst c3
 have H1 : ((spec_l02Normal.f k l0).bind fun t415 => ((spec_IsShape.f k t415).bind fun t418 => (if t418 = true then (some 0) else (some 3)))) = some r := by rw [if_pos rfl] at H; exact H
 clear H
 have H := H1
 clear H1
 replace H := Option.bind_eq_some_iff.mp H
 obtain ⟨t415, A40, H⟩ := H
 replace H : ((spec_IsShape.f k t415).bind fun t418 => (if t418 = true then (some 0) else (some 3))) = some r := H
 have A4 := aM A40
 clear A40
 replace H := Option.bind_eq_some_iff.mp H
 obtain ⟨t418, A50, H⟩ := H
 replace H : (if t418 = true then (some 0) else (some 3)) = some r := H
 have A5 := aM A50
 clear A50
 by_cases c6 : t418 = true
 ·subst c6
  have H1 : (some 0) = some r := by rw [if_pos rfl] at H; exact H
  clear H
  have H := H1
  clear H1
  obtain rfl := Option.some.inj H
  go_enter Try.func61, Try.ntmps61
  go_wp2_with (first | ((with_reducible refine gate_callee (f := 32) rfl ?_); refine goesL_ (some 4) rfl rfl Try.func32 (by kernel_rfl) rfl #[.slice A0 l0.length c0] rfl zm ?_; (with_reducible refine (spec_IsShape.calls k _ _ l0 true _ ?side1 ?side2 A2.out).mono ?_); (case side1 => repeat (first | exact HR0.out | (with_reducible refine Kd.C_alloc ?_ _) | (with_reducible refine Kd.C_drewN ?_ _) | (with_reducible refine Kd.C_drew ?_))); (case side2 => exact HC0.out); rintro e w7 ⟨rfl, hb⟩; refine ⟨_, rfl, ?_⟩; have n0_ := aM (below_step zb hb); clear HB; have HB := n0_; clear n0_; (try clear hb); (try clear hb2); (try clear hk); (try clear hi)) | ((with_reducible refine gate_callee (f := 76) rfl ?_); refine goesL_ (some 7) rfl rfl Try.func76 (by kernel_rfl) rfl #[.slice A0 l0.length c0] rfl zm ?_; (with_reducible refine (spec_l02Normal.calls k _ _ l0 t415 _ ?side1 ?side2 A4.out).mono ?_); (case side1 => repeat (first | exact (Kd.C_below HR0.out HB.out) | (with_reducible refine Kd.C_alloc ?_ _) | (with_reducible refine Kd.C_drewN ?_ _) | (with_reducible refine Kd.C_drew ?_))); (case side2 => exact HC0.out); rintro e w8 ⟨v416, rfl, ho0, hb⟩; refine ⟨_, rfl, ?_⟩; have n0_ := aM (Kd.R_lower ho0 (below_size zb)); have n1_ := aM (below_step zb hb); clear HB; have HO417 := n0_; have HB := n1_; clear n0_ n1_; (try clear hb); (try clear hb2); (try clear hk); (try clear hi); (try clear ho0); obtain ⟨Ao9, co9, eo9⟩ := Kd.R_slice HO417.out; subst eo9) | ((with_reducible refine gate_callee (f := 32) rfl ?_); refine goesL_ (some 8) rfl rfl Try.func32 (by kernel_rfl) rfl #[.slice Ao9 t415.length co9] rfl zm ?_; (with_reducible refine (spec_IsShape.calls k _ _ t415 true _ ?side1 ?side2 A5.out).mono ?_); (case side1 => exact zc HO417.out); (case side2 => exact (Kd.R_reads' HO417.out).2.1); rintro e w10 ⟨rfl, hb⟩; refine ⟨_, rfl, ?_⟩; have n0_ := aM (Kd.R_below (mR_ HO417.out) hb); have n1_ := aM (below_step zb hb); clear HO417 HB; have HO417 := n0_; have HB := n1_; clear n0_ n1_; (try clear hb); (try clear hb2); (try clear hk); (try clear hi)))
  go_ret
  exact ⟨zw, zb⟩
 replace c6 := Bool.eq_false_iff.mpr c6
 subst c6
 have H1 : (some 3) = some r := by rw [if_neg (show ¬ (false = true) by decide)] at H; exact H
 clear H
 have H := H1
 clear H1
 obtain rfl := Option.some.inj H
 go_enter Try.func61, Try.ntmps61
 go_wp2_with (first | ((with_reducible refine gate_callee (f := 32) rfl ?_); refine goesL_ (some 4) rfl rfl Try.func32 (by kernel_rfl) rfl #[.slice A0 l0.length c0] rfl zm ?_; (with_reducible refine (spec_IsShape.calls k _ _ l0 true _ ?side1 ?side2 A2.out).mono ?_); (case side1 => repeat (first | exact HR0.out | (with_reducible refine Kd.C_alloc ?_ _) | (with_reducible refine Kd.C_drewN ?_ _) | (with_reducible refine Kd.C_drew ?_))); (case side2 => exact HC0.out); rintro e w11 ⟨rfl, hb⟩; refine ⟨_, rfl, ?_⟩; have n0_ := aM (below_step zb hb); clear HB; have HB := n0_; clear n0_; (try clear hb); (try clear hb2); (try clear hk); (try clear hi)) | ((with_reducible refine gate_callee (f := 76) rfl ?_); refine goesL_ (some 7) rfl rfl Try.func76 (by kernel_rfl) rfl #[.slice A0 l0.length c0] rfl zm ?_; (with_reducible refine (spec_l02Normal.calls k _ _ l0 t415 _ ?side1 ?side2 A4.out).mono ?_); (case side1 => repeat (first | exact (Kd.C_below HR0.out HB.out) | (with_reducible refine Kd.C_alloc ?_ _) | (with_reducible refine Kd.C_drewN ?_ _) | (with_reducible refine Kd.C_drew ?_))); (case side2 => exact HC0.out); rintro e w12 ⟨v416, rfl, ho0, hb⟩; refine ⟨_, rfl, ?_⟩; have n0_ := aM (Kd.R_lower ho0 (below_size zb)); have n1_ := aM (below_step zb hb); clear HB; have HO417 := n0_; have HB := n1_; clear n0_ n1_; (try clear hb); (try clear hb2); (try clear hk); (try clear hi); (try clear ho0); obtain ⟨Ao13, co13, eo13⟩ := Kd.R_slice HO417.out; subst eo13) | ((with_reducible refine gate_callee (f := 32) rfl ?_); refine goesL_ (some 8) rfl rfl Try.func32 (by kernel_rfl) rfl #[.slice Ao13 t415.length co13] rfl zm ?_; (with_reducible refine (spec_IsShape.calls k _ _ t415 false _ ?side1 ?side2 A5.out).mono ?_); (case side1 => exact zc HO417.out); (case side2 => exact (Kd.R_reads' HO417.out).2.1); rintro e w14 ⟨rfl, hb⟩; refine ⟨_, rfl, ?_⟩; have n0_ := aM (Kd.R_below (mR_ HO417.out) hb); have n1_ := aM (below_step zb hb); clear HO417 HB; have HO417 := n0_; have HB := n1_; clear n0_ n1_; (try clear hb); (try clear hb2); (try clear hk); (try clear hi)))
 go_ret
 exact ⟨zw, zb⟩
def spec_l06Code.f (k : Nat) (l0 : List (S44)) : Option (Int) := (spec_l03Code.f k l0).bind fun t419 => (some t419)
theorem spec_l06Code.calls (k : Nat) (A0 : Option Addr) (c0 : Nat) (l0 : List (S44)) (r : Int) (w : World) (hr0 : Kd.C k44 w A0 l0.length l0) (hc0 : l0.length ≤ c0) (h : spec_l06Code.f k l0 = some r) :
  Calls Try.prog 43 #[.slice A0 l0.length c0] w fun e w' => e = .returned (.int .i64 r) ∧ Below w.heap.size w w' := by
 have HR0 := aM hr0
 have HC0 := aM hc0
 clear hr0 hc0
 have HB := aM (Below.refl w.heap.size w)
 have H : ((spec_l03Code.f k l0).bind fun t419 => (some t419)) = some r := h
 clear h
 replace H := Option.bind_eq_some_iff.mp H
 obtain ⟨t419, A20, H⟩ := H
 replace H : (some t419) = some r := H
 have A2 := aM A20
 clear A20
 obtain rfl := Option.some.inj H
 go_enter Try.func43, Try.ntmps43
 go_wp2_with (first | ((with_reducible refine gate_callee (f := 61) rfl ?_); refine goesL_ (some 4) rfl rfl Try.func61 (by kernel_rfl) rfl #[.slice A0 l0.length c0] rfl zm ?_; (with_reducible refine (spec_l03Code.calls k _ _ l0 t419 _ ?side1 ?side2 A2.out).mono ?_); (case side1 => repeat (first | exact HR0.out | (with_reducible refine Kd.C_alloc ?_ _) | (with_reducible refine Kd.C_drewN ?_ _) | (with_reducible refine Kd.C_drew ?_))); (case side2 => exact HC0.out); rintro e w3 ⟨rfl, hb⟩; refine ⟨_, rfl, ?_⟩; have n0_ := aM (below_step zb hb); clear HB; have HB := n0_; clear n0_; (try clear hb); (try clear hb2); (try clear hk); (try clear hi)))
 go_ret
 exact ⟨zw, zb⟩
def spec_l04Size.l0 : Nat → List (S44) → Int → Int → Int → Int → Int → Option (Int × Int)
 | 0, _, _, _, _, _, _ => none
 | k + 1, x0, x4, x5, x6, x7, x8 => if x8 < (x0.length : Int) then (if 0 ≤ x8 then (spec_l04Size.l0 k x0 x4 x5 (mx x6 (wrap64 ((wrap64 (((rd_T44 x0 x8).f0) - x4)) + 1))) (mx x7 (wrap64 ((wrap64 (((rd_T44 x0 x8).f1) - x5)) + 1))) (wrap64 (x8 + 1))) else (none)) else (some (x6, x7))
def spec_l04Size.f (k : Nat) (l0 : List (S44)) : Option (Int × Int) := (spec_l02Least.f k l0).bind fun bt420 => (spec_l04Size.l0 k l0 bt420.1 bt420.2 0 0 0)
theorem spec_l04Size.calls (k : Nat) (A0 : Option Addr) (c0 : Nat) (l0 : List (S44)) (r1 : Int) (r2 : Int) (w : World) (hr0 : Kd.C k44 w A0 l0.length l0) (hc0 : l0.length ≤ c0) (h : spec_l04Size.f k l0 = some (r1, r2)) :
  Calls Try.prog 63 #[.slice A0 l0.length c0] w fun e w' => e = .returned (.tuple #[.int .i64 r1, .int .i64 r2]) ∧ Below w.heap.size w w' := by
 have HR0 := aM hr0
 have HC0 := aM hc0
 clear hr0 hc0
 have HB := aM (Below.refl w.heap.size w)
 have H : ((spec_l02Least.f k l0).bind fun bt420 => (spec_l04Size.l0 k l0 bt420.1 bt420.2 0 0 0)) = some (r1, r2) := h
 clear h
 replace H := Option.bind_eq_some_iff.mp H
 obtain ⟨⟨t420, t421⟩, A20, H⟩ := H
 replace H : (spec_l04Size.l0 k l0 t420 t421 0 0 0) = some (r1, r2) := H
 have A2 := aM A20
 clear A20
 have H' := aM H
 clear H
 go_enter Try.func63, Try.ntmps63
 go_wp2_with (first | ((with_reducible refine gate_callee (f := 62) rfl ?_); refine goesL_ (some 11) rfl rfl Try.func62 (by kernel_rfl) rfl #[.slice A0 l0.length c0] rfl zm ?_; (with_reducible refine (spec_l02Least.calls k _ _ l0 t420 t421 _ ?side1 ?side2 A2.out).mono ?_); (case side1 => repeat (first | exact HR0.out | (with_reducible refine Kd.C_alloc ?_ _) | (with_reducible refine Kd.C_drewN ?_ _) | (with_reducible refine Kd.C_drew ?_))); (case side2 => exact HC0.out); rintro e w3 ⟨rfl, hb⟩; refine ⟨_, rfl, ?_⟩; have n0_ := aM (below_step zb hb); clear HB; have HB := n0_; clear n0_; (try clear hb); (try clear hb2); (try clear hk); (try clear hi)))
 go_loopg [6, 7, 8] k (fun kq v6 v7 v8 w' => ∃ (x6_1 : Int) (x7_1 : Int) (x8_1 : Int), v6 = .int .i64 x6_1 ∧ v7 = .int .i64 x7_1 ∧ v8 = .int .i64 x8_1 ∧ Aside0 (spec_l04Size.l0 kq l0 t420 t421 x6_1 x7_1 x8_1 = some (r1, r2)) ∧ Aside0 (kq ≤ k) ∧ Aside0 (Below w.heap.size w w'))
 case atStart => exact ⟨(0), (0), (0), zr, zr, zr, H', ⟨Nat.le_refl _⟩, ⟨zb⟩⟩
 case round =>
  clear H'
  try clear p2
  obtain ⟨x6_1, x7_1, x8_1, rfl, rfl, rfl, HA, HK1, HB⟩ := hrel
  cases gk with
  | zero => exact absurd HA.out (by simp [spec_l04Size.l0])
  | succ k1 =>
   have H := HA.out
   clear HA
   simp only [spec_l04Size.l0] at H
   by_cases c4 : x8_1 < (l0.length : Int)
   rotate_left
   ·rw [if_neg c4] at H
    have c4b0 : decide (x8_1 < (l0.length : Int)) = false := decide_eq_false c4
    clear c4
    simp only [Option.some.injEq, Prod.mk.injEq] at H
    obtain ⟨rfl, rfl⟩ := H
    go_wp2
    go_ret2
    exact ⟨zw, zb⟩
   rw [if_pos c4] at H
   have c4b0 : decide (x8_1 < (l0.length : Int)) = true := decide_eq_true c4
   clear c4
   by_cases c5 : 0 ≤ x8_1
   rotate_left
   ·rw [if_neg c5] at H
    exact absurd H (by simp)
   rw [if_pos c5] at H
   have c5b0 : decide (0 ≤ x8_1) = true := decide_eq_true c5
   clear c5
   obtain ⟨ji6, hji6⟩ : ∃ j_ : Int, (mx x6_1 (wrap64 ((wrap64 (((rd_T44 l0 x8_1).f0) - t420)) + 1))) = j_ := ⟨_, rfl⟩
   replace H : (spec_l04Size.l0 k1 l0 t420 t421 ji6 (mx x7_1 (wrap64 ((wrap64 (((rd_T44 l0 x8_1).f1) - t421)) + 1))) (wrap64 (x8_1 + 1))) = some (r1, r2) := by first | (rw [hji6] at H; exact H) | (simp only [hji6] at H ⊢; exact H)
   have hji6_ : (if x6_1 < (wrap64 ((wrap64 (((rd_T44 l0 x8_1).f0) - t420)) + 1)) then (wrap64 ((wrap64 (((rd_T44 l0 x8_1).f0) - t420)) + 1)) else x6_1) = ji6 := hji6
   obtain ⟨ji7, hji7⟩ : ∃ j_ : Int, (mx x7_1 (wrap64 ((wrap64 (((rd_T44 l0 x8_1).f1) - t421)) + 1))) = j_ := ⟨_, rfl⟩
   replace H : (spec_l04Size.l0 k1 l0 t420 t421 ji6 ji7 (wrap64 (x8_1 + 1))) = some (r1, r2) := by first | (rw [hji7] at H; exact H) | (simp only [hji7] at H ⊢; exact H)
   have hji7_ : (if x7_1 < (wrap64 ((wrap64 (((rd_T44 l0 x8_1).f1) - t421)) + 1)) then (wrap64 ((wrap64 (((rd_T44 l0 x8_1).f1) - t421)) + 1)) else x7_1) = ji7 := hji7
   have H' := aM H
   clear H
   have p422 : 0 ≤ (x8_1 : Int) := of_decide_eq_true za
   have q422 : x8_1 < (l0.length : Int) := of_decide_eq_true za
   obtain ⟨ad422, e422, hx422_0, hx422_1⟩ := at_T44 HR0.out x8_1 p422 q422
   cases e422
   replace hx422_0 := zk HB.out hx422_0
   replace hx422_1 := zk HB.out hx422_1
   replace p422 := eq_true p422
   replace q422 := eq_true q422
   have p423 : 0 ≤ (x8_1 : Int) := of_decide_eq_true za
   have q423 : x8_1 < (l0.length : Int) := of_decide_eq_true za
   obtain ⟨ad423, e423, hx423_0, hx423_1⟩ := at_T44 HR0.out x8_1 p423 q423
   obtain rfl : ad422 = ad423 := (by injection e423)
   replace hx423_0 := zk HB.out hx423_0
   replace hx423_1 := zk HB.out hx423_1
   replace p423 := eq_true p423
   replace q423 := eq_true q423
   go_wp2
   go_roundg k1
   case measure => have := HK1.out; omega
   case rel => exact ⟨(ji6), (ji7), (wrap64 (x8_1 + 1)), (by first | rfl | (simp; done) | (simp only [← hji6] <;> (first | rfl | simp)) | (simp [*]; done)), (by first | rfl | (simp; done) | (simp only [← hji7] <;> (first | rfl | simp)) | (simp [*]; done)), zr, H', ⟨by have := HK1.out; omega⟩, ⟨zb⟩⟩
mutual
def spec_l02Parts.l0 : Nat → List (S44) → List Int → Int → Option (List Int)
 | 0, _, _, _ => none
 | k + 1, x0, x3, x4 => if x4 < (x0.length : Int) then (if x3.length < 17592186044416 then (spec_l02Parts.l0 k x0 (x3 ++ [(-1)]) (wrap64 (x4 + 1))) else (none)) else (spec_l02Parts.l1 k x0 x3 0)
def spec_l02Parts.l1 : Nat → List (S44) → List Int → Int → Option (List Int)
 | 0, _, _, _ => none
 | k + 1, x0, x3, x5 => if x5 < (x0.length : Int) then (if 0 ≤ x5 then (if x5 < (x3.length : Int) then (if (rd x3 x5) ≥ 0 then (spec_l02Parts.l1 k x0 x3 (wrap64 (x5 + 1))) else (spec_l02Parts.l2 k x0 (x3.set (x5 : Int).toNat x5) x5 (([x5] : List Int)))) else (none)) else (none)) else (some x3)
def spec_l02Parts.l2 : Nat → List (S44) → List Int → Int → List Int → Option (List Int)
 | 0, _, _, _, _ => none
 | k + 1, x0, x3, x5, x6 => if (x6.length : Int) > 0 then (if 0 < (x6.length : Int) then (if 0 ≤ (rd x6 0) then (if (rd x6 0) < (x0.length : Int) then ((spec_l02Around.f ((rd_T44 x0 (rd x6 0)).f0) ((rd_T44 x0 (rd x6 0)).f1)).bind fun t437 => (if 1 ≤ (x6.length : Int) then (spec_l02Parts.l3 k x0 x3 x5 (x6.drop (1 : Int).toNat) t437 0) else (none))) else (none)) else (none)) else (none)) else (spec_l02Parts.l1 k x0 x3 (wrap64 (x5 + 1)))
def spec_l02Parts.l3 : Nat → List (S44) → List Int → Int → List Int → List (S44) → Int → Option (List Int)
 | 0, _, _, _, _, _, _ => none
 | k + 1, x0, x3, x5, x6, x7, x8 => if x8 < 4 then (if 0 ≤ x8 then (if x8 < (x7.length : Int) then ((spec_l02Index.f k x0 ((rd_T44 x7 x8).f0) ((rd_T44 x7 x8).f1)).bind fun t444 => (if t444 ≥ 0 then (if 0 ≤ t444 then (if t444 < (x3.length : Int) then (if (rd x3 t444) < 0 then (if x6.length < 17592186044416 then (spec_l02Parts.l3 k x0 (x3.set (t444 : Int).toNat x5) x5 (x6 ++ [t444]) x7 (wrap64 (x8 + 1))) else (none)) else (spec_l02Parts.l3 k x0 x3 x5 x6 x7 (wrap64 (x8 + 1)))) else (none)) else (none)) else (spec_l02Parts.l3 k x0 x3 x5 x6 x7 (wrap64 (x8 + 1))))) else (none)) else (none)) else (spec_l02Parts.l2 k x0 x3 x5 x6)
end
def spec_l02Parts.f (k : Nat) (l0 : List (S44)) : Option (List Int) := spec_l02Parts.l0 k l0 (([] : List Int)) 0
end Go.Proofs.Ytaecheolnpofeaa.F
end
