/- The row of FnExactLayersOf, with what it needs: text 5 of 6. -/
import Derived.Test.YtdcpahfpnjnmcaaKLO3
import Derived.ChangeArms
import Derived.ChangeSame
import Derived.Deep.Fields
import Derived.Deep.Slices
import Derived.Deep.Strs
import Derived.WideShapes
set_option maxHeartbeats 8000000
set_option maxRecDepth 100000
section
namespace Go.Proofs.Ytdcpahfpnjnmcaa.F
open Go.RowKit Go.Proofs.YtdcpahfpnjnmcaaW.PrintWords Go.Proofs.YtdcpahfpnjnmcaaW.PrintLast Go.Proofs.YtdcpahfpnjnmcaaW.PrintMore
attribute [local go_sem] max2_int min2_int max_two min_two max_three min_three max_four min_four
set_option linter.unusedVariables false
set_option linter.unusedSimpArgs false
theorem laws_FnExactLayersOf.calls (k : Nat) (A0 : Option Addr) (c0 : Nat) (l0 : List (S68)) (r : Bool) (w : World) (hr0 : Kd.C k68 w A0 l0.length l0) (hc0 : l0.length ≤ c0) (h : laws_FnExactLayersOf.f k l0 = some r) :
  Calls Try.prog 4 #[.slice A0 l0.length c0] w fun e w' => e = .returned (.bool r) ∧ Below w.heap.size w w' := by
 have HR0 := aM hr0
 have HC0 := aM hc0
 clear hr0 hc0
 have HB := aM (Below.refl w.heap.size w)
 have H : ((laws_szCubeS.f l0 1048576).bind fun t267 => (if t267 < 0 then (some true) else ((laws_toCubeS.f k l0).bind fun t268 => ((spec_LayersOf.f k t268).bind fun bt271 => ((laws_toCubeS.f k l0).bind fun t275 => ((impl_LayersOf.f k t275).bind fun bt278 => ((laws_eqCellSS.f k bt278.1 bt271.1).bind fun t282 => (if t282 = true then (laws_FnExactLayersOf.j0 k l0 bt271.1 bt271.2 t275 bt278.1 bt278.2 (bt278.2 != bt271.2)) else (laws_FnExactLayersOf.j0 k l0 bt271.1 bt271.2 t275 bt278.1 bt278.2 true))))))))) = some r := h
 clear h
 replace H := Option.bind_eq_some_iff.mp H
 obtain ⟨t267, A20, H⟩ := H
 replace H : (if t267 < 0 then (some true) else ((laws_toCubeS.f k l0).bind fun t268 => ((spec_LayersOf.f k t268).bind fun bt271 => ((laws_toCubeS.f k l0).bind fun t275 => ((impl_LayersOf.f k t275).bind fun bt278 => ((laws_eqCellSS.f k bt278.1 bt271.1).bind fun t282 => (if t282 = true then (laws_FnExactLayersOf.j0 k l0 bt271.1 bt271.2 t275 bt278.1 bt278.2 (bt278.2 != bt271.2)) else (laws_FnExactLayersOf.j0 k l0 bt271.1 bt271.2 t275 bt278.1 bt278.2 true)))))))) = some r := H
 have A2 := aM A20
 clear A20
 by_cases c3 : t267 < 0
 ·rw [if_pos c3] at H
  have c3b0 : decide (t267 < 0) = true := decide_eq_true c3
  clear c3
  obtain rfl := Option.some.inj H
  go_enter Try.func4, Try.ntmps4
  go_wp2_with (first | ((with_reducible refine gate_callee (f := 13) rfl ?_); refine goesL_ (some 16) rfl rfl Try.func13 (by kernel_rfl) rfl #[.slice A0 l0.length c0, .int .i64 1048576] rfl zm ?_; (with_reducible refine (laws_szCubeS.calls _ _ l0 1048576 t267 _ ?side1 ?side2 A2.out).mono ?_); (case side1 => repeat (first | exact HR0.out | (with_reducible refine Kd.C_alloc ?_ _) | (with_reducible refine Kd.C_drewN ?_ _) | (with_reducible refine Kd.C_drew ?_))); (case side2 => exact HC0.out); rintro e w' ⟨rfl, ⟨nd, rfl⟩⟩; refine ⟨_, rfl, ?_⟩))
  go_ret
  exact ⟨zw, zb⟩
 rw [if_neg c3] at H
 have c3b0 : decide (t267 < 0) = false := decide_eq_false c3
 clear c3
 replace H := Option.bind_eq_some_iff.mp H
 obtain ⟨t268, A40, H⟩ := H
 replace H : ((spec_LayersOf.f k t268).bind fun bt271 => ((laws_toCubeS.f k l0).bind fun t275 => ((impl_LayersOf.f k t275).bind fun bt278 => ((laws_eqCellSS.f k bt278.1 bt271.1).bind fun t282 => (if t282 = true then (laws_FnExactLayersOf.j0 k l0 bt271.1 bt271.2 t275 bt278.1 bt278.2 (bt278.2 != bt271.2)) else (laws_FnExactLayersOf.j0 k l0 bt271.1 bt271.2 t275 bt278.1 bt278.2 true)))))) = some r := H
 have A4 := aM A40
 clear A40
 replace H := Option.bind_eq_some_iff.mp H
 obtain ⟨⟨t271, t272⟩, A50, H⟩ := H
 replace H : ((laws_toCubeS.f k l0).bind fun t275 => ((impl_LayersOf.f k t275).bind fun bt278 => ((laws_eqCellSS.f k bt278.1 t271).bind fun t282 => (if t282 = true then (laws_FnExactLayersOf.j0 k l0 t271 t272 t275 bt278.1 bt278.2 (bt278.2 != t272)) else (laws_FnExactLayersOf.j0 k l0 t271 t272 t275 bt278.1 bt278.2 true))))) = some r := H
 have A5 := aM A50
 clear A50
 replace H := Option.bind_eq_some_iff.mp H
 obtain ⟨t275, A60, H⟩ := H
 replace H : ((impl_LayersOf.f k t275).bind fun bt278 => ((laws_eqCellSS.f k bt278.1 t271).bind fun t282 => (if t282 = true then (laws_FnExactLayersOf.j0 k l0 t271 t272 t275 bt278.1 bt278.2 (bt278.2 != t272)) else (laws_FnExactLayersOf.j0 k l0 t271 t272 t275 bt278.1 bt278.2 true)))) = some r := H
 have A6 := aM A60
 clear A60
 replace H := Option.bind_eq_some_iff.mp H
 obtain ⟨⟨t278, t279⟩, A70, H⟩ := H
 replace H : ((laws_eqCellSS.f k t278 t271).bind fun t282 => (if t282 = true then (laws_FnExactLayersOf.j0 k l0 t271 t272 t275 t278 t279 (t279 != t272)) else (laws_FnExactLayersOf.j0 k l0 t271 t272 t275 t278 t279 true))) = some r := H
 have A7 := aM A70
 clear A70
 have HC8 := aM H
 clear H
 go_enter Try.func4, Try.ntmps4
 go_upto_region 8 with (first | ((with_reducible refine gate_callee (f := 13) rfl ?_); refine goesL_ (some 16) rfl rfl Try.func13 (by kernel_rfl) rfl #[.slice A0 l0.length c0, .int .i64 1048576] rfl zm ?_; (with_reducible refine (laws_szCubeS.calls _ _ l0 1048576 t267 _ ?side1 ?side2 A2.out).mono ?_); (case side1 => repeat (first | exact HR0.out | (with_reducible refine Kd.C_alloc ?_ _) | (with_reducible refine Kd.C_drewN ?_ _) | (with_reducible refine Kd.C_drew ?_))); (case side2 => exact HC0.out); rintro e w' ⟨rfl, ⟨nd, rfl⟩⟩; refine ⟨_, rfl, ?_⟩) | ((with_reducible refine gate_callee (f := 15) rfl ?_); refine goesL_ (some 21) rfl rfl Try.func15 (by kernel_rfl) rfl #[.slice A0 l0.length c0] rfl zm ?_; (with_reducible refine (laws_toCubeS.calls k _ _ l0 t268 _ ?side1 ?side2 A4.out).mono ?_); (case side1 => repeat (first | exact HR0.out | (with_reducible refine Kd.C_alloc ?_ _) | (with_reducible refine Kd.C_drewN ?_ _) | (with_reducible refine Kd.C_drew ?_))); (case side2 => exact HC0.out); rintro e w9 ⟨v269, rfl, ho0, hb⟩; refine ⟨_, rfl, ?_⟩; have n0_ := aM (Kd.R_lower ho0 (below_size zb)); have n1_ := aM (below_step zb hb); clear HB; have HO270 := n0_; have HB := n1_; clear n0_ n1_; (try clear hb); (try clear hb2); (try clear hk); (try clear hi); (try clear ho0); obtain ⟨Ao10, co10, eo10⟩ := Kd.R_slice HO270.out; subst eo10) | ((with_reducible refine gate_callee (f := 14) rfl ?_); refine goesL_ (some 22) rfl rfl Try.func14 (by kernel_rfl) rfl #[.slice Ao10 t268.length co10] rfl zm ?_; (with_reducible refine (spec_LayersOf.calls k _ _ t268 t271 t272 _ ?side1 ?side2 A5.out).mono ?_); (case side1 => exact zc HO270.out); (case side2 => exact (Kd.R_reads' HO270.out).2.1); rintro e w11 ⟨v273, rfl, ho0, hb⟩; refine ⟨_, rfl, ?_⟩; have n0_ := aM (Kd.R_below (mR_ HO270.out) hb); have n1_ := aM (Kd.S_lower ho0 (below_size zb)); have n2_ := aM (below_step zb hb); clear HO270 HB; have HO270 := n0_; have HO274 := n1_; have HB := n2_; clear n0_ n1_ n2_; (try clear hb); (try clear hb2); (try clear hk); (try clear hi); (try clear ho0)) | ((with_reducible refine gate_callee (f := 15) rfl ?_); refine goesL_ (some 26) rfl rfl Try.func15 (by kernel_rfl) rfl #[.slice A0 l0.length c0] rfl zm ?_; (with_reducible refine (laws_toCubeS.calls k _ _ l0 t275 _ ?side1 ?side2 A6.out).mono ?_); (case side1 => repeat (first | exact (Kd.C_below HR0.out HB.out) | (with_reducible refine Kd.C_alloc ?_ _) | (with_reducible refine Kd.C_drewN ?_ _) | (with_reducible refine Kd.C_drew ?_))); (case side2 => exact HC0.out); rintro e w12 ⟨v276, rfl, ho0, hb⟩; refine ⟨_, rfl, ?_⟩; have n0_ := aM (Kd.R_elder' (mR_ HO270.out) (Kd.R_base ho0) hb); have n1_ := aM (Kd.S_below (mS_ HO274.out) hb); have n2_ := aM (Kd.R_lower (Kd.R_new' ho0 (Kd.R_lt (mR_ HO270.out))) (below_size zb)); have n3_ := aM (below_step zb hb); clear HO270 HO274 HB; have HO270 := n0_; have HO274 := n1_; have HO277 := n2_; have HB := n3_; clear n0_ n1_ n2_ n3_; (try clear hb); (try clear hb2); (try clear hk); (try clear hi); (try clear ho0); obtain ⟨Ao13, co13, eo13⟩ := Kd.R_slice HO277.out; subst eo13) | ((with_reducible refine gate_callee (f := 16) rfl ?_); refine goesL_ (some 29) rfl rfl Try.func16 (by kernel_rfl) rfl #[.slice Ao13 t275.length co13] rfl zm ?_; (with_reducible refine (impl_LayersOf.calls k _ _ t275 t278 t279 _ ?side1 ?side2 A7.out).mono ?_); (case side1 => exact zc HO277.out); (case side2 => exact (Kd.R_reads' HO277.out).2.1); rintro e w14 ⟨v280, rfl, ho0, hb⟩; refine ⟨_, rfl, ?_⟩; have n0_ := aM (Kd.R_below (mR_ HO270.out) hb); obtain ⟨NZ_, nA_, nB_⟩ := S_part_ (mS_ HO274.out) ho0 hb (below_size zb); have n1_ := aM nA_; have n2_ := aM (Kd.R_below (mR_ HO277.out) hb); have n3_ := aM nB_; have n4_ := aM (below_step zb hb); clear HO270 HO274 HO277 HB; have HO270 := n0_; have HO274 := n1_; have HO277 := n2_; have HO281 := n3_; have HB := n4_; clear n0_ n1_ n2_ n3_ n4_; (try clear hb); (try clear hb2); (try clear hk); (try clear hi); (try clear ho0)))
 (try simp only [Act.put, xA, xB, xC])
 go_cut [40] (fun v40 wc => ∃ (kq : Nat) (x40_7 : Bool), v40 = .bool x40_7 ∧ Aside0 (laws_FnExactLayersOf.j0 kq l0 t271 t272 t275 t278 t279 x40_7 = some r) ∧ Aside0 (kq ≤ k) ∧ Aside0 (Kd.S (Kd.slice 49 k49) 26 wc w.heap.size (fun k_ => k_ < NZ_) v273 t271) ∧ Aside0 (Kd.R k47 47 wc w.heap.size (fun _ => True) (.slice Ao13 t275.length co13) t275) ∧ Aside0 (Kd.S (Kd.slice 49 k49) 26 wc w.heap.size (fun k_ => NZ_ ≤ k_) v280 t278) ∧ Aside0 (Below w.heap.size w wc))
 case first =>
  have H := HC8.out
  clear HC8
  replace H := Option.bind_eq_some_iff.mp H
  obtain ⟨t282, A150, H⟩ := H
  replace H : (if t282 = true then (laws_FnExactLayersOf.j0 k l0 t271 t272 t275 t278 t279 (t279 != t272)) else (laws_FnExactLayersOf.j0 k l0 t271 t272 t275 t278 t279 true)) = some r := H
  have A15 := aM A150
  clear A150
  by_cases c16 : t282 = true
  ·subst c16
   have H1 : (laws_FnExactLayersOf.j0 k l0 t271 t272 t275 t278 t279 (t279 != t272)) = some r := by rw [if_pos rfl] at H; exact H
   clear H
   have H := H1
   clear H1
   have H' := aM H
   clear H
   obtain ⟨Ao17, co17, eo17⟩ := Kd.S_slice HO281.out
   subst eo17
   obtain ⟨Ao18, co18, eo18⟩ := Kd.S_slice HO274.out
   subst eo18
   go_wp2_with (first | ((with_reducible refine gate_callee (f := 17) rfl ?_); refine goesL_ (some 34) rfl rfl Try.func17 (by kernel_rfl) rfl #[.slice Ao17 t278.length co17, .slice Ao18 t271.length co18] rfl zm ?_; (with_reducible refine (laws_eqCellSS.calls k _ _ t278 _ _ t271 true _ ?side1 ?side2 ?side3 ?side4 A15.out).mono ?_); (case side1 => repeat (first | exact (Kd.S_reads' HO281.out).2.2 | (with_reducible refine Kd.C_alloc ?_ _) | (with_reducible refine Kd.C_drewN ?_ _) | (with_reducible refine Kd.C_drew ?_))); (case side2 => exact (Kd.S_reads' HO281.out).2.1); (case side3 => repeat (first | exact (Kd.S_reads' HO274.out).2.2 | (with_reducible refine Kd.C_alloc ?_ _) | (with_reducible refine Kd.C_drewN ?_ _) | (with_reducible refine Kd.C_drew ?_))); (case side4 => exact (Kd.S_reads' HO274.out).2.1); rintro e w19 ⟨rfl, hb⟩; refine ⟨_, rfl, ?_⟩; have n0_ := aM (Kd.R_below (mR_ HO270.out) hb); have n1_ := aM (Kd.S_below (mS_ HO274.out) hb); have n2_ := aM (Kd.R_below (mR_ HO277.out) hb); have n3_ := aM (Kd.S_below (mS_ HO281.out) hb); have n4_ := aM (below_step zb hb); clear HO270 HO274 HO277 HO281 HB; have HO270 := n0_; have HO274 := n1_; have HO277 := n2_; have HO281 := n3_; have HB := n4_; clear n0_ n1_ n2_ n3_ n4_; (try clear hb); (try clear hb2); (try clear hk); (try clear hi)))
   go_meet
   case rel => exact ⟨_, ((t279 != t272)), zr, H', ⟨by first | omega | exact Nat.le_refl _⟩, ⟨zd0 HO274.out⟩, ⟨zd2 HO277.out⟩, ⟨zd0 HO281.out⟩, ⟨zb⟩⟩
  replace c16 := Bool.eq_false_iff.mpr c16
  subst c16
  have H1 : (laws_FnExactLayersOf.j0 k l0 t271 t272 t275 t278 t279 true) = some r := by rw [if_neg (show ¬ (false = true) by decide)] at H; exact H
  clear H
  have H := H1
  clear H1
  have H' := aM H
  clear H
  obtain ⟨Ao20, co20, eo20⟩ := Kd.S_slice HO281.out
  subst eo20
  obtain ⟨Ao21, co21, eo21⟩ := Kd.S_slice HO274.out
  subst eo21
  go_wp2_with (first | ((with_reducible refine gate_callee (f := 17) rfl ?_); refine goesL_ (some 34) rfl rfl Try.func17 (by kernel_rfl) rfl #[.slice Ao20 t278.length co20, .slice Ao21 t271.length co21] rfl zm ?_; (with_reducible refine (laws_eqCellSS.calls k _ _ t278 _ _ t271 false _ ?side1 ?side2 ?side3 ?side4 A15.out).mono ?_); (case side1 => repeat (first | exact (Kd.S_reads' HO281.out).2.2 | (with_reducible refine Kd.C_alloc ?_ _) | (with_reducible refine Kd.C_drewN ?_ _) | (with_reducible refine Kd.C_drew ?_))); (case side2 => exact (Kd.S_reads' HO281.out).2.1); (case side3 => repeat (first | exact (Kd.S_reads' HO274.out).2.2 | (with_reducible refine Kd.C_alloc ?_ _) | (with_reducible refine Kd.C_drewN ?_ _) | (with_reducible refine Kd.C_drew ?_))); (case side4 => exact (Kd.S_reads' HO274.out).2.1); rintro e w22 ⟨rfl, hb⟩; refine ⟨_, rfl, ?_⟩; have n0_ := aM (Kd.R_below (mR_ HO270.out) hb); have n1_ := aM (Kd.S_below (mS_ HO274.out) hb); have n2_ := aM (Kd.R_below (mR_ HO277.out) hb); have n3_ := aM (Kd.S_below (mS_ HO281.out) hb); have n4_ := aM (below_step zb hb); clear HO270 HO274 HO277 HO281 HB; have HO270 := n0_; have HO274 := n1_; have HO277 := n2_; have HO281 := n3_; have HB := n4_; clear n0_ n1_ n2_ n3_ n4_; (try clear hb); (try clear hb2); (try clear hk); (try clear hi)))
  go_meet
  case rel => exact ⟨_, (true), zr, H', ⟨by first | omega | exact Nat.le_refl _⟩, ⟨zd0 HO274.out⟩, ⟨zd2 HO277.out⟩, ⟨zd0 HO281.out⟩, ⟨zb⟩⟩
 case rest =>
  clear HC8
  try clear c1
  try clear p2
  try clear c3
  try clear c3b0
  try clear c4
  try clear c13
  try clear c14
  try clear c15
  try clear c16
  try clear c17
  obtain ⟨kq, x40_7, rfl, HA, HJ7, HO_4, HO_6, HO_7, HB⟩ := hcut
  cases kq with
  | zero => exact absurd HA.out (by simp [laws_FnExactLayersOf.j0])
  | succ kj7 =>
   have H := HA.out
   clear HA
   simp only [laws_FnExactLayersOf.j0] at H
   by_cases c23 : x40_7 = true
   ·subst c23
    have H1 : (some false) = some r := by rw [if_pos rfl] at H; exact H
    clear H
    have H := H1
    clear H1
    obtain rfl := Option.some.inj H
    go_wp2
    go_ret
    exact ⟨zw, zb⟩
   replace c23 := Bool.eq_false_iff.mpr c23
   subst c23
   have H1 : ((laws_toCubeS.f kj7 l0).bind fun t283 => ((laws_eqCubeS.f kj7 t275 t283).bind fun t286 => (if t286 = true then ((laws_markCubeS.f kj7 t275 1).bind fun bt287 => (if bt287.1 < 0 then (laws_FnExactLayersOf.j1 kj7 l0 t271 t272 t278 true) else ((laws_eqCellSS.f kj7 t278 t271).bind fun t289 => (if t289 = true then (laws_FnExactLayersOf.j1 kj7 l0 t271 t272 t278 (t279 != t272)) else (laws_FnExactLayersOf.j1 kj7 l0 t271 t272 t278 true))))) else (some false)))) = some r := by rw [if_neg (show ¬ (false = true) by decide)] at H; exact H
   clear H
   have H := H1
   clear H1
   replace H := Option.bind_eq_some_iff.mp H
   obtain ⟨t283, A240, H⟩ := H
   replace H : ((laws_eqCubeS.f kj7 t275 t283).bind fun t286 => (if t286 = true then ((laws_markCubeS.f kj7 t275 1).bind fun bt287 => (if bt287.1 < 0 then (laws_FnExactLayersOf.j1 kj7 l0 t271 t272 t278 true) else ((laws_eqCellSS.f kj7 t278 t271).bind fun t289 => (if t289 = true then (laws_FnExactLayersOf.j1 kj7 l0 t271 t272 t278 (t279 != t272)) else (laws_FnExactLayersOf.j1 kj7 l0 t271 t272 t278 true))))) else (some false))) = some r := H
   have A24 := aM A240
   clear A240
   replace H := Option.bind_eq_some_iff.mp H
   obtain ⟨t286, A250, H⟩ := H
   replace H : (if t286 = true then ((laws_markCubeS.f kj7 t275 1).bind fun bt287 => (if bt287.1 < 0 then (laws_FnExactLayersOf.j1 kj7 l0 t271 t272 t278 true) else ((laws_eqCellSS.f kj7 t278 t271).bind fun t289 => (if t289 = true then (laws_FnExactLayersOf.j1 kj7 l0 t271 t272 t278 (t279 != t272)) else (laws_FnExactLayersOf.j1 kj7 l0 t271 t272 t278 true))))) else (some false)) = some r := H
   have A25 := aM A250
   clear A250
   by_cases c26 : t286 = true
   rotate_left
   ·replace c26 := Bool.eq_false_iff.mpr c26
    subst c26
    have H1 : (some false) = some r := by rw [if_neg (show ¬ (false = true) by decide)] at H; exact H
    clear H
    have H := H1
    clear H1
    obtain rfl := Option.some.inj H
    go_wp2_with (first | ((with_reducible refine gate_callee (f := 15) rfl ?_); refine goesL_ (some 43) rfl rfl Try.func15 (by kernel_rfl) rfl #[.slice A0 l0.length c0] rfl zm ?_; (with_reducible refine (laws_toCubeS.calls kj7 _ _ l0 t283 _ ?side1 ?side2 A24.out).mono ?_); (case side1 => repeat (first | exact (Kd.C_below HR0.out HB.out) | (with_reducible refine Kd.C_alloc ?_ _) | (with_reducible refine Kd.C_drewN ?_ _) | (with_reducible refine Kd.C_drew ?_))); (case side2 => exact HC0.out); rintro e w71 ⟨v284, rfl, ho0, hb⟩; refine ⟨_, rfl, ?_⟩; have n0_ := aM (Kd.S_below (mS_ HO_4.out) hb); have n1_ := aM (Kd.R_elder' (mR_ HO_6.out) (Kd.R_base ho0) hb); have n2_ := aM (Kd.S_below (mS_ HO_7.out) hb); have n3_ := aM (Kd.R_lower (Kd.R_new' ho0 (Kd.R_lt (mR_ HO_6.out))) (below_size zb)); have n4_ := aM (below_step zb hb); clear HO_4 HO_6 HO_7 HB; have HO_4 := n0_; have HO_6 := n1_; have HO_7 := n2_; have HO285 := n3_; have HB := n4_; clear n0_ n1_ n2_ n3_ n4_; (try clear hb); (try clear hb2); (try clear hk); (try clear hi); (try clear ho0); obtain ⟨Ao72, co72, eo72⟩ := Kd.R_slice HO285.out; subst eo72) | ((with_reducible refine gate_callee (f := 18) rfl ?_); refine goesL_ (some 44) rfl rfl Try.func18 (by kernel_rfl) rfl #[.slice Ao13 t275.length co13, .slice Ao72 t283.length co72] rfl zm ?_; (with_reducible refine (laws_eqCubeS.calls kj7 _ _ t275 _ _ t283 false _ ?side1 ?side2 ?side3 ?side4 A25.out).mono ?_); (case side1 => exact zc HO_6.out); (case side2 => exact (Kd.R_reads' HO_6.out).2.1); (case side3 => exact zc HO285.out); (case side4 => exact (Kd.R_reads' HO285.out).2.1); rintro e w73 ⟨rfl, hb⟩; refine ⟨_, rfl, ?_⟩; have n0_ := aM (Kd.S_below (mS_ HO_4.out) hb); have n1_ := aM (Kd.R_below (mR_ HO_6.out) hb); have n2_ := aM (Kd.S_below (mS_ HO_7.out) hb); have n3_ := aM (Kd.R_below (mR_ HO285.out) hb); have n4_ := aM (below_step zb hb); clear HO_4 HO_6 HO_7 HO285 HB; have HO_4 := n0_; have HO_6 := n1_; have HO_7 := n2_; have HO285 := n3_; have HB := n4_; clear n0_ n1_ n2_ n3_ n4_; (try clear hb); (try clear hb2); (try clear hk); (try clear hi)))
    go_ret
    exact ⟨zw, zb⟩
   subst c26
   have H1 : ((laws_markCubeS.f kj7 t275 1).bind fun bt287 => (if bt287.1 < 0 then (laws_FnExactLayersOf.j1 kj7 l0 t271 t272 t278 true) else ((laws_eqCellSS.f kj7 t278 t271).bind fun t289 => (if t289 = true then (laws_FnExactLayersOf.j1 kj7 l0 t271 t272 t278 (t279 != t272)) else (laws_FnExactLayersOf.j1 kj7 l0 t271 t272 t278 true))))) = some r := by rw [if_pos rfl] at H; exact H
   clear H
   have H := H1
   clear H1
   replace H := Option.bind_eq_some_iff.mp H
   obtain ⟨⟨t287, t288⟩, A270, H⟩ := H
   replace H : (if t287 < 0 then (laws_FnExactLayersOf.j1 kj7 l0 t271 t272 t278 true) else ((laws_eqCellSS.f kj7 t278 t271).bind fun t289 => (if t289 = true then (laws_FnExactLayersOf.j1 kj7 l0 t271 t272 t278 (t279 != t272)) else (laws_FnExactLayersOf.j1 kj7 l0 t271 t272 t278 true)))) = some r := H
   have A27 := aM A270
   clear A270
   have HC28 := aM H
   clear H
   go_upto_region 14 with (first | ((with_reducible refine gate_callee (f := 15) rfl ?_); refine goesL_ (some 43) rfl rfl Try.func15 (by kernel_rfl) rfl #[.slice A0 l0.length c0] rfl zm ?_; (with_reducible refine (laws_toCubeS.calls kj7 _ _ l0 t283 _ ?side1 ?side2 A24.out).mono ?_); (case side1 => repeat (first | exact (Kd.C_below HR0.out HB.out) | (with_reducible refine Kd.C_alloc ?_ _) | (with_reducible refine Kd.C_drewN ?_ _) | (with_reducible refine Kd.C_drew ?_))); (case side2 => exact HC0.out); rintro e w29 ⟨v284, rfl, ho0, hb⟩; refine ⟨_, rfl, ?_⟩; have n0_ := aM (Kd.S_below (mS_ HO_4.out) hb); have n1_ := aM (Kd.R_elder' (mR_ HO_6.out) (Kd.R_base ho0) hb); have n2_ := aM (Kd.S_below (mS_ HO_7.out) hb); have n3_ := aM (Kd.R_lower (Kd.R_new' ho0 (Kd.R_lt (mR_ HO_6.out))) (below_size zb)); have n4_ := aM (below_step zb hb); clear HO_4 HO_6 HO_7 HB; have HO_4 := n0_; have HO_6 := n1_; have HO_7 := n2_; have HO285 := n3_; have HB := n4_; clear n0_ n1_ n2_ n3_ n4_; (try clear hb); (try clear hb2); (try clear hk); (try clear hi); (try clear ho0); obtain ⟨Ao30, co30, eo30⟩ := Kd.R_slice HO285.out; subst eo30) | ((with_reducible refine gate_callee (f := 18) rfl ?_); refine goesL_ (some 44) rfl rfl Try.func18 (by kernel_rfl) rfl #[.slice Ao13 t275.length co13, .slice Ao30 t283.length co30] rfl zm ?_; (with_reducible refine (laws_eqCubeS.calls kj7 _ _ t275 _ _ t283 true _ ?side1 ?side2 ?side3 ?side4 A25.out).mono ?_); (case side1 => exact zc HO_6.out); (case side2 => exact (Kd.R_reads' HO_6.out).2.1); (case side3 => exact zc HO285.out); (case side4 => exact (Kd.R_reads' HO285.out).2.1); rintro e w31 ⟨rfl, hb⟩; refine ⟨_, rfl, ?_⟩; have n0_ := aM (Kd.S_below (mS_ HO_4.out) hb); have n1_ := aM (Kd.R_below (mR_ HO_6.out) hb); have n2_ := aM (Kd.S_below (mS_ HO_7.out) hb); have n3_ := aM (Kd.R_below (mR_ HO285.out) hb); have n4_ := aM (below_step zb hb); clear HO_4 HO_6 HO_7 HO285 HB; have HO_4 := n0_; have HO_6 := n1_; have HO_7 := n2_; have HO285 := n3_; have HB := n4_; clear n0_ n1_ n2_ n3_ n4_; (try clear hb); (try clear hb2); (try clear hk); (try clear hi)) | ((with_reducible refine gate_callee (f := 19) rfl ?_); refine goesL_ (some 48) rfl rfl Try.func19 (by kernel_rfl) rfl #[.slice Ao13 t275.length co13, .int .i64 1] rfl zm ?_; (with_reducible refine (laws_markCubeS.calls kj7 (fun k_ => some k_ = (.slice Ao13 t275.length co13 : Value).ownBlock) (.slice Ao13 t275.length co13) t275 1 t287 t288 w _ ?side1 ?side2 A27.out).mono ?_); (case side1 => repeat (first | (with_reducible first | exact HB.out | apply below_alloc | apply pw_below_drewN | apply below_drew1) | exact HB.out)); (case side2 => exact Kd.R_tight rfl HO_6.out); rintro e w32 ⟨rfl, hy0, hb, hkp⟩; refine ⟨_, rfl, ?_⟩; have n0_ := aM (Kd.S_mono (ok' := fun k_ => k_ < NZ_) (Kd.S_keptB ((Kd.S_apart' HO_4.out (Kd.R_typed HO_6.out) (by decide))) hkp (fun k_ hk_ hs_ => (hk_.2) hs_)) (fun k_ hk_ => hk_.1.1)); have n1_ := aM (Kd.R_reok rfl hy0 (fun k_ e_ => HO_6.out.1 k_ e_)); have n2_ := aM (Kd.S_mono (ok' := fun k_ => NZ_ ≤ k_) (Kd.S_keptB ((Kd.S_apart' HO_7.out (Kd.R_typed HO_6.out) (by decide))) hkp (fun k_ hk_ hs_ => (hk_.2) hs_)) (fun k_ hk_ => hk_.1.1)); have n3_ := aM (Kd.R_mono (ok' := fun k_ => some k_ ≠ (.slice Ao13 t275.length co13 : Value).ownBlock) (Kd.R_keptB (HO285.out) hkp (fun k_ hk_ hs_ => (hk_.2) hs_)) (fun k_ hk_ => hk_.1.2)); have n4_ := aM (hb); clear HO_4 HO_6 HO_7 HO285 HB; have HO_4 := n0_; have HO_6 := n1_; have HO_7 := n2_; have HO285 := n3_; have HB := n4_; clear n0_ n1_ n2_ n3_ n4_; (try clear hb); (try clear hkp); (try clear hy0)))
   (try simp only [Act.put, xA, xB, xC])
   go_cut [61] (fun v61 wc => ∃ (kq : Nat) (x61_27 : Bool), v61 = .bool x61_27 ∧ Aside0 (laws_FnExactLayersOf.j1 kq l0 t271 t272 t278 x61_27 = some r) ∧ Aside0 (kq ≤ kj7) ∧ Aside0 (Kd.S (Kd.slice 49 k49) 26 wc w.heap.size (fun k_ => k_ < NZ_) v273 t271) ∧ Aside0 (Kd.S (Kd.slice 49 k49) 26 wc w.heap.size (fun k_ => NZ_ ≤ k_) v280 t278) ∧ Aside0 (Below w.heap.size w wc))
   case first =>
    have H := HC28.out
    clear HC28
    by_cases c33 : t287 < 0
    ·rw [if_pos c33] at H
     have c33b0 : decide (t287 < 0) = true := decide_eq_true c33
     clear c33
     (first | rw [c33b0] | (simp only [i64_w, i32_w]; rw [c33b0]) | skip)
     have H' := aM H
     clear H
     go_wp2
     go_meet
     case rel => exact ⟨_, (true), zr, H', ⟨by have := HJ7.out; first | omega | exact Nat.le_refl _⟩, ⟨mS_ HO_4.out⟩, ⟨mS_ HO_7.out⟩, ⟨zb⟩⟩
    rw [if_neg c33] at H
    have c33b0 : decide (t287 < 0) = false := decide_eq_false c33
    clear c33
    (first | rw [c33b0] | (simp only [i64_w, i32_w]; rw [c33b0]) | skip)
    replace H := Option.bind_eq_some_iff.mp H
    obtain ⟨t289, A340, H⟩ := H
    replace H : (if t289 = true then (laws_FnExactLayersOf.j1 kj7 l0 t271 t272 t278 (t279 != t272)) else (laws_FnExactLayersOf.j1 kj7 l0 t271 t272 t278 true)) = some r := H
    have A34 := aM A340
    clear A340
    by_cases c35 : t289 = true
    ·subst c35
     have H1 : (laws_FnExactLayersOf.j1 kj7 l0 t271 t272 t278 (t279 != t272)) = some r := by rw [if_pos rfl] at H; exact H
     clear H
     have H := H1
     clear H1
     have H' := aM H
     clear H
     obtain ⟨Ao36, co36, eo36⟩ := Kd.S_slice HO_7.out
     subst eo36
     obtain ⟨Ao37, co37, eo37⟩ := Kd.S_slice HO_4.out
     subst eo37
     go_wp2_with (first | (go_at_call 17; (with_reducible refine (laws_eqCellSS.calls kj7 _ _ t278 _ _ t271 true _ ?side1 ?side2 ?side3 ?side4 A34.out).mono ?_); (case side1 => repeat (first | exact (Kd.S_reads' HO_7.out).2.2 | (with_reducible refine Kd.C_alloc ?_ _) | (with_reducible refine Kd.C_drewN ?_ _) | (with_reducible refine Kd.C_drew ?_))); (case side2 => exact (Kd.S_reads' HO_7.out).2.1); (case side3 => repeat (first | exact (Kd.S_reads' HO_4.out).2.2 | (with_reducible refine Kd.C_alloc ?_ _) | (with_reducible refine Kd.C_drewN ?_ _) | (with_reducible refine Kd.C_drew ?_))); (case side4 => exact (Kd.S_reads' HO_4.out).2.1); rintro e w38 ⟨rfl, hb⟩; have n0_ := aM (Kd.S_below (mS_ HO_4.out) hb); have n1_ := aM (Kd.R_below (mR_ HO_6.out) hb); have n2_ := aM (Kd.S_below (mS_ HO_7.out) hb); have n3_ := aM (Kd.R_below (mR_ HO285.out) hb); have n4_ := aM (below_step zb hb); clear HO_4 HO_6 HO_7 HO285 HB; have HO_4 := n0_; have HO_6 := n1_; have HO_7 := n2_; have HO285 := n3_; have HB := n4_; clear n0_ n1_ n2_ n3_ n4_; (try clear hb); (try clear hb2); (try clear hk); (try clear hi)))
     go_meet
     case rel => exact ⟨_, ((t279 != t272)), zr, H', ⟨by have := HJ7.out; first | omega | exact Nat.le_refl _⟩, ⟨mS_ HO_4.out⟩, ⟨mS_ HO_7.out⟩, ⟨zb⟩⟩
    replace c35 := Bool.eq_false_iff.mpr c35
    subst c35
    have H1 : (laws_FnExactLayersOf.j1 kj7 l0 t271 t272 t278 true) = some r := by rw [if_neg (show ¬ (false = true) by decide)] at H; exact H
    clear H
    have H := H1
    clear H1
    have H' := aM H
    clear H
    obtain ⟨Ao39, co39, eo39⟩ := Kd.S_slice HO_7.out
    subst eo39
    obtain ⟨Ao40, co40, eo40⟩ := Kd.S_slice HO_4.out
    subst eo40
    go_wp2_with (first | (go_at_call 17; (with_reducible refine (laws_eqCellSS.calls kj7 _ _ t278 _ _ t271 false _ ?side1 ?side2 ?side3 ?side4 A34.out).mono ?_); (case side1 => repeat (first | exact (Kd.S_reads' HO_7.out).2.2 | (with_reducible refine Kd.C_alloc ?_ _) | (with_reducible refine Kd.C_drewN ?_ _) | (with_reducible refine Kd.C_drew ?_))); (case side2 => exact (Kd.S_reads' HO_7.out).2.1); (case side3 => repeat (first | exact (Kd.S_reads' HO_4.out).2.2 | (with_reducible refine Kd.C_alloc ?_ _) | (with_reducible refine Kd.C_drewN ?_ _) | (with_reducible refine Kd.C_drew ?_))); (case side4 => exact (Kd.S_reads' HO_4.out).2.1); rintro e w41 ⟨rfl, hb⟩; have n0_ := aM (Kd.S_below (mS_ HO_4.out) hb); have n1_ := aM (Kd.R_below (mR_ HO_6.out) hb); have n2_ := aM (Kd.S_below (mS_ HO_7.out) hb); have n3_ := aM (Kd.R_below (mR_ HO285.out) hb); have n4_ := aM (below_step zb hb); clear HO_4 HO_6 HO_7 HO285 HB; have HO_4 := n0_; have HO_6 := n1_; have HO_7 := n2_; have HO285 := n3_; have HB := n4_; clear n0_ n1_ n2_ n3_ n4_; (try clear hb); (try clear hb2); (try clear hk); (try clear hi)))
    go_meet
    case rel => exact ⟨_, (true), zr, H', ⟨by have := HJ7.out; first | omega | exact Nat.le_refl _⟩, ⟨mS_ HO_4.out⟩, ⟨mS_ HO_7.out⟩, ⟨zb⟩⟩
   case rest =>
    clear HC28
    try clear c1
    try clear c2
    try clear p2
    try clear c3
    try clear c3b0
    try clear c4
    try clear c13
    try clear c14
    try clear c15
    try clear c16
    try clear c17
    try clear c18
    try clear c19
    try clear c23
    try clear c26
    try clear c33
    try clear c33b0
    try clear c35
    try clear p2
    obtain ⟨kq, x61_27, rfl, HA, HJ27, HO_4, HO_7, HB⟩ := hcut
    cases kq with
    | zero => exact absurd HA.out (by simp [laws_FnExactLayersOf.j1])
    | succ kj27 =>
     have H := HA.out
     clear HA
     simp only [laws_FnExactLayersOf.j1] at H
     by_cases c42 : x61_27 = true
     ·subst c42
      have H1 : (some false) = some r := by rw [if_pos rfl] at H; exact H
      clear H
      have H := H1
      clear H1
      obtain rfl := Option.some.inj H
      go_wp2
      go_ret
      exact ⟨zw, zb⟩
     replace c42 := Bool.eq_false_iff.mpr c42
     subst c42
     have H1 : ((laws_markCellSS.f kj27 t278 1).bind fun bt290 => ((laws_heldCellSS.f kj27 bt290.2 1).bind fun t292 => (if t292 < 0 then (some false) else (if t292 = bt290.1 then ((laws_toCubeS.f kj27 l0).bind fun t293 => ((impl_LayersOf.f kj27 t293).bind fun bt296 => ((laws_eqCellSS.f kj27 bt296.1 t271).bind fun t300 => (if t300 = true then (laws_FnExactLayersOf.j2 kj27 bt290.2 bt290.1 (bt296.2 != t272)) else (laws_FnExactLayersOf.j2 kj27 bt290.2 bt290.1 true))))) else (some false))))) = some r := by rw [if_neg (show ¬ (false = true) by decide)] at H; exact H
     clear H
     have H := H1
     clear H1
     replace H := Option.bind_eq_some_iff.mp H
     obtain ⟨⟨t290, t291⟩, A430, H⟩ := H
     replace H : ((laws_heldCellSS.f kj27 t291 1).bind fun t292 => (if t292 < 0 then (some false) else (if t292 = t290 then ((laws_toCubeS.f kj27 l0).bind fun t293 => ((impl_LayersOf.f kj27 t293).bind fun bt296 => ((laws_eqCellSS.f kj27 bt296.1 t271).bind fun t300 => (if t300 = true then (laws_FnExactLayersOf.j2 kj27 t291 t290 (bt296.2 != t272)) else (laws_FnExactLayersOf.j2 kj27 t291 t290 true))))) else (some false)))) = some r := H
     have A43 := aM A430
     clear A430
     replace H := Option.bind_eq_some_iff.mp H
     obtain ⟨t292, A440, H⟩ := H
     replace H : (if t292 < 0 then (some false) else (if t292 = t290 then ((laws_toCubeS.f kj27 l0).bind fun t293 => ((impl_LayersOf.f kj27 t293).bind fun bt296 => ((laws_eqCellSS.f kj27 bt296.1 t271).bind fun t300 => (if t300 = true then (laws_FnExactLayersOf.j2 kj27 t291 t290 (bt296.2 != t272)) else (laws_FnExactLayersOf.j2 kj27 t291 t290 true))))) else (some false))) = some r := H
     have A44 := aM A440
     clear A440
     by_cases c45 : t292 < 0
     ·rw [if_pos c45] at H
      have c45b0 : decide (t292 < 0) = true := decide_eq_true c45
      clear c45
      obtain rfl := Option.some.inj H
      obtain ⟨Ao46, co46, eo46⟩ := Kd.S_slice HO_7.out
      subst eo46
      go_wp2_with (first | ((with_reducible refine gate_callee (f := 20) rfl ?_); refine goesL_ (some 64) rfl rfl Try.func20 (by kernel_rfl) rfl #[.slice Ao46 t278.length co46, .int .i64 1] rfl zm ?_; (with_reducible refine (laws_markCellSS.calls kj27 (fun k_ => NZ_ ≤ k_) (.slice Ao46 t278.length co46) t278 1 t290 t291 w _ ?side1 ?side2 A43.out).mono ?_); (case side1 => repeat (first | (with_reducible first | exact HB.out | apply below_alloc | apply pw_below_drewN | apply below_drew1) | exact HB.out)); (case side2 => exact HO_7.out); rintro e w47 ⟨rfl, hy0, hb, hkp⟩; refine ⟨_, rfl, ?_⟩; have n0_ := aM (Kd.S_mono (ok' := fun k_ => k_ < NZ_) (Kd.S_keptB (HO_4.out) hkp (fun k_ hk_ hs_ => Nat.not_le.2 hk_ hs_)) (fun k_ hk_ => hk_.1)); have n1_ := aM (hy0); have n2_ := aM (hb); clear HO_4 HO_7 HB; have HO_4 := n0_; have HO_7 := n1_; have HB := n2_; clear n0_ n1_ n2_; (try clear hb); (try clear hkp); (try clear hy0)) | ((with_reducible refine gate_callee (f := 21) rfl ?_); refine goesL_ (some 67) rfl rfl Try.func21 (by kernel_rfl) rfl #[.slice Ao46 t291.length co46, .int .i64 1] rfl (by (try simp only [mA, mB, mC]); first | done | (rw [show t291.length = t278.length from (Kd.S_reads' HO_7.out).1.symm] <;> rfl) | rfl | (simp only [lD, lT]; rfl)) ?_; (with_reducible refine (laws_heldCellSS.calls kj27 _ _ t291 1 t292 _ ?side1 ?side2 A44.out).mono ?_); (case side1 => repeat (first | exact (Kd.S_reads' HO_7.out).2.2 | (with_reducible refine Kd.C_alloc ?_ _) | (with_reducible refine Kd.C_drewN ?_ _) | (with_reducible refine Kd.C_drew ?_))); (case side2 => rw [show t291.length = t278.length from (Kd.S_reads' HO_7.out).1.symm]; exact (Kd.S_reads' HO_7.out).2.1); rintro e w' ⟨rfl, ⟨nd, rfl⟩⟩; refine ⟨_, rfl, ?_⟩))
      go_ret
      exact ⟨zw, zb⟩
     rw [if_neg c45] at H
     have c45b0 : decide (t292 < 0) = false := decide_eq_false c45
     clear c45
     by_cases c48 : t292 = t290
     rotate_left
     ·rw [if_neg c48] at H
      have c48b0 : (t292 == t290) = false := beq_eq_false_iff_ne.mpr c48
      have c48b1 : (t292 != t290) = true := bne_iff_ne.mpr c48
      obtain rfl := Option.some.inj H
      obtain ⟨Ao69, co69, eo69⟩ := Kd.S_slice HO_7.out
      subst eo69
      go_wp2_with (first | ((with_reducible refine gate_callee (f := 20) rfl ?_); refine goesL_ (some 64) rfl rfl Try.func20 (by kernel_rfl) rfl #[.slice Ao69 t278.length co69, .int .i64 1] rfl zm ?_; (with_reducible refine (laws_markCellSS.calls kj27 (fun k_ => NZ_ ≤ k_) (.slice Ao69 t278.length co69) t278 1 t290 t291 w _ ?side1 ?side2 A43.out).mono ?_); (case side1 => repeat (first | (with_reducible first | exact HB.out | apply below_alloc | apply pw_below_drewN | apply below_drew1) | exact HB.out)); (case side2 => exact HO_7.out); rintro e w70 ⟨rfl, hy0, hb, hkp⟩; refine ⟨_, rfl, ?_⟩; have n0_ := aM (Kd.S_mono (ok' := fun k_ => k_ < NZ_) (Kd.S_keptB (HO_4.out) hkp (fun k_ hk_ hs_ => Nat.not_le.2 hk_ hs_)) (fun k_ hk_ => hk_.1)); have n1_ := aM (hy0); have n2_ := aM (hb); clear HO_4 HO_7 HB; have HO_4 := n0_; have HO_7 := n1_; have HB := n2_; clear n0_ n1_ n2_; (try clear hb); (try clear hkp); (try clear hy0)) | ((with_reducible refine gate_callee (f := 21) rfl ?_); refine goesL_ (some 67) rfl rfl Try.func21 (by kernel_rfl) rfl #[.slice Ao69 t291.length co69, .int .i64 1] rfl (by (try simp only [mA, mB, mC]); first | done | (rw [show t291.length = t278.length from (Kd.S_reads' HO_7.out).1.symm] <;> rfl) | rfl | (simp only [lD, lT]; rfl)) ?_; (with_reducible refine (laws_heldCellSS.calls kj27 _ _ t291 1 t292 _ ?side1 ?side2 A44.out).mono ?_); (case side1 => repeat (first | exact (Kd.S_reads' HO_7.out).2.2 | (with_reducible refine Kd.C_alloc ?_ _) | (with_reducible refine Kd.C_drewN ?_ _) | (with_reducible refine Kd.C_drew ?_))); (case side2 => rw [show t291.length = t278.length from (Kd.S_reads' HO_7.out).1.symm]; exact (Kd.S_reads' HO_7.out).2.1); rintro e w' ⟨rfl, ⟨nd, rfl⟩⟩; refine ⟨_, rfl, ?_⟩))
      go_ret
      exact ⟨zw, zb⟩
     rw [if_pos c48] at H
     have c48b0 : (t292 == t290) = true := beq_iff_eq.mpr c48
     have c48b1 : (t292 != t290) = false := bne_eq_false_iff_eq.mpr c48
     clear c48
     replace H := Option.bind_eq_some_iff.mp H
     obtain ⟨t293, A490, H⟩ := H
     replace H : ((impl_LayersOf.f kj27 t293).bind fun bt296 => ((laws_eqCellSS.f kj27 bt296.1 t271).bind fun t300 => (if t300 = true then (laws_FnExactLayersOf.j2 kj27 t291 t290 (bt296.2 != t272)) else (laws_FnExactLayersOf.j2 kj27 t291 t290 true)))) = some r := H
     have A49 := aM A490
     clear A490
     replace H := Option.bind_eq_some_iff.mp H
     obtain ⟨⟨t296, t297⟩, A500, H⟩ := H
     replace H : ((laws_eqCellSS.f kj27 t296 t271).bind fun t300 => (if t300 = true then (laws_FnExactLayersOf.j2 kj27 t291 t290 (t297 != t272)) else (laws_FnExactLayersOf.j2 kj27 t291 t290 true))) = some r := H
     have A50 := aM A500
     clear A500
     have HC51 := aM H
     clear H
     obtain ⟨Ao52, co52, eo52⟩ := Kd.S_slice HO_7.out
     subst eo52
     go_upto_region 25 with (first | ((with_reducible refine gate_callee (f := 20) rfl ?_); refine goesL_ (some 64) rfl rfl Try.func20 (by kernel_rfl) rfl #[.slice Ao52 t278.length co52, .int .i64 1] rfl zm ?_; (with_reducible refine (laws_markCellSS.calls kj27 (fun k_ => NZ_ ≤ k_) (.slice Ao52 t278.length co52) t278 1 t290 t291 w _ ?side1 ?side2 A43.out).mono ?_); (case side1 => repeat (first | (with_reducible first | exact HB.out | apply below_alloc | apply pw_below_drewN | apply below_drew1) | exact HB.out)); (case side2 => exact HO_7.out); rintro e w53 ⟨rfl, hy0, hb, hkp⟩; refine ⟨_, rfl, ?_⟩; have n0_ := aM (Kd.S_mono (ok' := fun k_ => k_ < NZ_) (Kd.S_keptB (HO_4.out) hkp (fun k_ hk_ hs_ => Nat.not_le.2 hk_ hs_)) (fun k_ hk_ => hk_.1)); have n1_ := aM (hy0); have n2_ := aM (hb); clear HO_4 HO_7 HB; have HO_4 := n0_; have HO_7 := n1_; have HB := n2_; clear n0_ n1_ n2_; (try clear hb); (try clear hkp); (try clear hy0)) | ((with_reducible refine gate_callee (f := 21) rfl ?_); refine goesL_ (some 67) rfl rfl Try.func21 (by kernel_rfl) rfl #[.slice Ao52 t291.length co52, .int .i64 1] rfl (by (try simp only [mA, mB, mC]); first | done | (rw [show t291.length = t278.length from (Kd.S_reads' HO_7.out).1.symm] <;> rfl) | rfl | (simp only [lD, lT]; rfl)) ?_; (with_reducible refine (laws_heldCellSS.calls kj27 _ _ t291 1 t292 _ ?side1 ?side2 A44.out).mono ?_); (case side1 => repeat (first | exact (Kd.S_reads' HO_7.out).2.2 | (with_reducible refine Kd.C_alloc ?_ _) | (with_reducible refine Kd.C_drewN ?_ _) | (with_reducible refine Kd.C_drew ?_))); (case side2 => rw [show t291.length = t278.length from (Kd.S_reads' HO_7.out).1.symm]; exact (Kd.S_reads' HO_7.out).2.1); rintro e w' ⟨rfl, ⟨nd, rfl⟩⟩; refine ⟨_, rfl, ?_⟩) | ((with_reducible refine gate_callee (f := 15) rfl ?_); refine goesL_ (some 75) rfl rfl Try.func15 (by kernel_rfl) rfl #[.slice A0 l0.length c0] rfl zm ?_; (with_reducible refine (laws_toCubeS.calls kj27 _ _ l0 t293 _ ?side1 ?side2 A49.out).mono ?_); (case side1 => repeat (first | exact (Kd.C_below HR0.out zb) | (with_reducible refine Kd.C_alloc ?_ _) | (with_reducible refine Kd.C_drewN ?_ _) | (with_reducible refine Kd.C_drew ?_))); (case side2 => exact HC0.out); rintro e w54 ⟨v294, rfl, ho0, hb⟩; refine ⟨_, rfl, ?_⟩; have n0_ := aM (Kd.S_below (mS_ HO_4.out) hb); have n1_ := aM (Kd.S_below (mS_ HO_7.out) hb); have n2_ := aM (Kd.R_lower ho0 (below_size zb)); have n3_ := aM (below_step zb hb); clear HO_4 HO_7 HB; have HO_4 := n0_; have HO_7 := n1_; have HO295 := n2_; have HB := n3_; clear n0_ n1_ n2_ n3_; (try clear hb); (try clear hb2); (try clear hk); (try clear hi); (try clear ho0); obtain ⟨Ao55, co55, eo55⟩ := Kd.R_slice HO295.out; subst eo55) | ((with_reducible refine gate_callee (f := 16) rfl ?_); refine goesL_ (some 76) rfl rfl Try.func16 (by kernel_rfl) rfl #[.slice Ao55 t293.length co55] rfl zm ?_; (with_reducible refine (impl_LayersOf.calls kj27 _ _ t293 t296 t297 _ ?side1 ?side2 A50.out).mono ?_); (case side1 => exact zc HO295.out); (case side2 => exact (Kd.R_reads' HO295.out).2.1); rintro e w56 ⟨v298, rfl, ho0, hb⟩; refine ⟨_, rfl, ?_⟩; have n0_ := aM (Kd.S_elder' (mS_ HO_4.out) (Kd.S_base ho0) hb); have n1_ := aM (Kd.S_elder' (mS_ HO_7.out) (Kd.S_base ho0) hb); have n2_ := aM (Kd.R_below (mR_ HO295.out) hb); have n3_ := aM (Kd.S_lower (Kd.S_new' (Kd.S_new' ho0 (Kd.S_lt (mS_ HO_4.out))) (Kd.S_lt (mS_ HO_7.out))) (below_size zb)); have n4_ := aM (below_step zb hb); clear HO_4 HO_7 HO295 HB; have HO_4 := n0_; have HO_7 := n1_; have HO295 := n2_; have HO299 := n3_; have HB := n4_; clear n0_ n1_ n2_ n3_ n4_; (try clear hb); (try clear hb2); (try clear hk); (try clear hi); (try clear ho0)))
     (try simp only [Act.put, xA, xB, xC])
     go_cut [87] (fun v87 wc => ∃ (kq : Nat) (x87_50 : Bool), v87 = .bool x87_50 ∧ Aside0 (laws_FnExactLayersOf.j2 kq t291 t290 x87_50 = some r) ∧ Aside0 (kq ≤ kj27) ∧ Aside0 (Kd.S (Kd.slice 49 k49) 26 wc w.heap.size (fun _ => True) (.slice Ao52 t278.length co52) t291) ∧ Aside0 (Below w.heap.size w wc))
     case first =>
      have H := HC51.out
      clear HC51
      replace H := Option.bind_eq_some_iff.mp H
      obtain ⟨t300, A570, H⟩ := H
      replace H : (if t300 = true then (laws_FnExactLayersOf.j2 kj27 t291 t290 (t297 != t272)) else (laws_FnExactLayersOf.j2 kj27 t291 t290 true)) = some r := H
      have A57 := aM A570
      clear A570
      by_cases c58 : t300 = true
      ·subst c58
       have H1 : (laws_FnExactLayersOf.j2 kj27 t291 t290 (t297 != t272)) = some r := by rw [if_pos rfl] at H; exact H
       clear H
       have H := H1
       clear H1
       have H' := aM H
       clear H
       obtain ⟨Ao59, co59, eo59⟩ := Kd.S_slice HO299.out
       subst eo59
       obtain ⟨Ao60, co60, eo60⟩ := Kd.S_slice HO_4.out
       subst eo60
       go_wp2_with (first | ((with_reducible refine gate_callee (f := 17) rfl ?_); refine goesL_ (some 81) rfl rfl Try.func17 (by kernel_rfl) rfl #[.slice Ao59 t296.length co59, .slice Ao60 t271.length co60] rfl zm ?_; (with_reducible refine (laws_eqCellSS.calls kj27 _ _ t296 _ _ t271 true _ ?side1 ?side2 ?side3 ?side4 A57.out).mono ?_); (case side1 => repeat (first | exact (Kd.S_reads' HO299.out).2.2 | (with_reducible refine Kd.C_alloc ?_ _) | (with_reducible refine Kd.C_drewN ?_ _) | (with_reducible refine Kd.C_drew ?_))); (case side2 => exact (Kd.S_reads' HO299.out).2.1); (case side3 => repeat (first | exact (Kd.S_reads' HO_4.out).2.2 | (with_reducible refine Kd.C_alloc ?_ _) | (with_reducible refine Kd.C_drewN ?_ _) | (with_reducible refine Kd.C_drew ?_))); (case side4 => exact (Kd.S_reads' HO_4.out).2.1); rintro e w61 ⟨rfl, hb⟩; refine ⟨_, rfl, ?_⟩; have n0_ := aM (Kd.S_below (mS_ HO_4.out) hb); have n1_ := aM (Kd.S_below (mS_ HO_7.out) hb); have n2_ := aM (Kd.R_below (mR_ HO295.out) hb); have n3_ := aM (Kd.S_below (mS_ HO299.out) hb); have n4_ := aM (below_step zb hb); clear HO_4 HO_7 HO295 HO299 HB; have HO_4 := n0_; have HO_7 := n1_; have HO295 := n2_; have HO299 := n3_; have HB := n4_; clear n0_ n1_ n2_ n3_ n4_; (try clear hb); (try clear hb2); (try clear hk); (try clear hi)))
       go_meet
       case rel => exact ⟨_, ((t297 != t272)), zr, H', ⟨by have := HJ7.out; have := HJ27.out; first | omega | exact Nat.le_refl _⟩, ⟨zd3 HO_7.out⟩, ⟨zb⟩⟩
      replace c58 := Bool.eq_false_iff.mpr c58
      subst c58
      have H1 : (laws_FnExactLayersOf.j2 kj27 t291 t290 true) = some r := by rw [if_neg (show ¬ (false = true) by decide)] at H; exact H
      clear H
      have H := H1
      clear H1
      have H' := aM H
      clear H
      obtain ⟨Ao62, co62, eo62⟩ := Kd.S_slice HO299.out
      subst eo62
      obtain ⟨Ao63, co63, eo63⟩ := Kd.S_slice HO_4.out
      subst eo63
      go_wp2_with (first | ((with_reducible refine gate_callee (f := 17) rfl ?_); refine goesL_ (some 81) rfl rfl Try.func17 (by kernel_rfl) rfl #[.slice Ao62 t296.length co62, .slice Ao63 t271.length co63] rfl zm ?_; (with_reducible refine (laws_eqCellSS.calls kj27 _ _ t296 _ _ t271 false _ ?side1 ?side2 ?side3 ?side4 A57.out).mono ?_); (case side1 => repeat (first | exact (Kd.S_reads' HO299.out).2.2 | (with_reducible refine Kd.C_alloc ?_ _) | (with_reducible refine Kd.C_drewN ?_ _) | (with_reducible refine Kd.C_drew ?_))); (case side2 => exact (Kd.S_reads' HO299.out).2.1); (case side3 => repeat (first | exact (Kd.S_reads' HO_4.out).2.2 | (with_reducible refine Kd.C_alloc ?_ _) | (with_reducible refine Kd.C_drewN ?_ _) | (with_reducible refine Kd.C_drew ?_))); (case side4 => exact (Kd.S_reads' HO_4.out).2.1); rintro e w64 ⟨rfl, hb⟩; refine ⟨_, rfl, ?_⟩; have n0_ := aM (Kd.S_below (mS_ HO_4.out) hb); have n1_ := aM (Kd.S_below (mS_ HO_7.out) hb); have n2_ := aM (Kd.R_below (mR_ HO295.out) hb); have n3_ := aM (Kd.S_below (mS_ HO299.out) hb); have n4_ := aM (below_step zb hb); clear HO_4 HO_7 HO295 HO299 HB; have HO_4 := n0_; have HO_7 := n1_; have HO295 := n2_; have HO299 := n3_; have HB := n4_; clear n0_ n1_ n2_ n3_ n4_; (try clear hb); (try clear hb2); (try clear hk); (try clear hi)))
      go_meet
      case rel => exact ⟨_, (true), zr, H', ⟨by have := HJ7.out; have := HJ27.out; first | omega | exact Nat.le_refl _⟩, ⟨zd3 HO_7.out⟩, ⟨zb⟩⟩
     case rest =>
      clear HC51
      try clear c1
      try clear c2
      try clear p2
      try clear c3
      try clear c3b0
      try clear c4
      try clear c5
      try clear c13
      try clear c14
      try clear c15
      try clear c16
      try clear c17
      try clear c18
      try clear c19
      try clear c20
      try clear c21
      try clear c23
      try clear c26
      try clear c33
      try clear c33b0
      try clear c35
      try clear c42
      try clear c45
      try clear c45b0
      try clear c48
      try clear c48b0
      try clear c48b1
      try clear c58
      try clear p2
      obtain ⟨kq, x87_50, rfl, HA, HJ50, HO_7, HB⟩ := hcut
      have hl7_50 := (Kd.S_reads' HO_7.out).1
      rw [hl7_50] at HO_7
      (try simp only [hl7_50])
      cases kq with
      | zero => exact absurd HA.out (by simp [laws_FnExactLayersOf.j2])
      | succ kj50 =>
       have H := HA.out
       clear HA
       simp only [laws_FnExactLayersOf.j2] at H
       by_cases c65 : x87_50 = true
       ·subst c65
        have H1 : (some false) = some r := by rw [if_pos rfl] at H; exact H
        clear H
        have H := H1
        clear H1
        obtain rfl := Option.some.inj H
        go_wp2
        go_ret
        exact ⟨zw, zb⟩
       replace c65 := Bool.eq_false_iff.mpr c65
       subst c65
       have H1 : ((laws_heldCellSS.f kj50 t291 1).bind fun t301 => (if t301 < 0 then (some false) else (if t301 = t290 then (some true) else (some false)))) = some r := by rw [if_neg (show ¬ (false = true) by decide)] at H; exact H
       clear H
       have H := H1
       clear H1
       replace H := Option.bind_eq_some_iff.mp H
       obtain ⟨t301, A660, H⟩ := H
       replace H : (if t301 < 0 then (some false) else (if t301 = t290 then (some true) else (some false))) = some r := H
       have A66 := aM A660
       clear A660
       by_cases c67 : t301 < 0
       ·rw [if_pos c67] at H
        have c67b0 : decide (t301 < 0) = true := decide_eq_true c67
        clear c67
        obtain rfl := Option.some.inj H
        go_wp2_with (first | ((with_reducible refine gate_callee (f := 21) rfl ?_); refine goesL_ (some 90) rfl rfl Try.func21 (by kernel_rfl) rfl #[.slice Ao52 t291.length co52, .int .i64 1] rfl zm ?_; (with_reducible refine (laws_heldCellSS.calls kj50 _ _ t291 1 t301 _ ?side1 ?side2 A66.out).mono ?_); (case side1 => repeat (first | exact (Kd.S_reads' HO_7.out).2.2 | (with_reducible refine Kd.C_alloc ?_ _) | (with_reducible refine Kd.C_drewN ?_ _) | (with_reducible refine Kd.C_drew ?_))); (case side2 => exact (Kd.S_reads' HO_7.out).2.1); rintro e w' ⟨rfl, ⟨nd, rfl⟩⟩; refine ⟨_, rfl, ?_⟩))
        go_ret
        exact ⟨zw, zb⟩
       rw [if_neg c67] at H
       have c67b0 : decide (t301 < 0) = false := decide_eq_false c67
       clear c67
       by_cases c68 : t301 = t290
       rotate_left
       ·rw [if_neg c68] at H
        have c68b0 : (t301 == t290) = false := beq_eq_false_iff_ne.mpr c68
        have c68b1 : (t301 != t290) = true := bne_iff_ne.mpr c68
        obtain rfl := Option.some.inj H
        go_wp2_with (first | ((with_reducible refine gate_callee (f := 21) rfl ?_); refine goesL_ (some 90) rfl rfl Try.func21 (by kernel_rfl) rfl #[.slice Ao52 t291.length co52, .int .i64 1] rfl zm ?_; (with_reducible refine (laws_heldCellSS.calls kj50 _ _ t291 1 t301 _ ?side1 ?side2 A66.out).mono ?_); (case side1 => repeat (first | exact (Kd.S_reads' HO_7.out).2.2 | (with_reducible refine Kd.C_alloc ?_ _) | (with_reducible refine Kd.C_drewN ?_ _) | (with_reducible refine Kd.C_drew ?_))); (case side2 => exact (Kd.S_reads' HO_7.out).2.1); rintro e w' ⟨rfl, ⟨nd, rfl⟩⟩; refine ⟨_, rfl, ?_⟩))
        go_ret
        exact ⟨zw, zb⟩
       rw [if_pos c68] at H
       have c68b0 : (t301 == t290) = true := beq_iff_eq.mpr c68
       have c68b1 : (t301 != t290) = false := bne_eq_false_iff_eq.mpr c68
       clear c68
       obtain rfl := Option.some.inj H
       go_wp2_with (first | ((with_reducible refine gate_callee (f := 21) rfl ?_); refine goesL_ (some 90) rfl rfl Try.func21 (by kernel_rfl) rfl #[.slice Ao52 t291.length co52, .int .i64 1] rfl zm ?_; (with_reducible refine (laws_heldCellSS.calls kj50 _ _ t291 1 t301 _ ?side1 ?side2 A66.out).mono ?_); (case side1 => repeat (first | exact (Kd.S_reads' HO_7.out).2.2 | (with_reducible refine Kd.C_alloc ?_ _) | (with_reducible refine Kd.C_drewN ?_ _) | (with_reducible refine Kd.C_drew ?_))); (case side2 => exact (Kd.S_reads' HO_7.out).2.1); rintro e w' ⟨rfl, ⟨nd, rfl⟩⟩; refine ⟨_, rfl, ?_⟩))
       go_ret
       exact ⟨zw, zb⟩
end Go.Proofs.Ytdcpahfpnjnmcaa.F
end
section
namespace Go.Proofs.Ytdcpahfpnjnmcaa.Open
open Go.ChangeShapes Go.WideShapes Go.Deep Go.RowKit Go.Proofs.YtdcpahfpnjnmcaaW.PrintWords
def Opens {α : Type} (P : Program) (d : Kd α) (t : TypeId) (V : α → Prop) : Prop :=
  ∀ (H : Type) (enc : TypeId × Value → H) (w : World) (base : Nat) (spare : Nat → Bool) (held : Bool) (fuel : Nat) (cs : List Value) (x : DataW H × List MemPlace),
    DataW.trod enc P w base spare held fuel t cs = some x → ∃ a : α, d.K w a cs ∧ V a
theorem Opens.int {P : Program} {t : TypeId} {k : IntKind} (ht : P.underlying t = some (.int k)) : Opens P (Kd.int k) t (fun a => (Lit.int k a).wf = true) := by
  intro H enc w base spare held fuel cs x h
  obtain ⟨n, hcs, _, hw⟩ := DataW.trod_int ht h
  exact ⟨n, hcs, hw⟩
theorem Opens.bool {P : Program} {t : TypeId} (ht : P.underlying t = some .bool) : Opens P Kd.bool t (fun _ => True) := by
  intro H enc w base spare held fuel cs x h
  obtain ⟨b, hcs, _⟩ := DataW.trod_bool ht h
  exact ⟨b, hcs, trivial⟩
theorem Opens.slice {α : Type} [Inhabited α] {P : Program} {t e : TypeId} {d : Kd α} {V : α → Prop} (ht : P.underlying t = some (.slice e)) (hsz : P.cellsOf e = d.sz) (ho : Opens P d e V) :
    Opens P (Kd.slice e d) t (fun l => l.length ≤ 9223372036854775807 ∧ ∀ a ∈ l, V a) := by
  intro H enc w base spare held fuel cs x h
  rcases open_slice ht h with ⟨rfl, _⟩ | ⟨a, len, cap, m, n, D, Pl, rfl, hb, hl, hm, hmm, _, hi⟩
  · exact ⟨[], ⟨none, 0, rfl, Nat.le_refl _, rfl, by simp, fun hp => absurd hp (by simp)⟩, by simp, by simp⟩
  · have hlm : len ≤ m := by rw [hmm]; split <;> omega
    have hx : ∀ i, i < len → ∃ y : α, V y ∧ ∃ c : List Value, c.length = d.sz ∧ d.K w y c ∧ ∀ j u, c[j]? = some u → w.cell? (a.add (i * d.sz + j)) = some u := by
      intro i hil
      obtain ⟨cs', hc, ht'⟩ := hi i (by omega)
      obtain ⟨y, hk, hv⟩ := ho H enc w base spare held n cs' _ ht'
      obtain ⟨_, hcl, hat⟩ := World.cells?_some hc
      refine ⟨y, hv, cs', d.K_len hk, hk, fun j u hj => ?_⟩
      have hjl : j < cs'.length := (List.getElem?_eq_some_iff.1 hj).1
      have := hat j (by rw [hsz, ← d.K_len hk]; exact hjl)
      rw [Go.Deep.add_add, hsz] at this
      rw [this, hj]
    obtain ⟨f, hf⟩ := choose_lt hx
    have hlen : ((List.range len).map f).length = len := by simp
    refine ⟨(List.range len).map f, ⟨some a, cap, by rw [hlen], by rw [hlen]; exact hl, rfl, ?_, fun _ => ⟨a, rfl, fun j p hj => ?_⟩⟩, ?_⟩
    · rw [hlen]; unfold maxLen at hm; omega
    · have hjl : j < len := by
        have := (List.getElem?_eq_some_iff.1 hj).1
        rwa [hlen] at this
      have hp : f j = p := by
        rw [List.getElem?_map, List.getElem?_range hjl] at hj
        simpa using hj
      obtain ⟨_, c, h1, h2, h3⟩ := hf j hjl
      rw [hp] at h2
      exact ⟨c, h1, h2, h3⟩
    · refine ⟨by rw [hlen]; unfold maxLen at hm; omega, fun y hy => ?_⟩
      obtain ⟨i, hi', rfl⟩ := List.mem_map.1 hy
      exact (hf i (List.mem_range.1 hi')).1
theorem cut2 {cs : List Value} {n m : Nat} (h : cs.length = n + m) : cs = (cs.drop 0).take n ++ (cs.drop n).take m := by
  rw [List.drop_zero, List.take_of_length_le (l := cs.drop n) (by rw [List.length_drop]; omega), List.take_append_drop]
theorem Opens.struct3 {α β γ δ : Type} {P : Program} {t : TypeId} {f0 f1 f2 : Field} {d0 : Kd α} {d1 : Kd β} {d2 : Kd γ} {V0 : α → Prop} {V1 : β → Prop} {V2 : γ → Prop} (g : δ → α × β × γ) (g' : α → β → γ → δ) (hg : ∀ x y z, g (g' x y z) = (x, y, z))
    (ht : P.underlying t = some (.struct #[f0, f1, f2])) (o0 : f0.offset = 0) (o1 : f1.offset = d0.sz) (o2 : f2.offset = d0.sz + d1.sz) (s0 : P.cellsOf f0.type = d0.sz) (s1 : P.cellsOf f1.type = d1.sz) (s2 : P.cellsOf f2.type = d2.sz) (sz : P.cellsOf t = d0.sz + (d1.sz + d2.sz))
    (h0 : Opens P d0 f0.type V0) (h1 : Opens P d1 f1.type V1) (h2 : Opens P d2 f2.type V2) : Opens P (Kd.iso (Kd.pair d0 (Kd.pair d1 d2)) g) t (fun a => V0 (g a).1 ∧ V1 (g a).2.1 ∧ V2 (g a).2.2) := by
  intro H enc w base spare held fuel cs x h
  obtain ⟨y0, y1, y2, n, _, hl, t0, t1, t2⟩ := trod_struct3 ht h
  rw [o0, s0] at t0
  rw [o1, s1] at t1
  rw [o2, s2] at t2
  obtain ⟨x0, k0, v0⟩ := h0 _ _ _ _ _ _ _ _ _ t0
  obtain ⟨x1, k1, v1⟩ := h1 _ _ _ _ _ _ _ _ _ t1
  obtain ⟨x2, k2, v2⟩ := h2 _ _ _ _ _ _ _ _ _ t2
  refine ⟨g' x0 x1 x2, ?_, ?_⟩
  · show ∃ c0 c1, cs = c0 ++ c1 ∧ d0.K w (g (g' x0 x1 x2)).1 c0 ∧ ∃ c2 c3, c1 = c2 ++ c3 ∧ d1.K w (g (g' x0 x1 x2)).2.1 c2 ∧ d2.K w (g (g' x0 x1 x2)).2.2 c3
    rw [hg]
    refine ⟨_, _, cut2 (n := d0.sz) (m := d1.sz + d2.sz) (by rw [hl, sz]), k0, (cs.drop d0.sz).take d1.sz, (cs.drop (d0.sz + d1.sz)).take d2.sz, ?_, k1, k2⟩
    rw [← List.drop_drop, List.take_of_length_le (l := cs.drop d0.sz) (by rw [List.length_drop]; omega)]
    have := cut2 (cs := cs.drop d0.sz) (n := d1.sz) (m := d2.sz) (by rw [List.length_drop]; omega)
    rwa [List.drop_zero] at this
  · simp only [hg]; exact ⟨v0, v1, v2⟩
theorem arg_open {α : Type} {P : Program} {t : TypeId} {d : Kd α} {V : α → Prop} (ho : Opens P d t V) {H : Type} {enc : TypeId × Value → H} {w : World} {base : Nat} {spare : Nat → Bool} {held : Bool} {v : Value} {x : DataW H} {p : List MemPlace}
    (h : DataW.Trod enc P w base spare held t v x p) : ∃ a : α, d.K w a v.cells.toList ∧ V a := by
  obtain ⟨fuel, hf⟩ := h
  exact ho _ _ _ _ _ _ _ _ _ hf
theorem slice_arg {α : Type} {d : Kd α} {e : Nat} {w : World} {l : List α} {a : Option Addr} {len cap : Nat} (h : (Kd.slice e d).K w l (Value.slice a len cap).cells.toList) : l.length = len ∧ l.length ≤ cap ∧ d.C w a l.length l := by
  obtain ⟨A, c, hcs, hl, hr⟩ := h
  simp [Value.cells] at hcs
  obtain ⟨rfl, rfl, rfl⟩ := hcs
  exact ⟨rfl, hl, hr⟩
end Go.Proofs.Ytdcpahfpnjnmcaa.Open
end
section
namespace Go.Proofs.Ytdcpahfpnjnmcaa.F
open Go.RowKit Go.Proofs.YtdcpahfpnjnmcaaW.PrintWords Go.Proofs.Ytdcpahfpnjnmcaa.Open
instance : Inhabited S68 := ⟨⟨default, default, default⟩⟩
def V68 : S68 → Prop := fun a => (fun a => (Lit.int .i64 a).wf = true) a.f0 ∧ (fun a => (Lit.int .i64 a).wf = true) a.f1 ∧ (fun a => (Lit.int .i64 a).wf = true) a.f2
theorem O68 : Opens Try.prog k68 68 V68 :=
  Opens.struct3 (fun x : S68 => (x.f0, x.f1, x.f2)) (fun a b c => ⟨a, b, c⟩) (fun _ _ _ => rfl) Try.underlying68 rfl rfl rfl (by kernel_rfl) (by kernel_rfl) (by kernel_rfl) (by kernel_rfl) (Opens.int Try.underlying2) (Opens.int Try.underlying2) (Opens.int Try.underlying2)
end Go.Proofs.Ytdcpahfpnjnmcaa.F
end
section
namespace Go.Proofs.Ytdcpahfpnjnmcaa.L
open Go.RowKit Go.Proofs.YtdcpahfpnjnmcaaW.PrintWords
theorem Ev.pos {α : Type} {c : Prop} [Decidable c] {f g : Nat → Option α} {r : α} (h : c) (e : Ev f r) : Ev (fun k => if c then f k else g k) r := by
  obtain ⟨K, e⟩ := e
  exact ⟨K, fun k hk => (if_pos h).trans (e k hk)⟩
theorem Ev.neg {α : Type} {c : Prop} [Decidable c] {f g : Nat → Option α} {r : α} (h : ¬ c) (e : Ev g r) : Ev (fun k => if c then f k else g k) r := by
  obtain ⟨K, e⟩ := e
  exact ⟨K, fun k hk => (if_neg h).trans (e k hk)⟩
theorem Ev.if_ {α : Type} {c : Prop} [Decidable c] {f g : Nat → Option α} {r s : α} (h : c → Ev f r) (h' : ¬ c → Ev g s) : Ev (fun k => if c then f k else g k) (if c then r else s) := by
  by_cases hc : c
  · rw [if_pos hc]; exact Ev.pos hc (h hc)
  · rw [if_neg hc]; exact Ev.neg hc (h' hc)
theorem Ev.of_eq {α : Type} {g : Nat → Option α} {r s : α} (h : Ev g r) (e : r = s) : Ev g s := e ▸ h
theorem Ev.succ {α : Type} {g : Nat → Option α} {r : α} (h : Ev (fun k => g (k + 1)) r) : Ev g r := by
  obtain ⟨K, h⟩ := h
  refine ⟨K + 1, fun n hn => ?_⟩
  obtain ⟨m, rfl⟩ : ∃ m, n = m + 1 := ⟨n - 1, by omega⟩
  exact h m (by omega)
theorem w64 {n : Int} (h : -9223372036854775808 ≤ n) (h' : n ≤ 9223372036854775807) : wrap64 n = n := by
  unfold wrap64
  omega
theorem getD_at {α : Type} (pre suf : List α) (c d : α) : (pre ++ c :: suf).getD (pre.length : Int).toNat d = c := by
  simp [List.getD]
end Go.Proofs.Ytdcpahfpnjnmcaa.L
namespace Go.Proofs.Ytdcpahfpnjnmcaa.L
open Go.RowKit Go.Proofs.YtdcpahfpnjnmcaaW.PrintWords
theorem loop_list {α σ ρ : Type} (xs : List α) (l : Nat → Int → σ → Option ρ) (g : List α → List α → σ → ρ) (Inv : List α → σ → Prop)
    (hn : ∀ s, Inv xs s → Ev (fun k => l (k + 1) (xs.length : Int) s) (g xs [] s))
    (hs : ∀ (pre : List α) (c : α) (suf : List α) (s : σ), xs = pre ++ c :: suf → Inv pre s → (∀ s', Inv (pre ++ [c]) s' → Ev (fun k => l k ((pre.length : Int) + 1) s') (g (pre ++ [c]) suf s')) → Ev (fun k => l (k + 1) (pre.length : Int) s) (g pre (c :: suf) s)) :
    ∀ s, Inv [] s → Ev (fun k => l k 0 s) (g [] xs s) := by
  have key : ∀ (suf pre : List α), xs = pre ++ suf → ∀ s, Inv pre s → Ev (fun k => l k (pre.length : Int) s) (g pre suf s) := by
    intro suf
    induction suf with
    | nil =>
      intro pre hx s hi
      rw [List.append_nil] at hx
      subst hx
      exact Ev.succ (hn s hi)
    | cons c suf ih =>
      intro pre hx s hi
      refine Ev.succ (hs pre c suf s hx hi fun s' hi' => ?_)
      have := ih (pre ++ [c]) (by rw [hx]; simp) s' hi'
      rw [List.length_append] at this
      exact this
  intro s hi
  exact key xs [] rfl s hi
end Go.Proofs.Ytdcpahfpnjnmcaa.L
end
section
namespace Go.Proofs.Ytdcpahfpnjnmcaa.L
open Go.RowKit Go.Proofs.YtdcpahfpnjnmcaaW.PrintWords Go.Proofs.YtdcpahfpnjnmcaaW.PrintLast Go.Proofs.YtdcpahfpnjnmcaaW.PrintMore Go.Proofs.Ytdcpahfpnjnmcaa.F
set_option linter.unusedVariables false
set_option linter.unusedSimpArgs false
abbrev Cell := S49
theorem in_eq (a b c : Int) : spec_l01In.f a b c = some (decide (b ≤ a ∧ a ≤ c)) := by
  unfold spec_l01In.f
  by_cases h : a ≥ b
  · rw [if_pos h]; simp [show b ≤ a from h]
  · rw [if_neg h]; simp [show ¬ b ≤ a from h]
theorem within_eq (a b c : Int) : impl_within.f a b c = some (decide (b ≤ a ∧ a ≤ c)) := by
  unfold impl_within.f
  by_cases h : a ≥ b
  · rw [if_pos h]; simp [show b ≤ a from h]
  · rw [if_neg h]; simp [show ¬ b ≤ a from h]
def ok1 (n : Int) : Prop := -100 ≤ n ∧ n ≤ 100
instance (n : Int) : Decidable (ok1 n) := by unfold ok1; infer_instance
theorem isCoordinate_eq (n : Int) : impl_isCoordinate.f n = some (decide (ok1 n)) := by
  unfold impl_isCoordinate.f
  rw [within_eq]
  rfl
theorem l02Cell_eq (x y : Int) : spec_l02Cell.f x y = some (decide (ok1 x ∧ ok1 y)) := by
  unfold spec_l02Cell.f
  rw [in_eq, in_eq]
  simp only [Option.bind_some]
  by_cases h : -100 ≤ x ∧ x ≤ 100
  · have h' : ok1 x := h
    simp only [h, and_self, decide_true, if_true, true_and, h', ok1]
  · have h' : ¬ ok1 x := h
    simp [h, h']
theorem eqCell_eq (a b c d : Int) : laws_eqCell.f a b c d = some (decide (a = c ∧ b = d)) := by
  unfold laws_eqCell.f
  by_cases h : a = c
  · by_cases h' : b = d <;> simp [h, h']
  · simp [h]
def small {α : Type} (l : List α) : Prop := l.length ≤ 4611686018427387904
theorem pre_lt {α : Type} {xs pre suf : List α} {c : α} (h : xs = pre ++ c :: suf) : ((pre.length : Int) < (xs.length : Int)) = True := by
  subst h; simp; omega
theorem pre_w {α : Type} {xs pre suf : List α} {c : α} (h : xs = pre ++ c :: suf) (hs : small xs) : wrap64 ((pre.length : Int) + 1) = (pre.length : Int) + 1 := by
  subst h
  unfold small at hs
  rw [List.length_append, List.length_cons] at hs
  exact w64 (by omega) (by omega)
theorem pre_0 {α : Type} (pre : List α) : (0 ≤ (pre.length : Int)) = True := by simp
theorem len_lt {α : Type} (xs : List α) : ((xs.length : Int) < (xs.length : Int)) = False := by simp
theorem at_pre {xs pre suf : List Cell} {c : Cell} (h : xs = pre ++ c :: suf) : rd_T49 xs (pre.length : Int) = c := by
  subst h; exact getD_at pre suf c _
theorem eqCellS_ev (a : List Cell) (ha : small a) : Ev (fun k => laws_eqCellS.f k a a) true := by
  unfold laws_eqCellS.f
  refine Ev.pos rfl ?_
  refine loop_list a (fun k i (_ : Unit) => laws_eqCellS.l0 k a a i) (fun _ _ _ => true) (fun _ _ => True) ?_ ?_ () trivial
  · intro _ _
    simp only [laws_eqCellS.l0, len_lt, if_false]
    exact Ev.now _
  · intro pre c suf _ hx _ ih
    simp only [laws_eqCellS.l0, pre_lt hx, pre_0, if_true, at_pre hx, eqCell_eq, and_self, decide_true, Option.bind_some, pre_w hx ha]
    exact ih () trivial
theorem pre_get {α : Type} {xs pre suf : List α} {c : α} (h : xs = pre ++ c :: suf) : xs[pre.length]? = some c := by
  subst h; simp
theorem pre_len {α : Type} {xs pre suf : List α} {c : α} (h : xs = pre ++ c :: suf) : pre.length < xs.length := by
  subst h; simp
def fits {α : Type} (l : List α) : Prop := l.length ≤ 1048576
theorem fits.small {α : Type} {l : List α} (h : fits l) : small l := by unfold fits at h; unfold L.small; omega
def cmpI (a b : Int) : Int := if a < b then -1 else if a > b then 1 else 0
theorem compare_eq (a b : Int) : cmp_Compare_int64.f a b = some (cmpI a b) := by
  unfold cmp_Compare_int64.f cmp_isNaN_int64.f cmpI
  simp only [bne_self_eq_false, Option.bind_some, Bool.false_eq_true, if_false]
  split
  · rfl
  · split <;> rfl
abbrev Cube := S47
abbrev LCube := S68
def okQ (c : Cube) : Prop := ok1 c.f0 ∧ ok1 c.f1 ∧ ok1 c.f2
instance (c : Cube) : Decidable (okQ c) := by unfold okQ; infer_instance
def ltQ (a b : Cube) : Prop := a.f2 < b.f2 ∨ a.f2 = b.f2 ∧ (a.f1 < b.f1 ∨ a.f1 = b.f1 ∧ a.f0 < b.f0)
instance (a b : Cube) : Decidable (ltQ a b) := by unfold ltQ; infer_instance
theorem ltQ_trans {a b c : Cube} (h : ltQ a b) (h' : ltQ b c) : ltQ a c := by unfold ltQ at *; omega
theorem at_preQ {xs pre suf : List Cube} {c : Cube} (h : xs = pre ++ c :: suf) : rd_T47 xs (pre.length : Int) = c := by
  subst h; exact getD_at pre suf c _
theorem at_preLQ {xs pre suf : List LCube} {c : LCube} (h : xs = pre ++ c :: suf) : rd_T68 xs (pre.length : Int) = c := by
  subst h; exact getD_at pre suf c _
theorem less9_eq (a b : Cube) : spec_l09Less.f a.f0 a.f1 a.f2 b.f0 b.f1 b.f2 = some (decide (ltQ a b)) := by
  unfold spec_l09Less.f ltQ
  by_cases h2 : a.f2 < b.f2
  · simp [h2]
  · by_cases e2 : a.f2 = b.f2
    · by_cases h1 : a.f1 < b.f1
      · simp [e2, h1]
      · by_cases e1 : a.f1 = b.f1
        · simp [e2, e1]
        · simp [e2, h1, e1]
    · simp [h2, e2]
def cmpV (a b : Cube) : Int := if cmpI a.f2 b.f2 = 0 then (if cmpI a.f1 b.f1 = 0 then cmpI a.f0 b.f0 else cmpI a.f1 b.f1) else cmpI a.f2 b.f2
theorem cmpV_ge {a b : Cube} : cmpV a b ≥ 0 ↔ ¬ ltQ a b := by
  unfold cmpV cmpI ltQ
  repeat' split
  all_goals constructor <;> intro h <;> omega
theorem cmpV_eq (a b : Cube) : impl_compareCubes.f a.f0 a.f1 a.f2 b.f0 b.f1 b.f2 = some (cmpV a b) := by
  unfold impl_compareCubes.f impl_compareCells.f cmpV
  simp only [compare_eq, Option.bind_some]
  repeat' split
  all_goals rfl
theorem l09Cube_eq (c : Cube) : spec_l09Cube.f c.f0 c.f1 c.f2 = some (decide (okQ c)) := by
  unfold spec_l09Cube.f
  rw [l02Cell_eq, in_eq]
  simp only [Option.bind_some]
  by_cases h : ok1 c.f0 ∧ ok1 c.f1
  · rw [decide_eq_true h, if_pos rfl]
    simp only [okQ, ok1, h.1, h.2, true_and]
    have h1 := h.1
    have h2 := h.2
    unfold ok1 at h1 h2
    simp [h1, h2]
  · rw [decide_eq_false h, if_neg (by simp)]
    have : ¬ okQ c := fun h' => h ⟨h'.1, h'.2.1⟩
    rw [decide_eq_false this]
def goodFromQ : Option Cube → List Cube → Bool
  | _, [] => true
  | p, c :: r => decide (okQ c) && (match p with | none => true | some q => decide (ltQ q c)) && goodFromQ (some c) r
def solidB (l : List Cube) : Bool := goodFromQ none l && decide (1 ≤ (l.length : Int) ∧ (l.length : Int) ≤ 24)
theorem specSolid_ev (l : List Cube) (hs : small l) : Ev (fun k => spec_l09Solid.f k l) (solidB l) := by
  unfold spec_l09Solid.f
  refine loop_list l (fun k i (_ : Unit) => spec_l09Solid.l0 k l i) (fun pre suf _ => goodFromQ pre.getLast? suf && decide (1 ≤ (l.length : Int) ∧ (l.length : Int) ≤ 24)) (fun _ _ => True) ?_ ?_ () trivial
  · intro _ _
    simp only [spec_l09Solid.l0, len_lt, if_false, in_eq, Option.bind_some]
    refine Ev.of_eq (Ev.now _) ?_
    simp [goodFromQ]
  · intro pre c suf _ hx _ ih
    simp only [spec_l09Solid.l0, pre_lt hx, pre_0, if_true, at_preQ hx, l09Cube_eq, Option.bind_some, pre_w hx hs]
    by_cases hc : okQ c
    · simp only [hc, decide_true, if_true]
      rcases List.eq_nil_or_concat pre with rfl | ⟨L, b, rfl⟩
      · refine Ev.neg (by simp) (Ev.of_eq (ih () trivial) ?_)
        simp [goodFromQ, hc]
      · rw [List.concat_eq_append] at hx ih ⊢
        have hx2 : l = L ++ b :: (c :: suf) := by rw [hx]; simp
        have e1 : wrap64 (((L ++ [b]).length : Int) - 1) = (L.length : Int) := by
          unfold small at hs
          rw [hx2] at hs
          simp only [List.length_append, List.length_cons, List.length_nil] at hs ⊢
          rw [w64 (by omega) (by omega)]; omega
        refine Ev.pos (by simp <;> omega) ?_
        simp only [e1, pre_0, if_true, pre_lt hx2, at_preQ hx2, less9_eq, Option.bind_some]
        by_cases hl : ltQ b c
        · refine Ev.pos (by simpa using hl) (Ev.of_eq (ih () trivial) ?_)
          simp [goodFromQ, hc, hl]
        · refine Ev.neg (by simpa using hl) (Ev.of_eq (Ev.now _) ?_)
          simp [goodFromQ, hc, hl]
    · simp only [hc, decide_false, Bool.false_eq_true, if_false]
      refine Ev.of_eq (Ev.now _) ?_
      simp [goodFromQ, hc]
theorem implSolid_ev (l : List Cube) (hs : small l) : Ev (fun k => impl_isSolid.f k l) (solidB l) := by
  unfold impl_isSolid.f
  refine loop_list l (fun k i (_ : Unit) => impl_isSolid.l0 k l l (l.length : Int) i) (fun pre suf _ => goodFromQ pre.getLast? suf && decide (1 ≤ (l.length : Int) ∧ (l.length : Int) ≤ 24)) (fun _ _ => True) ?_ ?_ () trivial
  · intro _ _
    simp only [impl_isSolid.l0, len_lt, if_false]
    refine Ev.of_eq (Ev.if_ (fun _ => Ev.now _) (fun _ => Ev.now _)) ?_
    by_cases h : (l.length : Int) ≥ 1
    · rw [if_pos h]; simp [goodFromQ, show 1 ≤ (l.length : Int) from h]
    · rw [if_neg h]; simp [goodFromQ, show ¬ 1 ≤ (l.length : Int) from h]
  · intro pre c suf _ hx _ ih
    simp only [impl_isSolid.l0, pre_lt hx, pre_0, if_true, at_preQ hx, isCoordinate_eq, Option.bind_some, pre_w hx hs]
    by_cases h0 : ok1 c.f0
    · by_cases h1 : ok1 c.f1
      · by_cases h2 : ok1 c.f2
        · have hc : okQ c := ⟨h0, h1, h2⟩
          simp only [h0, h1, h2, decide_true, if_true]
          rcases List.eq_nil_or_concat pre with rfl | ⟨L, b, rfl⟩
          · refine Ev.neg (by simp) (Ev.of_eq (ih () trivial) ?_)
            simp [goodFromQ, hc]
          · rw [List.concat_eq_append] at hx ih ⊢
            have hx2 : l = L ++ b :: (c :: suf) := by rw [hx]; simp
            have e1 : wrap64 (((L ++ [b]).length : Int) - 1) = (L.length : Int) := by
              unfold small at hs
              rw [hx2] at hs
              simp only [List.length_append, List.length_cons, List.length_nil] at hs ⊢
              rw [w64 (by omega) (by omega)]; omega
            refine Ev.pos (by simp <;> omega) ?_
            simp only [e1, pre_0, if_true, pre_lt hx2, at_preQ hx2, cmpV_eq, Option.bind_some]
            by_cases hl : ltQ b c
            · refine Ev.neg (fun h => cmpV_ge.1 h hl) (Ev.of_eq (ih () trivial) ?_)
              simp [goodFromQ, hc, hl]
            · refine Ev.pos (cmpV_ge.2 hl) (Ev.of_eq (Ev.now _) ?_)
              simp [goodFromQ, hc, hl]
        · have hc : ¬ okQ c := fun h => h2 h.2.2
          simp only [h0, h1, h2, decide_true, if_true, decide_false, Bool.false_eq_true, if_false]
          refine Ev.of_eq (Ev.now _) ?_
          simp [goodFromQ, hc]
      · have hc : ¬ okQ c := fun h => h1 h.2.1
        simp only [h0, h1, decide_true, if_true, decide_false, Bool.false_eq_true, if_false]
        refine Ev.of_eq (Ev.now _) ?_
        simp [goodFromQ, hc]
    · have hc : ¬ okQ c := fun h => h0 h.1
      simp only [h0, decide_false, Bool.false_eq_true, if_false]
      refine Ev.of_eq (Ev.now _) ?_
      simp [goodFromQ, hc]
theorem goodFromQ_ok : ∀ (l : List Cube) (p : Option Cube), goodFromQ p l = true → ∀ c ∈ l, okQ c
  | [], _, _, c, h => by simp at h
  | a :: r, p, hg, c, h => by
    simp only [goodFromQ, Bool.and_eq_true, decide_eq_true_eq] at hg
    rcases List.mem_cons.1 h with rfl | h
    · exact hg.1.1
    · exact goodFromQ_ok r _ hg.2 c h
theorem goodFromQ_lt : ∀ (l : List Cube) (p : Option Cube), goodFromQ p l = true → (∀ q, p = some q → ∀ c ∈ l, ltQ q c) ∧ l.Pairwise ltQ
  | [], _, _ => ⟨fun _ _ c h => by simp at h, List.Pairwise.nil⟩
  | a :: r, p, hg => by
    simp only [goodFromQ, Bool.and_eq_true, decide_eq_true_eq] at hg
    obtain ⟨h1, h2⟩ := goodFromQ_lt r (some a) hg.2
    have h3 := h1 a rfl
    refine ⟨fun q hq c hc => ?_, List.pairwise_cons.2 ⟨h3, h2⟩⟩
    subst hq
    have h4 : ltQ q a := by simpa using hg.1.2
    rcases List.mem_cons.1 hc with rfl | hc
    · exact h4
    · exact ltQ_trans h4 (h3 c hc)
theorem goodFromQ_of : ∀ (l : List Cube) (p : Option Cube), (∀ c ∈ l, okQ c) → (∀ q, p = some q → ∀ c ∈ l, ltQ q c) → l.Pairwise ltQ → goodFromQ p l = true
  | [], _, _, _, _ => rfl
  | a :: r, p, h0, h1, h2 => by
    obtain ⟨h3, h4⟩ := List.pairwise_cons.1 h2
    simp only [goodFromQ, Bool.and_eq_true, decide_eq_true_eq]
    refine ⟨⟨h0 a List.mem_cons_self, ?_⟩, goodFromQ_of r (some a) (fun c hc => h0 c (List.mem_cons_of_mem _ hc)) (fun q hq c hc => by injection hq with hq; subst hq; exact h3 c hc) h4⟩
    cases p with
    | none => rfl
    | some q => simpa using h1 q rfl a List.mem_cons_self
theorem solidB_iff {l : List Cube} : solidB l = true ↔ (∀ c ∈ l, okQ c) ∧ l.Pairwise ltQ ∧ 1 ≤ l.length ∧ l.length ≤ 24 := by
  unfold solidB
  rw [Bool.and_eq_true, decide_eq_true_eq]
  constructor
  · rintro ⟨h, h'⟩
    exact ⟨goodFromQ_ok l _ h, (goodFromQ_lt l _ h).2, by omega, by omega⟩
  · rintro ⟨h1, h2, h3, h4⟩
    exact ⟨goodFromQ_of l none h1 (fun _ h => by cases h) h2, by omega, by omega⟩
theorem eqCube_eq (a b c d e f : Int) : laws_eqCube.f a b c d e f = some (decide (a = d ∧ b = e ∧ c = f)) := by
  unfold laws_eqCube.f
  by_cases h : a = d
  · by_cases h' : b = e
    · by_cases h'' : c = f <;> simp [h, h', h'']
    · simp [h, h']
  · simp [h]
theorem eqCubeS_ev (a : List Cube) (ha : small a) : Ev (fun k => laws_eqCubeS.f k a a) true := by
  unfold laws_eqCubeS.f
  refine Ev.pos rfl ?_
  refine loop_list a (fun k i (_ : Unit) => laws_eqCubeS.l0 k a a i) (fun _ _ _ => true) (fun _ _ => True) ?_ ?_ () trivial
  · intro _ _
    simp only [laws_eqCubeS.l0, len_lt, if_false]
    exact Ev.now _
  · intro pre c suf _ hx _ ih
    simp only [laws_eqCubeS.l0, pre_lt hx, pre_0, if_true, at_preQ hx, eqCube_eq, and_self, decide_true, Option.bind_some, pre_w hx ha]
    exact ih () trivial
def cubeOf (c : LCube) : Cube := ⟨c.f0, c.f1, c.f2⟩
theorem toCube_eq (x y z : Int) : laws_toCube.f x y z = some (x, y, z) := rfl
theorem toCubeS_ev (a : List LCube) (ha : a.length ≤ 1048576) : Ev (fun k => laws_toCubeS.f k a) (a.map cubeOf) := by
  have hs : small a := by unfold small; omega
  unfold laws_toCubeS.f
  refine Ev.pos (by omega) (Ev.pos (by omega) ?_)
  have := loop_list a (fun k i (s : List Cube) => laws_toCubeS.l0 k a s i) (fun _ suf s => s.take (a.length - suf.length) ++ suf.map cubeOf) (fun pre s => s.length = a.length) ?_ ?_ (List.replicate a.length z47) (by simp)
  · refine Ev.of_eq this ?_
    simp
  · intro s hl
    simp only [laws_toCubeS.l0, len_lt, if_false]
    refine Ev.of_eq (Ev.now _) ?_
    simp [List.take_of_length_le, hl]
  · intro pre c suf s hx hl ih
    have hlt : ((pre.length : Int) < (s.length : Int)) = True := by rw [hl]; exact pre_lt hx
    simp only [laws_toCubeS.l0, pre_lt hx, pre_0, if_true, at_preLQ hx, toCube_eq, Option.bind_some, hlt, pre_w hx hs]
    refine Ev.of_eq (ih (s.set (pre.length : Int).toNat ⟨c.f0, c.f1, c.f2⟩) (by simpa using hl)) ?_
    have hn : a.length = pre.length + (suf.length + 1) := by rw [hx]; simp
    have e1 : a.length - suf.length = pre.length + 1 := by omega
    have e2 : a.length - (c :: suf).length = pre.length := by simp; omega
    rw [e1, e2, Int.toNat_natCast, List.take_add_one, List.getElem?_set_self (by omega), List.take_set_of_le (Nat.le_refl _)]
    simp [cubeOf]
def markedQ (m : Int) (n : Nat) : List Cube := (List.range n).map fun (i : Nat) => ⟨m + 3 * (i : Int), m + 1 + 3 * (i : Int), m + 2 + 3 * (i : Int)⟩
theorem markedQ_len (m : Int) (n : Nat) : (markedQ m n).length = n := by simp [markedQ]
theorem markedQ_get (m : Int) (n i : Nat) (h : i < n) : (markedQ m n)[i]? = some ⟨m + 3 * (i : Int), m + 1 + 3 * (i : Int), m + 2 + 3 * (i : Int)⟩ := by
  simp [markedQ, h]
theorem markCubeS_from (a : List Cube) (m : Int) (h0 : 0 ≤ m) (h1 : m ≤ 4611686018427387904) (ha : fits a) : Ev (fun k => laws_markCubeS.f k a m) (m + 3 * (a.length : Int), markedQ m a.length) := by
  unfold laws_markCubeS.f
  have hs := ha.small
  unfold fits at ha
  have := loop_list a (fun k i (s : List Cube × Int) => laws_markCubeS.l0 k s.1 s.2 i) (fun pre _ s => (m + 3 * (a.length : Int), s.1.take pre.length ++ (markedQ m a.length).drop pre.length))
    (fun pre s => s.1.length = a.length ∧ s.2 = m + 3 * (pre.length : Int)) ?_ ?_ (a, m) ⟨rfl, by simp⟩
  · simpa using this
  · rintro ⟨l, n⟩ ⟨hl, hn⟩
    simp only at hl hn
    simp only [laws_markCubeS.l0, hl, len_lt, if_false]
    refine Ev.of_eq (Ev.now _) ?_
    rw [List.take_of_length_le (by omega), List.drop_of_length_le (by rw [markedQ_len]; exact Nat.le_refl _), List.append_nil, hn]
  · rintro pre c suf ⟨l, n⟩ hx ⟨hl, hn⟩ ih
    have hp := pre_len hx
    simp only at hl hn
    subst hn
    have hlt : ((pre.length : Int) < (l.length : Int)) = True := by rw [hl]; exact pre_lt hx
    have e1 : wrap64 (m + 3 * (pre.length : Int) + 1) = m + 1 + 3 * (pre.length : Int) := by rw [w64 (by omega) (by omega)]; omega
    have e2 : wrap64 (m + 1 + 3 * (pre.length : Int) + 1) = m + 2 + 3 * (pre.length : Int) := by rw [w64 (by omega) (by omega)]; omega
    have e4 : wrap64 (m + 2 + 3 * (pre.length : Int) + 1) = m + 3 * ((pre.length : Int) + 1) := by rw [w64 (by omega) (by omega)]; omega
    have e3 : ∀ d : Cube, rd_T47 (l.set pre.length d) (pre.length : Int) = d := by
      intro d
      simp [rd_T47, List.getD, hl, hp]
    simp only [laws_markCubeS.l0, hlt, pre_0, if_true, Option.bind_some, Int.toNat_natCast, e3, List.set_set, e1, e2, e4, pre_w hx hs]
    refine Ev.of_eq (ih (l.set pre.length ⟨m + 3 * (pre.length : Int), m + 1 + 3 * (pre.length : Int), m + 2 + 3 * (pre.length : Int)⟩, m + 3 * ((pre.length : Int) + 1)) ⟨by simpa using hl, by simp⟩) ?_
    refine Prod.ext rfl ?_
    simp only [List.length_append, List.length_singleton]
    rw [List.take_add_one, List.getElem?_set_self (by omega), List.take_set_of_le (Nat.le_refl _), List.drop_eq_getElem_cons (i := pre.length) (by rw [markedQ_len]; omega)]
    have := markedQ_get m a.length pre.length hp
    rw [List.getElem?_eq_getElem (by rw [markedQ_len]; omega)] at this
    simp [Option.some.inj this]
theorem szCubeS_eq (a : List LCube) (n : Int) (h0 : 0 ≤ n) (h1 : n ≤ 1048576) (ha : a.length ≤ 9223372036854775807) : laws_szCubeS.f a n = some (if n - (a.length : Int) < 0 then -1 else n - (a.length : Int)) := by
  unfold laws_szCubeS.f
  rw [w64 (by omega) (by omega)]
  split <;> rfl
end Go.Proofs.Ytdcpahfpnjnmcaa.L
end
section
namespace Go.Proofs.Ytdcpahfpnjnmcaa.F
open Go.RowKit Go.Proofs.YtdcpahfpnjnmcaaW.PrintWords Go.Proofs.YtdcpahfpnjnmcaaW.PrintLast Go.Proofs.YtdcpahfpnjnmcaaW.PrintMore
attribute [local go_sem] max2_int min2_int max_two min_two max_three min_three max_four min_four
set_option linter.unusedVariables false
set_option linter.unusedSimpArgs false
theorem eqA47 (d : Nat) (w : World) (x0 y0 : Int) (x1 y1 : Int) (x2 y2 : Int) :
    (Op.equalIn (d + 2) 47 (.agg #[.int .i64 x0, .int .i64 x1, .int .i64 x2]) (.agg #[.int .i64 y0, .int .i64 y1, .int .i64 y2])).run Try.prog w = .ok (x0 == y0 && (x1 == y1 && (x2 == y2))) w := by
  refine eqA_of Try.underlying47 (by kernel_rfl) ?_
  refine eqf_cons (by rfl) (by go_simp; rfl) (by go_simp; rfl) (by go_simp) ?_
  refine eqf_cons (by rfl) (by go_simp; rfl) (by go_simp; rfl) (by go_simp) ?_
  exact eqf_last (by rfl) (by go_simp; rfl) (by go_simp; rfl) (by go_simp)
end Go.Proofs.Ytdcpahfpnjnmcaa.F
end
section
namespace Go.Proofs.Ytdcpahfpnjnmcaa.L
open Go.RowKit Go.Proofs.YtdcpahfpnjnmcaaW.PrintWords Go.Proofs.YtdcpahfpnjnmcaaW.PrintLast Go.Proofs.YtdcpahfpnjnmcaaW.PrintMore Go.Proofs.Ytdcpahfpnjnmcaa.F
set_option linter.unusedVariables false
set_option linter.unusedSimpArgs false
def flatQ (c : Cube) : S49 := ⟨c.f0, c.f1⟩
def layerQ (l : List Cube) (z : Int) : List S49 := (l.filter fun c => decide (c.f2 = z)).map flatQ
def layersQ (l : List Cube) (z : Int) (n : Nat) : List (List S49) := (List.range n).map fun (i : Nat) => layerQ l (z + (i : Int))
def headQ (l : List Cube) : Int := (rd_T47 l 0).f2
def lastQ (l : List Cube) : Int := (rd_T47 l ((l.length : Int) - 1)).f2
def layersR (l : List Cube) : List (List S49) × Int := if solidB l = true then (layersQ l (headQ l) (lastQ l - headQ l + 1).toNat, 0) else ([], 1)
theorem head_last {l : List Cube} (h : solidB l = true) : (∀ c ∈ l, headQ l ≤ c.f2 ∧ c.f2 ≤ lastQ l) ∧ ok1 (headQ l) ∧ ok1 (lastQ l) ∧ headQ l ≤ lastQ l := by
  obtain ⟨h1, h2, h3, h4⟩ := solidB_iff.1 h
  have hd (i : Nat) (hi : i < l.length) : rd_T47 l (i : Int) = l[i] := by
    have e : l = l.take i ++ l[i] :: l.drop (i + 1) := by rw [List.getElem_cons_drop, List.take_append_drop]
    have e2 := at_preQ e
    rw [List.length_take, Nat.min_eq_left (by omega)] at e2
    exact e2
  have e0 : headQ l = l[0].f2 := by unfold headQ; rw [← hd 0 (by omega)]; rfl
  have e1 : lastQ l = (l[l.length - 1]'(by omega)).f2 := by
    unfold lastQ
    rw [← hd (l.length - 1) (by omega)]
    congr 2; omega
  have hp := List.pairwise_iff_getElem.1 h2
  have hle : ∀ i j (hi : i < l.length) (hj : j < l.length), i ≤ j → l[i].f2 ≤ l[j].f2 := fun i j hi hj hij => by
    rcases Nat.lt_or_eq_of_le hij with g | g
    · have := hp i j hi hj g
      unfold ltQ at this; omega
    · subst g; omega
  have o0 := h1 _ (List.getElem_mem (l := l) (n := 0) (by omega))
  have o1 := h1 _ (List.getElem_mem (l := l) (n := l.length - 1) (by omega))
  refine ⟨fun c hc => ?_, by rw [e0]; exact o0.2.2, by rw [e1]; exact o1.2.2, by rw [e0, e1]; exact hle _ _ _ _ (by omega)⟩
  obtain ⟨j, hj, rfl⟩ := List.getElem_of_mem hc
  rw [e0, e1]
  exact ⟨hle 0 j _ hj (by omega), hle j (l.length - 1) hj _ (by omega)⟩
theorem layerQ_len (l : List Cube) (z : Int) : (layerQ l z).length ≤ l.length := by
  unfold layerQ
  rw [List.length_map]
  exact List.length_filter_le _ _
theorem specLayer_l1 (l : List Cube) (hl : l.length ≤ 1048576) (acc : List (List S49)) (hacc : acc.length ≤ 1048576) (z : Int) {r : List (List S49) × Int} (hc : Ev (fun k => spec_LayersOf.l0 k l (acc ++ [layerQ l z]) (wrap64 (z + 1))) r) :
    Ev (fun k => spec_LayersOf.l1 k l acc z [] 0) r := by
  have hs : small l := by unfold small; omega
  refine loop_list l (fun k i (s : List S49) => spec_LayersOf.l1 k l acc z s i) (fun _ _ _ => r) (fun pre s => s = layerQ pre z) ?_ ?_ [] rfl
  · rintro s rfl
    simp only [spec_LayersOf.l1, len_lt, if_false]
    exact Ev.pos (by omega) hc
  · rintro pre c suf s hx rfl ih
    have hp := pre_len hx
    have hle := layerQ_len pre z
    simp only [spec_LayersOf.l1, pre_lt hx, pre_0, if_true, at_preQ hx, pre_w hx hs]
    by_cases e : c.f2 = z
    · exact Ev.pos e (Ev.pos (by omega) (ih _ (by simp [layerQ, e, flatQ])))
    · exact Ev.neg e (ih _ (by simp [layerQ, e]))
theorem specLayers_ev (l : List Cube) (hs : small l) : Ev (fun k => spec_LayersOf.f k l) (layersR l) := by
  unfold spec_LayersOf.f layersR
  refine Ev.bind (specSolid_ev l hs) (Ev.if_ (fun h => ?_) (fun _ => Ev.now _))
  obtain ⟨h1, h2, h3, h4⟩ := solidB_iff.1 h
  obtain ⟨g1, g2, g3, g4⟩ := head_last h
  unfold ok1 at g2 g3
  have el : wrap64 ((l.length : Int) - 1) = (l.length : Int) - 1 := w64 (by omega) (by omega)
  refine Ev.pos (by omega) ?_
  have key : ∀ (q i : Nat), i + q = (lastQ l - headQ l + 1).toNat → Ev (fun k => spec_LayersOf.l0 k l (layersQ l (headQ l) i) (headQ l + (i : Int))) (layersQ l (headQ l) (lastQ l - headQ l + 1).toNat, 0) := by
    intro q
    induction q with
    | zero =>
      intro i hi
      refine Ev.succ ?_
      simp only [spec_LayersOf.l0, el]
      refine Ev.pos (by omega) (Ev.pos (by omega) (Ev.neg (by show ¬ headQ l + (i : Int) ≤ lastQ l; omega) (Ev.of_eq (Ev.now _) (by rw [show i = (lastQ l - headQ l + 1).toNat by omega]))))
    | succ q ih =>
      intro i hi
      refine Ev.succ ?_
      simp only [spec_LayersOf.l0, el]
      refine Ev.pos (by omega) (Ev.pos (by omega) (Ev.pos (by show headQ l + (i : Int) ≤ lastQ l; omega) (specLayer_l1 l (by omega) _ (by simp [layersQ]; omega) _ ?_)))
      have ew : wrap64 (headQ l + (i : Int) + 1) = headQ l + ((i + 1 : Nat) : Int) := by rw [w64 (by omega) (by omega)]; omega
      rw [ew]
      have := ih (i + 1) (by omega)
      have e : layersQ l (headQ l) (i + 1) = layersQ l (headQ l) i ++ [layerQ l (headQ l + (i : Int))] := by simp [layersQ, List.range_succ]
      rw [e] at this
      exact this
  have := key (lastQ l - headQ l + 1).toNat 0 (by omega)
  rw [show headQ l + ((0 : Nat) : Int) = headQ l by omega] at this
  exact this
theorem layersQ_rd (l : List Cube) (z : Int) (n i : Nat) (hi : i < n) : rd_L2 (layersQ l z n) (i : Int) = layerQ l (z + (i : Int)) := by
  unfold rd_L2
  rw [List.getD_eq_getElem?_getD, Int.toNat_natCast, List.getElem?_eq_getElem (by simpa [layersQ] using hi)]
  simp [layersQ]
theorem layersQ_snoc (pre : List Cube) (c : Cube) (z : Int) (n i : Nat) (hi : i < n) (hc : c.f2 = z + (i : Int)) : (layersQ pre z n).set i (layerQ pre (z + (i : Int)) ++ [flatQ c]) = layersQ (pre ++ [c]) z n := by
  apply List.ext_getElem
  · simp [layersQ]
  · intro t h1 h2
    simp only [layersQ, List.length_set, List.length_map, List.length_range] at h1
    rw [List.getElem_set]
    simp only [layersQ, List.getElem_map, List.getElem_range]
    by_cases e : i = t
    · subst e
      simp [layerQ, hc]
    · have : ¬ c.f2 = z + (t : Int) := by omega
      simp [layerQ, e, this]
theorem implLayers_ev (l : List Cube) (hs : small l) : Ev (fun k => impl_LayersOf.f k l) (layersR l) := by
  unfold impl_LayersOf.f layersR
  refine Ev.bind (implSolid_ev l hs) (Ev.if_ (fun h => ?_) (fun _ => Ev.now _))
  obtain ⟨h1, h2, h3, h4⟩ := solidB_iff.1 h
  obtain ⟨g1, g2, g3, g4⟩ := head_last h
  unfold ok1 at g2 g3
  have el : wrap64 ((l.length : Int) - 1) = (l.length : Int) - 1 := w64 (by omega) (by omega)
  have e1 : (rd_T47 l ((l.length : Int) - 1)).f2 = lastQ l := rfl
  have e2 : (rd_T47 l 0).f2 = headQ l := rfl
  rw [el, e1, e2, w64 (n := lastQ l - headQ l) (by omega) (by omega), w64 (n := lastQ l - headQ l + 1) (by omega) (by omega)]
  refine Ev.pos (by omega) (Ev.pos (by omega) (Ev.pos (by omega) (Ev.pos (by omega) (Ev.pos (by omega) ?_))))
  have h0 : List.replicate (lastQ l - headQ l + 1).toNat ([] : List S49) = layersQ [] (headQ l) (lastQ l - headQ l + 1).toNat := by
    apply List.ext_getElem
    · simp [layersQ]
    · intro t h1 h2
      simp [layersQ, layerQ]
  rw [h0]
  refine loop_list l (fun k i (s : List (List S49)) => impl_LayersOf.l0 k (headQ l) s l (l.length : Int) i) (fun _ _ _ => (layersQ l (headQ l) (lastQ l - headQ l + 1).toNat, 0)) (fun pre s => s = layersQ pre (headQ l) (lastQ l - headQ l + 1).toNat) ?_ ?_ (layersQ [] (headQ l) (lastQ l - headQ l + 1).toNat) rfl
  · rintro s rfl
    simp only [impl_LayersOf.l0, len_lt, if_false]
    exact Ev.now _
  · rintro pre c suf s hx rfl ih
    have hc : c ∈ l := by rw [hx]; simp
    obtain ⟨b1, b2⟩ := g1 c hc
    have hp := pre_len hx
    obtain ⟨i, hi⟩ : ∃ i : Nat, c.f2 = headQ l + (i : Int) := ⟨(c.f2 - headQ l).toNat, by omega⟩
    have ew : wrap64 (c.f2 - headQ l) = (i : Int) := by rw [w64 (by omega) (by omega)]; omega
    have hlen : (layersQ pre (headQ l) (lastQ l - headQ l + 1).toNat).length = (lastQ l - headQ l + 1).toNat := by simp [layersQ]
    have hle := layerQ_len pre (headQ l + (i : Int))
    simp only [impl_LayersOf.l0, pre_lt hx, pre_0, if_true, at_preQ hx, pre_w hx hs, ew]
    rw [layersQ_rd pre (headQ l) _ i (by omega), Int.toNat_natCast]
    refine Ev.pos (by omega) (Ev.pos (by omega) (Ev.pos (by omega) (ih _ ?_)))
    exact layersQ_snoc pre c (headQ l) _ i (by omega) hi
def markedCF (m : Int) (n : Nat) : List Cell := (List.range n).map fun (i : Nat) => ⟨m + 2 * (i : Int), m + 1 + 2 * (i : Int)⟩
theorem markedCF_len (m : Int) (n : Nat) : (markedCF m n).length = n := by simp [markedCF]
theorem markedCF_get (m : Int) (n i : Nat) (h : i < n) : (markedCF m n)[i]? = some ⟨m + 2 * (i : Int), m + 1 + 2 * (i : Int)⟩ := by
  simp [markedCF, h]
theorem markCellS_from (a : List Cell) (m : Int) (h0 : 0 ≤ m) (h1 : m ≤ 4611686018427387904) (ha : fits a) : Ev (fun k => laws_markCellS.f k a m) (m + 2 * (a.length : Int), markedCF m a.length) := by
  unfold laws_markCellS.f
  have hs := ha.small
  unfold fits at ha
  have := loop_list a (fun k i (s : List Cell × Int) => laws_markCellS.l0 k s.1 s.2 i) (fun pre _ s => (m + 2 * (a.length : Int), s.1.take pre.length ++ (markedCF m a.length).drop pre.length))
    (fun pre s => s.1.length = a.length ∧ s.2 = m + 2 * (pre.length : Int)) ?_ ?_ (a, m) ⟨rfl, by simp⟩
  · simpa using this
  · rintro ⟨l, n⟩ ⟨hl, hn⟩
    simp only at hl hn
    simp only [laws_markCellS.l0, hl, len_lt, if_false]
    refine Ev.of_eq (Ev.now _) ?_
    rw [List.take_of_length_le (by omega), List.drop_of_length_le (by rw [markedCF_len]; exact Nat.le_refl _), List.append_nil, hn]
  · rintro pre c suf ⟨l, n⟩ hx ⟨hl, hn⟩ ih
    have hp := pre_len hx
    simp only at hl hn
    subst hn
    have hlt : ((pre.length : Int) < (l.length : Int)) = True := by rw [hl]; exact pre_lt hx
    have e1 : wrap64 (m + 2 * (pre.length : Int) + 1) = m + 1 + 2 * (pre.length : Int) := by rw [w64 (by omega) (by omega)]; omega
    have e2 : wrap64 (m + 1 + 2 * (pre.length : Int) + 1) = m + 2 * ((pre.length : Int) + 1) := by rw [w64 (by omega) (by omega)]; omega
    have e3 : rd_T49 (l.set pre.length (⟨m + 2 * (pre.length : Int), (rd_T49 l (pre.length : Int)).f1⟩ : Cell)) (pre.length : Int) = ⟨m + 2 * (pre.length : Int), (rd_T49 l (pre.length : Int)).f1⟩ := by
      simp [rd_T49, List.getD, hl, hp]
    simp only [laws_markCellS.l0, hlt, pre_0, if_true, Option.bind_some, Int.toNat_natCast, e3, List.set_set, e1, e2, pre_w hx hs]
    refine Ev.of_eq (ih (l.set pre.length ⟨m + 2 * (pre.length : Int), m + 1 + 2 * (pre.length : Int)⟩, m + 2 * ((pre.length : Int) + 1)) ⟨by simpa using hl, by simp⟩) ?_
    refine Prod.ext rfl ?_
    simp only [List.length_append, List.length_singleton]
    rw [List.take_add_one, List.getElem?_set_self (by omega), List.take_set_of_le (Nat.le_refl _), List.drop_eq_getElem_cons (i := pre.length) (by rw [markedCF_len]; omega)]
    have := markedCF_get m a.length pre.length hp
    rw [List.getElem?_eq_getElem (by rw [markedCF_len]; omega)] at this
    simp [Option.some.inj this]
theorem heldCellS_fromC (m : Int) (n : Nat) (h0 : 0 ≤ m) (h1 : m ≤ 4611686018427387904) (hn : n ≤ 1048576) : Ev (fun k => laws_heldCellS.f k (markedCF m n) m) (m + 2 * (n : Int)) := by
  unfold laws_heldCellS.f
  have hs : small (markedCF m n) := by unfold small; rw [markedCF_len]; omega
  refine loop_list (markedCF m n) (fun k i (s : Int) => laws_heldCellS.l0 k (markedCF m n) s i) (fun _ _ _ => m + 2 * (n : Int)) (fun pre s => s = m + 2 * (pre.length : Int)) ?_ ?_ m (by simp)
  · rintro s rfl
    simp only [laws_heldCellS.l0, len_lt, if_false]
    rw [markedCF_len]
    exact Ev.now _
  · rintro pre c suf s hx rfl ih
    have hp := pre_len hx
    rw [markedCF_len] at hp
    have hc := pre_get hx
    rw [markedCF_get m n _ hp] at hc
    have hc := Option.some.inj hc
    have e1 : wrap64 (m + 2 * (pre.length : Int) + 1) = m + 1 + 2 * (pre.length : Int) := by rw [w64 (by omega) (by omega)]; omega
    have e2 : wrap64 (m + 1 + 2 * (pre.length : Int) + 1) = m + 2 * ((pre.length : Int) + 1) := by rw [w64 (by omega) (by omega)]; omega
    simp only [laws_heldCellS.l0, pre_lt hx, pre_0, if_true, at_pre hx, ← hc, e1, e2, pre_w hx hs]
    exact ih _ (by simp)
def totSS : List (List Cell) → Nat
  | [] => 0
  | x :: r => x.length + totSS r
def mkSS : List (List Cell) → Int → List (List Cell)
  | [], _ => []
  | x :: r, m => markedCF m x.length :: mkSS r (m + 2 * (x.length : Int))
theorem mkSS_len : ∀ (L : List (List Cell)) (m : Int), (mkSS L m).length = L.length
  | [], _ => rfl
  | x :: r, m => by unfold mkSS; rw [List.length_cons, List.length_cons, mkSS_len r]
def fitsSS (L : List (List Cell)) : Prop := L.length ≤ 1048576 ∧ (∀ x ∈ L, fits x) ∧ totSS L ≤ 1000000000000
theorem markSS_l : ∀ (suf pre : List (List Cell)) (m : Int), (pre ++ suf).length ≤ 1048576 → (∀ x ∈ suf, fits x) → 0 ≤ m → m + 2 * (totSS suf : Int) ≤ 4611686018427387904 →
    Ev (fun k => laws_markCellSS.l0 k (pre ++ suf) m (pre.length : Int)) (m + 2 * (totSS suf : Int), pre ++ mkSS suf m)
  | [], pre, m, hl, hf, h0, h1 => by
    refine Ev.succ ?_
    simp only [laws_markCellSS.l0]
    refine Ev.neg (by simp) (Ev.of_eq (Ev.now _) ?_)
    simp [totSS, mkSS]
  | x :: suf, pre, m, hl, hf, h0, h1 => by
    refine Ev.succ ?_
    have hl' := hl
    simp only [List.length_append, List.length_cons] at hl'
    simp only [totSS] at h1 ⊢
    have hg : (pre ++ x :: suf).getD (pre.length : Int).toNat [] = x := getD_at pre suf x _
    have hset (y : List Cell) : (pre ++ x :: suf).set (pre.length : Int).toNat y = (pre ++ [y]) ++ suf := by simp
    simp only [laws_markCellSS.l0, hg, hset]
    refine Ev.pos (by simp; omega) (Ev.pos (by omega) (Ev.bind (markCellS_from x m h0 (by omega) (hf x List.mem_cons_self)) ?_))
    have ew : wrap64 ((pre.length : Int) + 1) = ((pre ++ [markedCF m x.length]).length : Int) := by rw [w64 (by omega) (by omega)]; simp
    simp only [ew]
    refine Ev.of_eq (markSS_l suf (pre ++ [markedCF m x.length]) (m + 2 * (x.length : Int)) (by simp; omega) (fun y hy => hf y (List.mem_cons_of_mem _ hy)) (by omega) (by omega)) ?_
    refine Prod.ext ?_ ?_
    · simp only; omega
    · simp [mkSS]
theorem markSS_ev (L : List (List Cell)) (m : Int) (hf : fitsSS L) (h0 : 0 ≤ m) (h1 : m ≤ 1000000000000) : Ev (fun k => laws_markCellSS.f k L m) (m + 2 * (totSS L : Int), mkSS L m) := by
  have := hf.2.2
  exact markSS_l L [] m hf.1 hf.2.1 h0 (by omega)
theorem heldSS_l (X : List (List Cell)) (hX : X.length ≤ 1048576) : ∀ (L pre : List (List Cell)) (m : Int), X = pre ++ mkSS L m → (∀ x ∈ L, fits x) → 0 ≤ m → m + 2 * (totSS L : Int) ≤ 4611686018427387904 →
    Ev (fun k => laws_heldCellSS.l0 k X m (pre.length : Int)) (m + 2 * (totSS L : Int))
  | [], pre, m, hx, hf, h0, h1 => by
    refine Ev.succ ?_
    have hp := congrArg List.length hx
    simp only [mkSS, List.length_append, List.length_nil] at hp
    simp only [laws_heldCellSS.l0]
    refine Ev.neg (by omega) (Ev.of_eq (Ev.now _) (by simp [totSS]))
  | x :: L, pre, m, hx, hf, h0, h1 => by
    refine Ev.succ ?_
    have hs : small X := by unfold small; omega
    have hx2 : X = pre ++ markedCF m x.length :: mkSS L (m + 2 * (x.length : Int)) := hx
    simp only [totSS] at h1 ⊢
    have hr : rd_L2 X (pre.length : Int) = markedCF m x.length := by rw [hx2]; exact getD_at _ _ _ _
    simp only [laws_heldCellSS.l0, pre_lt hx2, pre_0, if_true, hr, pre_w hx2 hs]
    refine Ev.bind (heldCellS_fromC m x.length h0 (by omega) (hf x List.mem_cons_self)) (Ev.neg (by omega) ?_)
    have ih := heldSS_l X hX L (pre ++ [markedCF m x.length]) (m + 2 * (x.length : Int)) (by rw [hx2]; simp) (fun y hy => hf y (List.mem_cons_of_mem _ hy)) (by omega) (by omega)
    simp only [List.length_append, List.length_singleton, Int.natCast_add] at ih
    refine Ev.of_eq ih ?_
    omega
theorem heldSS_ev (L : List (List Cell)) (m : Int) (hf : fitsSS L) (h0 : 0 ≤ m) (h1 : m ≤ 1000000000000) : Ev (fun k => laws_heldCellSS.f k (mkSS L m) m) (m + 2 * (totSS L : Int)) := by
  have := hf.2.2
  exact heldSS_l (mkSS L m) (by rw [mkSS_len]; exact hf.1) L [] m rfl hf.2.1 h0 (by omega)
theorem eqSS_ev (a : List (List Cell)) (hs : small a) (h : ∀ x ∈ a, small x) : Ev (fun k => laws_eqCellSS.f k a a) true := by
  unfold laws_eqCellSS.f
  refine Ev.pos rfl ?_
  refine loop_list a (fun k i (_ : Unit) => laws_eqCellSS.l0 k a a i) (fun _ _ _ => true) (fun _ _ => True) ?_ ?_ () trivial
  · intro _ _
    simp only [laws_eqCellSS.l0, len_lt, if_false]
    exact Ev.now _
  · intro pre c suf _ hx _ ih
    have hr : rd_L2 a (pre.length : Int) = c := by rw [hx]; exact getD_at pre suf c _
    simp only [laws_eqCellSS.l0, pre_lt hx, pre_0, if_true, hr, pre_w hx hs]
    exact Ev.bind (eqCellS_ev c (h c (by rw [hx]; simp))) (Ev.pos rfl (ih () trivial))
theorem totSS_le (m : Nat) : ∀ L : List (List Cell), (∀ x ∈ L, x.length ≤ m) → totSS L ≤ m * L.length
  | [], _ => Nat.zero_le _
  | x :: r, h => by
    have h1 := h x List.mem_cons_self
    have h2 := totSS_le m r fun y hy => h y (List.mem_cons_of_mem _ hy)
    rw [totSS, List.length_cons, Nat.mul_succ]
    omega
end Go.Proofs.Ytdcpahfpnjnmcaa.L
end
section
namespace Go.Proofs.Ytdcpahfpnjnmcaa.Pure
open Go.RowKit Go.Proofs.YtdcpahfpnjnmcaaW.PrintWords Go.Proofs.Ytdcpahfpnjnmcaa.F Go.Proofs.Ytdcpahfpnjnmcaa.L
set_option linter.unusedVariables false
theorem FnExactLayersOf (l : List LCube) {V : LCube → Prop} (hv : l.length ≤ 9223372036854775807 ∧ ∀ a ∈ l, V a) : ∃ k, laws_FnExactLayersOf.f k l = some true := by
  refine Ev.rounds ?_
  unfold laws_FnExactLayersOf.f
  rw [szCubeS_eq l 1048576 (by decide) (by decide) hv.1]
  simp only [Option.bind_some]
  by_cases h : (1048576 : Int) - (l.length : Int) < 0
  · rw [if_pos h]; exact Ev.pos (by decide) (Ev.now _)
  · rw [if_neg h]
    refine Ev.neg h ?_
    have la : l.length ≤ 1048576 := by omega
    have lm : (l.map cubeOf).length ≤ 1048576 := by simpa using la
    have hs : small (l.map cubeOf) := by unfold small; omega
    have hf : fits (l.map cubeOf) := lm
    have hR : ∀ x ∈ (layersR (l.map cubeOf)).1, x.length ≤ 1048576 := fun x hx => by
      unfold layersR at hx
      split at hx
      · obtain ⟨i, _, rfl⟩ := List.mem_map.1 hx
        have := layerQ_len (l.map cubeOf) (headQ (l.map cubeOf) + (i : Int))
        omega
      · simp at hx
    have hL : (layersR (l.map cubeOf)).1.length ≤ 1000 := by
      unfold layersR
      split
      · rename_i h
        obtain ⟨g1, g2, g3, g4⟩ := head_last h
        unfold ok1 at g2 g3
        show (layersQ _ _ _).length ≤ _
        simp only [layersQ, List.length_map, List.length_range]
        omega
      · simp
    have hLs : small (layersR (l.map cubeOf)).1 := by unfold small; omega
    have hRs : ∀ x ∈ (layersR (l.map cubeOf)).1, small x := fun x hx => by have := hR x hx; unfold small; omega
    have hT := totSS_le 1048576 _ hR
    have hF : fitsSS (layersR (l.map cubeOf)).1 := ⟨by omega, hR, by
      have := Nat.mul_le_mul_left 1048576 hL
      omega⟩
    refine Ev.bind (toCubeS_ev l la) (Ev.bind (specLayers_ev _ hs) (Ev.bind (toCubeS_ev l la) (Ev.bind (implLayers_ev _ hs) (Ev.bind (eqSS_ev _ hLs hRs) (Ev.pos rfl ?_)))))
    refine Ev.step (fun k => laws_FnExactLayersOf.j0.eq_2 _ _ _ _ _ _ _ _) (Ev.neg (by simp) ?_)
    refine Ev.bind (toCubeS_ev l la) (Ev.bind (eqCubeS_ev _ hs) (Ev.pos rfl (Ev.bind (markCubeS_from _ 1 (by decide) (by decide) hf) (Ev.neg (by simp; omega) (Ev.bind (eqSS_ev _ hLs hRs) (Ev.pos rfl ?_))))))
    refine Ev.step (fun k => laws_FnExactLayersOf.j1.eq_2 _ _ _ _ _ _) (Ev.neg (by simp) ?_)
    refine Ev.bind (markSS_ev _ 1 hF (by decide) (by decide)) (Ev.bind (heldSS_ev _ 1 hF (by decide) (by decide)) (Ev.neg (by omega) (Ev.pos rfl ?_)))
    refine Ev.bind (toCubeS_ev l la) (Ev.bind (implLayers_ev _ hs) (Ev.bind (eqSS_ev _ hLs hRs) (Ev.pos rfl ?_)))
    refine Ev.step (fun k => laws_FnExactLayersOf.j2.eq_2 _ _ _ _) (Ev.neg (by simp) ?_)
    exact Ev.bind (heldSS_ev _ 1 hF (by decide) (by decide)) (Ev.neg (by omega) (Ev.pos rfl (Ev.now _)))
end Go.Proofs.Ytdcpahfpnjnmcaa.Pure
end
