/- The row of FnLayers, with what it needs: text 8 of 10. -/
import Derived.Test.YtdcpahfpnjnmcaaKLY6
set_option maxHeartbeats 8000000
set_option maxRecDepth 100000
section
namespace Go.Proofs.Ytdcpahfpnjnmcaa.F
open Go.RowKit Go.Proofs.YtdcpahfpnjnmcaaW.PrintWords Go.Proofs.YtdcpahfpnjnmcaaW.PrintLast Go.Proofs.YtdcpahfpnjnmcaaW.PrintMore
attribute [local go_sem] max2_int min2_int max_two min_two max_three min_three max_four min_four
set_option linter.unusedVariables false
set_option linter.unusedSimpArgs false
attribute [local go_sem high] eqA47
def spec_DrawLayersOf.f (k : Nat) (l0 : List Int) : Option ((List (S47))) := (spec_l01From.f k l0).bind fun bt434 => ((spec_l09Draw.f k bt434.1 bt434.2.1 bt434.2.2).bind fun bt438 => (some bt438.1))
theorem spec_DrawLayersOf.calls (k : Nat) (A0 : Option Addr) (c0 : Nat) (l0 : List Int) (r : List (S47)) (w : World) (hr0 : Kd.C (Kd.int .u8) w A0 l0.length l0) (hc0 : l0.length ≤ c0) (h : spec_DrawLayersOf.f k l0 = some r) :
  Calls Try.prog 23 #[.slice A0 l0.length c0] w fun e w' => ∃ v0_ : Value, e = .returned (v0_) ∧ Kd.R k47 47 w' w.heap.size (fun _ => True) v0_ r ∧ Below w.heap.size w w' := by
 have HR0 := aM hr0
 have HC0 := aM hc0
 clear hr0 hc0
 have HB := aM (Below.refl w.heap.size w)
 have H : ((spec_l01From.f k l0).bind fun bt434 => ((spec_l09Draw.f k bt434.1 bt434.2.1 bt434.2.2).bind fun bt438 => (some bt438.1))) = some r := h
 clear h
 replace H := Option.bind_eq_some_iff.mp H
 obtain ⟨⟨t434, t435, t436⟩, A20, H⟩ := H
 replace H : ((spec_l09Draw.f k t434 t435 t436).bind fun bt438 => (some bt438.1)) = some r := H
 have A2 := aM A20
 clear A20
 replace H := Option.bind_eq_some_iff.mp H
 obtain ⟨⟨t438, t441, t442⟩, A30, H⟩ := H
 replace H : (some t438) = some r := H
 have A3 := aM A30
 clear A30
 obtain rfl := Option.some.inj H
 go_enter Try.func23, Try.ntmps23
 go_wp2_with (first | ((with_reducible refine gate_callee (f := 50) rfl ?_); refine goesL_ (some 4) rfl rfl Try.func50 (by kernel_rfl) rfl #[.slice A0 l0.length c0] rfl zm ?_; (with_reducible refine (spec_l01From.calls k _ _ l0 t434 t435 t436 w _ ?side1 ?side2 ?side3 A2.out).mono ?_); (case side1 => repeat (first | (with_reducible first | exact HB.out | apply below_alloc | apply pw_below_drewN | apply below_drew1) | exact HB.out)); (case side2 => exact HR0.out); (case side3 => exact HC0.out); rintro e w4 ⟨g437, rfl, hi, hb, hb2⟩; refine ⟨_, rfl, ?_⟩; have n0_ := aM (hb); have n1_ := aM (hi); clear HB; have HB := n0_; have HI437 := n1_; clear n0_ n1_; (try clear hb); (try clear hb2); (try clear hk); (try clear hi)) | ((with_reducible refine gate_callee (f := 49) rfl ?_); refine goesL_ (some 5) rfl rfl Try.func49 (by kernel_rfl) rfl #[.pointer (some ⟨g437, 0, none⟩)] rfl zm ?_; (with_reducible refine (spec_l09Draw.calls k g437 t434 t435 t436 t438 t441 t442 w _ ?side1 ?side2 A3.out).mono ?_); (case side1 => exact zI92 HI437.out); (case side2 => exact zs (IsS92.ge HI437.out)); rintro e w5 ⟨v439, rfl, ho0, hi, hb, hk⟩; refine ⟨_, rfl, ?_⟩; have n0_ := aM (Kd.R_lower ho0 (below_size (zs (IsS92.ge HI437.out)))); have n1_ := aM (hb); have n2_ := aM (hi); clear HB; clear HI437; have HO440 := n0_; have HB := n1_; have HI437 := n2_; clear n0_ n1_ n2_; (try clear hb); (try clear hb2); (try clear hk); (try clear hi); (try clear ho0)))
 go_ret
 exact ⟨_, zw, mR_ HO440.out, zs (IsS92.ge HI437.out)⟩
def impl_cubesAround.f (a0_0 : Int) (a0_1 : Int) (a0_2 : Int) : Option ((List (S47))) := some (([(⟨a0_0, a0_1, wrap64 (a0_2 - 1)⟩ : S47), (⟨a0_0, wrap64 (a0_1 - 1), a0_2⟩ : S47), (⟨wrap64 (a0_0 - 1), a0_1, a0_2⟩ : S47), (⟨wrap64 (a0_0 + 1), a0_1, a0_2⟩ : S47), (⟨a0_0, wrap64 (a0_1 + 1), a0_2⟩ : S47), (⟨a0_0, a0_1, wrap64 (a0_2 + 1)⟩ : S47)] : List (S47)))
theorem impl_cubesAround.calls (a0_0 : Int) (a0_1 : Int) (a0_2 : Int) (r : List (S47)) (w : World) (h : impl_cubesAround.f a0_0 a0_1 a0_2 = some r) :
  Calls Try.prog 51 #[.agg #[.int .i64 a0_0, .int .i64 a0_1, .int .i64 a0_2]] w fun e w' => ∃ v0_ : Value, e = .returned (v0_) ∧ Kd.R k47 47 w' w.heap.size (fun _ => True) v0_ r ∧ Below w.heap.size w w' := by
 have hu47 := Try.underlying47
 have HB := aM (Below.refl w.heap.size w)
 have H : (some (([(⟨a0_0, a0_1, wrap64 (a0_2 - 1)⟩ : S47), (⟨a0_0, wrap64 (a0_1 - 1), a0_2⟩ : S47), (⟨wrap64 (a0_0 - 1), a0_1, a0_2⟩ : S47), (⟨wrap64 (a0_0 + 1), a0_1, a0_2⟩ : S47), (⟨a0_0, wrap64 (a0_1 + 1), a0_2⟩ : S47), (⟨a0_0, a0_1, wrap64 (a0_2 + 1)⟩ : S47)] : List (S47)))) = some r := h
 clear h
 obtain ⟨y444, hy444⟩ : ∃ y_ : List (S47), y_ = (([(⟨a0_0, a0_1, wrap64 (a0_2 - 1)⟩ : S47), (⟨a0_0, wrap64 (a0_1 - 1), a0_2⟩ : S47), (⟨wrap64 (a0_0 - 1), a0_1, a0_2⟩ : S47), (⟨wrap64 (a0_0 + 1), a0_1, a0_2⟩ : S47), (⟨a0_0, wrap64 (a0_1 + 1), a0_2⟩ : S47), (⟨a0_0, a0_1, wrap64 (a0_2 + 1)⟩ : S47)] : List (S47))) := ⟨_, rfl⟩
 replace H : (some y444) = some r := zy H hy444
 have Ny444 := aM hy444
 clear hy444
 obtain rfl := Option.some.inj H
 go_enter Try.func51, Try.ntmps51
 go_wp2_with (first | ((with_reducible refine gate_dst (N := 1) rfl ?_); refine box_event ?hg (N := 1) ?hd (cs := #[.int .i64 a0_0, .int .i64 a0_1, .int .i64 a0_2]) (t := 47) ?hr ?_; (case hd => rfl); (case hg => rfl); (case hr => first | (go_simp; done) | (go_simp; rfl)); intro gb443 hg w2 hbox hb; have n0_ := aM (below_step zb hb); have n1_ := aM (hbox); have n2_ := aM ((ze : w.heap.size ≤ gb443)); have n3_ := aM ((ze : w.heap.size ≤ gb443)); clear HB; have HB := n0_; have BK443 := n1_; have GW443 := n2_; have GE443 := n3_; clear n0_ n1_ n2_ n3_; clear hb hbox hg; have hcz3_0 : w2.cell? ⟨gb443, 0, none⟩ = some (.int .i64 a0_0) := (blk_cell BK443.out 0).trans rfl; have hcz3_1 : w2.cell? ⟨gb443, 1, none⟩ = some (.int .i64 a0_1) := (blk_cell BK443.out 1).trans rfl; have hcz3_2 : w2.cell? ⟨gb443, 2, none⟩ = some (.int .i64 a0_2) := (blk_cell BK443.out 2).trans rfl; have hfz3_0 := blk_frozen BK443.out 0; have hfz3_1 := blk_frozen BK443.out 1; have hfz3_2 := blk_frozen BK443.out 2) | ((with_reducible refine gate_dst (N := 51) rfl ?_); refine Kd.R_lit k47 _ 47 ?hg (N := 51) ?hd (xs := ([(⟨a0_0, a0_1, wrap64 (a0_2 - 1)⟩ : S47), (⟨a0_0, wrap64 (a0_1 - 1), a0_2⟩ : S47), (⟨wrap64 (a0_0 - 1), a0_1, a0_2⟩ : S47), (⟨wrap64 (a0_0 + 1), a0_1, a0_2⟩ : S47), (⟨a0_0, wrap64 (a0_1 + 1), a0_2⟩ : S47), (⟨a0_0, a0_1, wrap64 (a0_2 + 1)⟩ : S47)] : List (S47))) (inner := [.int .i64 a0_0, .int .i64 a0_1, .int .i64 (wrap64 (a0_2 - 1)), .int .i64 a0_0, .int .i64 (wrap64 (a0_1 - 1)), .int .i64 a0_2, .int .i64 (wrap64 (a0_0 - 1)), .int .i64 a0_1, .int .i64 a0_2, .int .i64 (wrap64 (a0_0 + 1)), .int .i64 a0_1, .int .i64 a0_2, .int .i64 a0_0, .int .i64 (wrap64 (a0_1 + 1)), .int .i64 a0_2, .int .i64 a0_0, .int .i64 a0_1, .int .i64 (wrap64 (a0_2 + 1))]) (ok := fun _ => True) (okp := fun _ => True) ?hr ?hp (fun _ hk => hk) trivial (Below.refl _ _) (Nat.le_refl _) (by simp) ?_; (case hd => rfl); (case hg => rfl); (case hr => first | (go_simp; done) | (go_simp; rfl)); (case hp => exact (Reps.c3 (show Kd.M k47 _ _ _ (⟨a0_0, a0_1, wrap64 (a0_2 - 1)⟩ : S47) [.int .i64 a0_0, .int .i64 a0_1, .int .i64 (wrap64 (a0_2 - 1))] from (k47_mkM _ _ _ (⟨a0_0, a0_1, wrap64 (a0_2 - 1)⟩ : S47) )) (Reps.c3 (show Kd.M k47 _ _ _ (⟨a0_0, wrap64 (a0_1 - 1), a0_2⟩ : S47) [.int .i64 a0_0, .int .i64 (wrap64 (a0_1 - 1)), .int .i64 a0_2] from (k47_mkM _ _ _ (⟨a0_0, wrap64 (a0_1 - 1), a0_2⟩ : S47) )) (Reps.c3 (show Kd.M k47 _ _ _ (⟨wrap64 (a0_0 - 1), a0_1, a0_2⟩ : S47) [.int .i64 (wrap64 (a0_0 - 1)), .int .i64 a0_1, .int .i64 a0_2] from (k47_mkM _ _ _ (⟨wrap64 (a0_0 - 1), a0_1, a0_2⟩ : S47) )) (Reps.c3 (show Kd.M k47 _ _ _ (⟨wrap64 (a0_0 + 1), a0_1, a0_2⟩ : S47) [.int .i64 (wrap64 (a0_0 + 1)), .int .i64 a0_1, .int .i64 a0_2] from (k47_mkM _ _ _ (⟨wrap64 (a0_0 + 1), a0_1, a0_2⟩ : S47) )) (Reps.c3 (show Kd.M k47 _ _ _ (⟨a0_0, wrap64 (a0_1 + 1), a0_2⟩ : S47) [.int .i64 a0_0, .int .i64 (wrap64 (a0_1 + 1)), .int .i64 a0_2] from (k47_mkM _ _ _ (⟨a0_0, wrap64 (a0_1 + 1), a0_2⟩ : S47) )) (Reps.c3 (show Kd.M k47 _ _ _ (⟨a0_0, a0_1, wrap64 (a0_2 + 1)⟩ : S47) [.int .i64 a0_0, .int .i64 a0_1, .int .i64 (wrap64 (a0_2 + 1))] from (k47_mkM _ _ _ (⟨a0_0, a0_1, wrap64 (a0_2 + 1)⟩ : S47) )) (Reps.none _ _)))))))); intro v445 w4 ho5 hb hg_ hnew_; clear hg_ hnew_; (first | rw [← Ny444.out] at ho5 | (simp only [Int.reduceToNat] at ho5; rw [← Ny444.out] at ho5)); have n0_ := aM (Kd.R_lower (Kd.R_newB ho5 (g := gb443) (o := .cells #[.int .i64 a0_0, .int .i64 a0_1, .int .i64 a0_2] 47 (0, 0)) (mB_ BK443.out)) (below_size (zs GE443.out))); have n1_ := aM (blk_below (g := gb443) (o := .cells #[.int .i64 a0_0, .int .i64 a0_1, .int .i64 a0_2] 47 (0, 0)) (mB_ BK443.out) hb); have n2_ := aM (below_step (zs GE443.out) hb); clear BK443; clear HB; have HO446 := n0_; have BK443 := n1_; have HB := n2_; clear n0_ n1_ n2_; clear hb ho5))
 go_ret
 exact ⟨_, zw, by (with_reducible repeat (first | apply Kd.R_alloc | apply Kd.R_drewN | apply Kd.R_drew)); exact Kd.R_mono HO446.out (fun _ hk => trivial), zs GE443.out⟩
def impl_Cube_76.l0 : Nat → List (S47) → Int → Int → Int → Int → Int → Option (Int)
 | 0, _, _, _, _, _, _ => none
 | k + 1, x0, x7, x8, x448000, x448001, x448002 => if x8 < x7 then (if 0 ≤ x8 then (if x8 < (x0.length : Int) then (if (x448000 == ((rd_T47 x0 x8).f0) && (x448001 == ((rd_T47 x0 x8).f1) && (x448002 == ((rd_T47 x0 x8).f2)))) = true then (some x8) else (impl_Cube_76.l0 k x0 x7 (wrap64 (x8 + 1)) x448000 x448001 x448002)) else (none)) else (none)) else (some (-1))
def impl_Cube_76.f (k : Nat) (l0 : List (S47)) (a1_0 : Int) (a1_1 : Int) (a1_2 : Int) : Option (Int) := impl_Cube_76.l0 k l0 (l0.length : Int) 0 a1_0 a1_1 a1_2
theorem impl_Cube_76.calls (k : Nat) (A0 : Option Addr) (c0 : Nat) (l0 : List (S47)) (a1_0 : Int) (a1_1 : Int) (a1_2 : Int) (r : Int) (w : World) (hr0 : Kd.C k47 w A0 l0.length l0) (hc0 : l0.length ≤ c0) (h : impl_Cube_76.f k l0 a1_0 a1_1 a1_2 = some r) :
  Calls Try.prog 76 #[.slice A0 l0.length c0, .agg #[.int .i64 a1_0, .int .i64 a1_1, .int .i64 a1_2]] w fun e w' => e = .returned (.int .i64 r) ∧ Below w.heap.size w w' := by
 have hu47 := Try.underlying47
 have HR0 := aM hr0
 have HC0 := aM hc0
 clear hr0 hc0
 have HB := aM (Below.refl w.heap.size w)
 have H : (impl_Cube_76.l0 k l0 (l0.length : Int) 0 a1_0 a1_1 a1_2) = some r := h
 clear h
 have H' := aM H
 clear H
 go_enter Try.func76, Try.ntmps76
 go_wp2_with (first | ((with_reducible refine gate_dst (N := 3) rfl ?_); refine box_event ?hg (N := 3) ?hd (cs := #[.int .i64 a1_0, .int .i64 a1_1, .int .i64 a1_2]) (t := 47) ?hr ?_; (case hd => rfl); (case hg => rfl); (case hr => first | (go_simp; done) | (go_simp; rfl)); intro gb447 hg w3 hbox hb; have n0_ := aM (below_step zb hb); have n1_ := aM (hbox); have n2_ := aM ((ze : w.heap.size ≤ gb447)); have n3_ := aM ((ze : w.heap.size ≤ gb447)); clear HB; have HB := n0_; have BK447 := n1_; have GW447 := n2_; have GE447 := n3_; clear n0_ n1_ n2_ n3_; clear hb hbox hg))
 repeat (go_quiet (first | ((with_reducible refine gate_dst (N := 3) rfl ?_); refine box_event ?hg (N := 3) ?hd (cs := #[.int .i64 a1_0, .int .i64 a1_1, .int .i64 a1_2]) (t := 47) ?hr ?_; (case hd => rfl); (case hg => rfl); (case hr => first | (go_simp; done) | (go_simp; rfl)); intro gb447 hg w3 hbox hb; have n0_ := aM (below_step zb hb); have n1_ := aM (hbox); have n2_ := aM ((ze : w.heap.size ≤ gb447)); have n3_ := aM ((ze : w.heap.size ≤ gb447)); clear HB; have HB := n0_; have BK447 := n1_; have GW447 := n2_; have GE447 := n3_; clear n0_ n1_ n2_ n3_; clear hb hbox hg)); try go_wp2_with (first | ((with_reducible refine gate_dst (N := 3) rfl ?_); refine box_event ?hg (N := 3) ?hd (cs := #[.int .i64 a1_0, .int .i64 a1_1, .int .i64 a1_2]) (t := 47) ?hr ?_; (case hd => rfl); (case hg => rfl); (case hr => first | (go_simp; done) | (go_simp; rfl)); intro gb447 hg w3 hbox hb; have n0_ := aM (below_step zb hb); have n1_ := aM (hbox); have n2_ := aM ((ze : w.heap.size ≤ gb447)); have n3_ := aM ((ze : w.heap.size ≤ gb447)); clear HB; have HB := n0_; have BK447 := n1_; have GW447 := n2_; have GE447 := n3_; clear n0_ n1_ n2_ n3_; clear hb hbox hg)))
 go_loopg [8] k (fun kq v8 w' => ∃ (x8_1 : Int), v8 = .int .i64 x8_1 ∧ Aside0 (impl_Cube_76.l0 kq l0 (l0.length : Int) x8_1 a1_0 a1_1 a1_2 = some r) ∧ Aside0 (kq ≤ k) ∧ Aside0 (w'.heap[gb447]? = some (.cells #[.int .i64 a1_0, .int .i64 a1_1, .int .i64 a1_2] 47 (0, 0))) ∧ Aside0 (Below w.heap.size w w'))
 case atStart => exact ⟨(0), zr, H', ⟨Nat.le_refl _⟩, ⟨mB_ BK447.out⟩, ⟨zs GE447.out⟩⟩
 case round =>
  clear H'
  try clear p2
  obtain ⟨x8_1, rfl, HA, HK1, BK447, HB⟩ := hrel
  cases gk with
  | zero => exact absurd HA.out (by simp [impl_Cube_76.l0])
  | succ k1 =>
   have H := HA.out
   clear HA
   simp only [impl_Cube_76.l0] at H
   by_cases c4 : x8_1 < (l0.length : Int)
   rotate_left
   ·rw [if_neg c4] at H
    have c4b0 : decide (x8_1 < (l0.length : Int)) = false := decide_eq_false c4
    clear c4
    obtain rfl := Option.some.inj H
    go_wp2
    repeat (go_quiet (fail); try go_wp2)
    go_ret
    exact ⟨zw, zs GE447.out⟩
   rw [if_pos c4] at H
   have c4b0 : decide (x8_1 < (l0.length : Int)) = true := decide_eq_true c4
   clear c4
   by_cases c5 : 0 ≤ x8_1
   rotate_left
   ·rw [if_neg c5] at H
    exact absurd H (by simp)
   rw [if_pos c5] at H
   have c5b0 : decide (0 ≤ x8_1) = true := decide_eq_true c5
   clear c5
   by_cases c6 : x8_1 < (l0.length : Int)
   rotate_left
   ·rw [if_neg c6] at H
    exact absurd H (by simp)
   rw [if_pos c6] at H
   have c6b0 : decide (x8_1 < (l0.length : Int)) = true := decide_eq_true c6
   clear c6
   by_cases c7 : (a1_0 == ((rd_T47 l0 x8_1).f0) && (a1_1 == ((rd_T47 l0 x8_1).f1) && (a1_2 == ((rd_T47 l0 x8_1).f2)))) = true
   ·rw [if_pos c7] at H
    have c7b0 : (a1_0 == ((rd_T47 l0 x8_1).f0) && (a1_1 == ((rd_T47 l0 x8_1).f1) && (a1_2 == ((rd_T47 l0 x8_1).f2)))) = true := c7
    (try (have c7b1 : decide (a1_0 = ((rd_T47 l0 x8_1).f0) && (a1_1 == ((rd_T47 l0 x8_1).f1) && (a1_2 == ((rd_T47 l0 x8_1).f2)))) = true := by simpa using c7))
    (try (have c7b2 : (a1_0 == ((rd_T47 l0 x8_1).f0) && (a1_1 == ((rd_T47 l0 x8_1).f1) && (a1_2 == ((rd_T47 l0 x8_1).f2)))) = true := by simpa using c7))
    clear c7
    obtain rfl := Option.some.inj H
    have hcz8_0 : wr.cell? ⟨gb447, 0, none⟩ = some (.int .i64 a1_0) := (blk_cell BK447.out 0).trans rfl
    have hcz8_1 : wr.cell? ⟨gb447, 1, none⟩ = some (.int .i64 a1_1) := (blk_cell BK447.out 1).trans rfl
    have hcz8_2 : wr.cell? ⟨gb447, 2, none⟩ = some (.int .i64 a1_2) := (blk_cell BK447.out 2).trans rfl
    have hfz8_0 := blk_frozen BK447.out 0
    have hfz8_1 := blk_frozen BK447.out 1
    have hfz8_2 := blk_frozen BK447.out 2
    have p448 : 0 ≤ (x8_1 : Int) := of_decide_eq_true za
    have q448 : x8_1 < (l0.length : Int) := of_decide_eq_true za
    obtain ⟨ad448, e448, hx448_0, hx448_1, hx448_2⟩ := at_T47 HR0.out x8_1 p448 q448
    cases e448
    replace hx448_0 := (HB.out.cell (World.block_lt_of_cell? w _ hx448_0)).trans hx448_0
    replace hx448_1 := (HB.out.cell (World.block_lt_of_cell? w _ hx448_1)).trans hx448_1
    replace hx448_2 := (HB.out.cell (World.block_lt_of_cell? w _ hx448_2)).trans hx448_2
    replace p448 := eq_true p448
    replace q448 := eq_true q448
    go_wp2
    repeat (go_quiet (fail); try go_wp2)
    go_ret
    exact ⟨zw, zs GE447.out⟩
   rw [if_neg c7] at H
   have c7b0 : (a1_0 == ((rd_T47 l0 x8_1).f0) && (a1_1 == ((rd_T47 l0 x8_1).f1) && (a1_2 == ((rd_T47 l0 x8_1).f2)))) = false := by simpa using c7
   (try (have c7b1 : decide (a1_0 = ((rd_T47 l0 x8_1).f0) && (a1_1 == ((rd_T47 l0 x8_1).f1) && (a1_2 == ((rd_T47 l0 x8_1).f2)))) = false := by simpa using c7))
   (try (have c7b2 : (a1_0 == ((rd_T47 l0 x8_1).f0) && (a1_1 == ((rd_T47 l0 x8_1).f1) && (a1_2 == ((rd_T47 l0 x8_1).f2)))) = false := by simpa using c7))
   (try (have c7b3 : ¬ (a1_0 = ((rd_T47 l0 x8_1).f0) && (a1_1 == ((rd_T47 l0 x8_1).f1) && (a1_2 == ((rd_T47 l0 x8_1).f2)))) := by simpa using c7))
   clear c7
   have H' := aM H
   clear H
   have hcz9_0 : wr.cell? ⟨gb447, 0, none⟩ = some (.int .i64 a1_0) := (blk_cell BK447.out 0).trans rfl
   have hcz9_1 : wr.cell? ⟨gb447, 1, none⟩ = some (.int .i64 a1_1) := (blk_cell BK447.out 1).trans rfl
   have hcz9_2 : wr.cell? ⟨gb447, 2, none⟩ = some (.int .i64 a1_2) := (blk_cell BK447.out 2).trans rfl
   have hfz9_0 := blk_frozen BK447.out 0
   have hfz9_1 := blk_frozen BK447.out 1
   have hfz9_2 := blk_frozen BK447.out 2
   have p448 : 0 ≤ (x8_1 : Int) := of_decide_eq_true za
   have q448 : x8_1 < (l0.length : Int) := of_decide_eq_true za
   obtain ⟨ad448, e448, hx448_0, hx448_1, hx448_2⟩ := at_T47 HR0.out x8_1 p448 q448
   cases e448
   replace hx448_0 := (HB.out.cell (World.block_lt_of_cell? w _ hx448_0)).trans hx448_0
   replace hx448_1 := (HB.out.cell (World.block_lt_of_cell? w _ hx448_1)).trans hx448_1
   replace hx448_2 := (HB.out.cell (World.block_lt_of_cell? w _ hx448_2)).trans hx448_2
   replace p448 := eq_true p448
   replace q448 := eq_true q448
   go_wp2
   repeat (go_quiet (fail); try go_wp2)
   go_roundg k1
   case measure => have := HK1.out; omega
   case rel => exact ⟨(wrap64 (x8_1 + 1)), zr, H', ⟨by have := HK1.out; omega⟩, ⟨mB_ BK447.out⟩, ⟨zs GE447.out⟩⟩
def impl_Cube_52.f (k : Nat) (l0 : List (S47)) (a1_0 : Int) (a1_1 : Int) (a1_2 : Int) : Option (Bool) := (impl_Cube_76.f k l0 a1_0 a1_1 a1_2).bind fun t450 => (some (decide (t450 ≥ 0)))
theorem impl_Cube_52.calls (k : Nat) (A0 : Option Addr) (c0 : Nat) (l0 : List (S47)) (a1_0 : Int) (a1_1 : Int) (a1_2 : Int) (r : Bool) (w : World) (hr0 : Kd.C k47 w A0 l0.length l0) (hc0 : l0.length ≤ c0) (h : impl_Cube_52.f k l0 a1_0 a1_1 a1_2 = some r) :
  Calls Try.prog 52 #[.slice A0 l0.length c0, .agg #[.int .i64 a1_0, .int .i64 a1_1, .int .i64 a1_2]] w fun e w' => e = .returned (.bool r) ∧ Below w.heap.size w w' := by
 have hu47 := Try.underlying47
 have HR0 := aM hr0
 have HC0 := aM hc0
 clear hr0 hc0
 have HB := aM (Below.refl w.heap.size w)
 have H : ((impl_Cube_76.f k l0 a1_0 a1_1 a1_2).bind fun t450 => (some (decide (t450 ≥ 0)))) = some r := h
 clear h
 replace H := Option.bind_eq_some_iff.mp H
 obtain ⟨t450, A30, H⟩ := H
 replace H : (some (decide (t450 ≥ 0))) = some r := H
 have A3 := aM A30
 clear A30
 obtain rfl := Option.some.inj H
 go_enter Try.func52, Try.ntmps52
 go_wp2_with (first | ((with_reducible refine gate_dst (N := 3) rfl ?_); refine box_event ?hg (N := 3) ?hd (cs := #[.int .i64 a1_0, .int .i64 a1_1, .int .i64 a1_2]) (t := 47) ?hr ?_; (case hd => rfl); (case hg => rfl); (case hr => first | (go_simp; done) | (go_simp; rfl)); intro gb449 hg w4 hbox hb; have n0_ := aM (below_step zb hb); have n1_ := aM (hbox); have n2_ := aM ((ze : w.heap.size ≤ gb449)); have n3_ := aM ((ze : w.heap.size ≤ gb449)); clear HB; have HB := n0_; have BK449 := n1_; have GW449 := n2_; have GE449 := n3_; clear n0_ n1_ n2_ n3_; clear hb hbox hg; have hcz5_0 : w4.cell? ⟨gb449, 0, none⟩ = some (.int .i64 a1_0) := (blk_cell BK449.out 0).trans rfl; have hcz5_1 : w4.cell? ⟨gb449, 1, none⟩ = some (.int .i64 a1_1) := (blk_cell BK449.out 1).trans rfl; have hcz5_2 : w4.cell? ⟨gb449, 2, none⟩ = some (.int .i64 a1_2) := (blk_cell BK449.out 2).trans rfl; have hfz5_0 := blk_frozen BK449.out 0; have hfz5_1 := blk_frozen BK449.out 1; have hfz5_2 := blk_frozen BK449.out 2) | ((with_reducible refine gate_callee (f := 76) rfl ?_); refine goesL_ (some 7) rfl rfl Try.func76 (by kernel_rfl) rfl #[.slice A0 l0.length c0, .agg #[.int .i64 a1_0, .int .i64 a1_1, .int .i64 a1_2]] rfl zm ?_; (with_reducible refine (impl_Cube_76.calls k _ _ l0 a1_0 a1_1 a1_2 t450 _ ?side1 ?side2 A3.out).mono ?_); (case side1 => repeat (first | exact (Kd.C_below HR0.out HB.out) | (with_reducible refine Kd.C_alloc ?_ _) | (with_reducible refine Kd.C_drewN ?_ _) | (with_reducible refine Kd.C_drew ?_))); (case side2 => exact HC0.out); rintro e w6 ⟨rfl, hb⟩; refine ⟨_, rfl, ?_⟩; have n0_ := aM (blk_below (g := gb449) (o := .cells #[.int .i64 a1_0, .int .i64 a1_1, .int .i64 a1_2] 47 (0, 0)) (mB_ BK449.out) hb); have n1_ := aM (below_step (zs GE449.out) hb); clear BK449; clear HB; have BK449 := n0_; have HB := n1_; clear n0_ n1_; (try clear hb); (try clear hb2); (try clear hk); (try clear hi)))
 go_ret
 exact ⟨zw, zs GE449.out⟩
mutual
def impl_FaceCount.l0 : Nat → List (S47) → Int → List (S47) → Int → Int → Option (Int × Int)
 | 0, _, _, _, _, _ => none
 | k + 1, x0, x4, x12, x13, x14 => if x14 < x13 then (if 0 ≤ x14 then (if x14 < (x12.length : Int) then ((impl_cubesAround.f ((rd_T47 x12 x14).f0) ((rd_T47 x12 x14).f1) ((rd_T47 x12 x14).f2)).bind fun t454 => (impl_FaceCount.l1 k x0 x4 x12 x13 x14 t454 (t454.length : Int) 0)) else (none)) else (none)) else (some (x4, 0))
def impl_FaceCount.l1 : Nat → List (S47) → Int → List (S47) → Int → Int → List (S47) → Int → Int → Option (Int × Int)
 | 0, _, _, _, _, _, _, _, _ => none
 | k + 1, x0, x4, x12, x13, x14, x19, x20, x21 => if x21 < x20 then (if 0 ≤ x21 then (if x21 < (x19.length : Int) then ((impl_Cube_52.f k x0 ((rd_T47 x19 x21).f0) ((rd_T47 x19 x21).f1) ((rd_T47 x19 x21).f2)).bind fun t459 => (if t459 = true then (impl_FaceCount.l1 k x0 x4 x12 x13 x14 x19 x20 (wrap64 (x21 + 1))) else (impl_FaceCount.l1 k x0 (wrap64 (x4 + 1)) x12 x13 x14 x19 x20 (wrap64 (x21 + 1))))) else (none)) else (none)) else (impl_FaceCount.l0 k x0 x4 x12 x13 (wrap64 (x14 + 1)))
end
def impl_FaceCount.f (k : Nat) (l0 : List (S47)) : Option (Int × Int) := (impl_isSolid.f k l0).bind fun t451 => (if t451 = true then (impl_FaceCount.l0 k l0 0 l0 (l0.length : Int) 0) else (some (0, 1)))
theorem impl_FaceCount.calls (k : Nat) (A0 : Option Addr) (c0 : Nat) (l0 : List (S47)) (r1 : Int) (r2 : Int) (w : World) (hr0 : Kd.C k47 w A0 l0.length l0) (hc0 : l0.length ≤ c0) (h : impl_FaceCount.f k l0 = some (r1, r2)) :
  Calls Try.prog 24 #[.slice A0 l0.length c0] w fun e w' => e = .returned (.tuple #[.int .i64 r1, .int .i64 r2]) ∧ Below w.heap.size w w' := by
 have hu47 := Try.underlying47
 have HR0 := aM hr0
 have HC0 := aM hc0
 clear hr0 hc0
 have HB := aM (Below.refl w.heap.size w)
 have H : ((impl_isSolid.f k l0).bind fun t451 => (if t451 = true then (impl_FaceCount.l0 k l0 0 l0 (l0.length : Int) 0) else (some (0, 1)))) = some (r1, r2) := h
 clear h
 replace H := Option.bind_eq_some_iff.mp H
 obtain ⟨t451, A20, H⟩ := H
 replace H : (if t451 = true then (impl_FaceCount.l0 k l0 0 l0 (l0.length : Int) 0) else (some (0, 1))) = some (r1, r2) := H
 have A2 := aM A20
 clear A20
 by_cases c3 : t451 = true
 rotate_left
 ·replace c3 := Bool.eq_false_iff.mpr c3
  subst c3
  have H1 : (some (0, 1)) = some (r1, r2) := by rw [if_neg (show ¬ (false = true) by decide)] at H; exact H
  clear H
  have H := H1
  clear H1
  simp only [Option.some.injEq, Prod.mk.injEq] at H
  obtain ⟨rfl, rfl⟩ := H
  go_enter Try.func24, Try.ntmps24
  go_wp2_with (first | ((with_reducible refine gate_callee (f := 46) rfl ?_); refine goesL_ (some 10) rfl rfl Try.func46 (by kernel_rfl) rfl #[.slice A0 l0.length c0] rfl zm ?_; (with_reducible refine (impl_isSolid.calls k _ _ l0 false _ ?side1 ?side2 A2.out).mono ?_); (case side1 => repeat (first | exact HR0.out | (with_reducible refine Kd.C_alloc ?_ _) | (with_reducible refine Kd.C_drewN ?_ _) | (with_reducible refine Kd.C_drew ?_))); (case side2 => exact HC0.out); rintro e w26 ⟨rfl, hb⟩; refine ⟨_, rfl, ?_⟩; have n0_ := aM (below_step zb hb); clear HB; have HB := n0_; clear n0_; (try clear hb); (try clear hb2); (try clear hk); (try clear hi)))
  go_ret2
  exact ⟨zw, zb⟩
 subst c3
 have H1 : (impl_FaceCount.l0 k l0 0 l0 (l0.length : Int) 0) = some (r1, r2) := by rw [if_pos rfl] at H; exact H
 clear H
 have H := H1
 clear H1
 have H' := aM H
 clear H
 go_enter Try.func24, Try.ntmps24
 go_wp2_with (first | ((with_reducible refine gate_callee (f := 46) rfl ?_); refine goesL_ (some 10) rfl rfl Try.func46 (by kernel_rfl) rfl #[.slice A0 l0.length c0] rfl zm ?_; (with_reducible refine (impl_isSolid.calls k _ _ l0 true _ ?side1 ?side2 A2.out).mono ?_); (case side1 => repeat (first | exact HR0.out | (with_reducible refine Kd.C_alloc ?_ _) | (with_reducible refine Kd.C_drewN ?_ _) | (with_reducible refine Kd.C_drew ?_))); (case side2 => exact HC0.out); rintro e w4 ⟨rfl, hb⟩; refine ⟨_, rfl, ?_⟩; have n0_ := aM (below_step zb hb); clear HB; have HB := n0_; clear n0_; (try clear hb); (try clear hb2); (try clear hk); (try clear hi)))
 go_loopg [4, 14] k (fun kq v4 v14 w' => ∃ (x4_1 : Int) (x14_1 : Int), v4 = .int .i64 x4_1 ∧ v14 = .int .i64 x14_1 ∧ Aside0 (impl_FaceCount.l0 kq l0 x4_1 l0 (l0.length : Int) x14_1 = some (r1, r2)) ∧ Aside0 (kq ≤ k) ∧ Aside0 (Below w.heap.size w w'))
 case atStart => exact ⟨(0), (0), zr, zr, H', ⟨Nat.le_refl _⟩, ⟨zb⟩⟩
 case round =>
  clear H'
  try clear c2
  try clear p2
  try clear c3
  try clear c4
  obtain ⟨x4_1, x14_1, rfl, rfl, HA, HK1, HB⟩ := hrel
  cases gk with
  | zero => exact absurd HA.out (by simp [impl_FaceCount.l0])
  | succ k1 =>
   have H := HA.out
   clear HA
   simp only [impl_FaceCount.l0] at H
   by_cases c5 : x14_1 < (l0.length : Int)
   rotate_left
   ·rw [if_neg c5] at H
    have c5b0 : decide (x14_1 < (l0.length : Int)) = false := decide_eq_false c5
    clear c5
    simp only [Option.some.injEq, Prod.mk.injEq] at H
    obtain ⟨rfl, rfl⟩ := H
    go_wp2
    go_ret2
    exact ⟨zw, zb⟩
   rw [if_pos c5] at H
   have c5b0 : decide (x14_1 < (l0.length : Int)) = true := decide_eq_true c5
   clear c5
   by_cases c6 : 0 ≤ x14_1
   rotate_left
   ·rw [if_neg c6] at H
    exact absurd H (by simp)
   rw [if_pos c6] at H
   have c6b0 : decide (0 ≤ x14_1) = true := decide_eq_true c6
   clear c6
   by_cases c7 : x14_1 < (l0.length : Int)
   rotate_left
   ·rw [if_neg c7] at H
    exact absurd H (by simp)
   rw [if_pos c7] at H
   have c7b0 : decide (x14_1 < (l0.length : Int)) = true := decide_eq_true c7
   clear c7
   replace H := Option.bind_eq_some_iff.mp H
   obtain ⟨t454, A80, H⟩ := H
   replace H : (impl_FaceCount.l1 k1 l0 x4_1 l0 (l0.length : Int) x14_1 t454 (t454.length : Int) 0) = some (r1, r2) := H
   have A8 := aM A80
   clear A80
   have H' := aM H
   clear H
   have p452 : 0 ≤ (x14_1 : Int) := of_decide_eq_true za
   have q452 : x14_1 < (l0.length : Int) := of_decide_eq_true za
   obtain ⟨ad452, e452, hx452_0, hx452_1, hx452_2⟩ := at_T47 HR0.out x14_1 p452 q452
   cases e452
   replace hx452_0 := (HB.out.cell (World.block_lt_of_cell? w _ hx452_0)).trans hx452_0
   replace hx452_1 := (HB.out.cell (World.block_lt_of_cell? w _ hx452_1)).trans hx452_1
   replace hx452_2 := (HB.out.cell (World.block_lt_of_cell? w _ hx452_2)).trans hx452_2
   replace p452 := eq_true p452
   replace q452 := eq_true q452
   go_wp2_with (first | ((with_reducible refine gate_dst (N := 6) rfl ?_); refine box_event ?hg (N := 6) ?hd (cs := #[.int .i64 0, .int .i64 0, .int .i64 0]) (t := 47) ?hr ?_; (case hd => rfl); (case hg => rfl); (case hr => first | (go_simp; done) | (go_simp; rfl)); intro gb453 hg w9 hbox hb; have n0_ := aM (below_step zb hb); have n1_ := aM (hbox); have n2_ := aM ((ze : w.heap.size ≤ gb453)); have n3_ := aM ((ze : w.heap.size ≤ gb453)); clear HB; have HB := n0_; have BK453 := n1_; have GW453 := n2_; have GE453 := n3_; clear n0_ n1_ n2_ n3_; clear hb hbox hg; have hcz10_0 : w9.cell? ⟨gb453, 0, none⟩ = some (.int .i64 0) := (blk_cell BK453.out 0).trans rfl; have hcz10_1 : w9.cell? ⟨gb453, 1, none⟩ = some (.int .i64 0) := (blk_cell BK453.out 1).trans rfl; have hcz10_2 : w9.cell? ⟨gb453, 2, none⟩ = some (.int .i64 0) := (blk_cell BK453.out 2).trans rfl; have hfz10_0 := blk_frozen BK453.out 0; have hfz10_1 := blk_frozen BK453.out 1; have hfz10_2 := blk_frozen BK453.out 2) | ((with_reducible refine gate_callee (f := 51) rfl ?_); refine goesL_ (some 19) rfl rfl Try.func51 (by kernel_rfl) rfl #[.agg #[.int .i64 ((rd_T47 l0 x14_1).f0), .int .i64 ((rd_T47 l0 x14_1).f1), .int .i64 ((rd_T47 l0 x14_1).f2)]] rfl zm ?_; (with_reducible refine (impl_cubesAround.calls ((rd_T47 l0 x14_1).f0) ((rd_T47 l0 x14_1).f1) ((rd_T47 l0 x14_1).f2) t454 _ A8.out).mono ?_); rintro e w11 ⟨v455, rfl, ho0, hb⟩; refine ⟨_, rfl, ?_⟩; have n0_ := aM (Kd.R_lower (Kd.R_newB ho0 (g := gb453) (o := .cells #[.int .i64 ((rd_T47 l0 x14_1).f0), .int .i64 ((rd_T47 l0 x14_1).f1), .int .i64 ((rd_T47 l0 x14_1).f2)] 47 (0, 0)) (by (with_reducible repeat (first | refine blk_drewN ?_ _ | refine blk_drew ?_ | refine blk_alloc ?_ _)); refine blk_put (cs := #[.int .i64 ((rd_T47 l0 x14_1).f0), .int .i64 ((rd_T47 l0 x14_1).f1), .int .i64 0]) ?_ 2 _ rfl; (with_reducible repeat (first | refine blk_drewN ?_ _ | refine blk_drew ?_ | refine blk_alloc ?_ _)); refine blk_put (cs := #[.int .i64 ((rd_T47 l0 x14_1).f0), .int .i64 0, .int .i64 0]) ?_ 1 _ rfl; (with_reducible repeat (first | refine blk_drewN ?_ _ | refine blk_drew ?_ | refine blk_alloc ?_ _)); refine blk_put (cs := #[.int .i64 0, .int .i64 0, .int .i64 0]) ?_ 0 _ rfl; (with_reducible repeat (first | refine blk_drewN ?_ _ | refine blk_drew ?_ | refine blk_alloc ?_ _)); exact BK453.out)) (below_size (zs GE453.out))); have n1_ := aM (blk_below (g := gb453) (o := .cells #[.int .i64 ((rd_T47 l0 x14_1).f0), .int .i64 ((rd_T47 l0 x14_1).f1), .int .i64 ((rd_T47 l0 x14_1).f2)] 47 (0, 0)) (by (with_reducible repeat (first | refine blk_drewN ?_ _ | refine blk_drew ?_ | refine blk_alloc ?_ _)); refine blk_put (cs := #[.int .i64 ((rd_T47 l0 x14_1).f0), .int .i64 ((rd_T47 l0 x14_1).f1), .int .i64 0]) ?_ 2 _ rfl; (with_reducible repeat (first | refine blk_drewN ?_ _ | refine blk_drew ?_ | refine blk_alloc ?_ _)); refine blk_put (cs := #[.int .i64 ((rd_T47 l0 x14_1).f0), .int .i64 0, .int .i64 0]) ?_ 1 _ rfl; (with_reducible repeat (first | refine blk_drewN ?_ _ | refine blk_drew ?_ | refine blk_alloc ?_ _)); refine blk_put (cs := #[.int .i64 0, .int .i64 0, .int .i64 0]) ?_ 0 _ rfl; (with_reducible repeat (first | refine blk_drewN ?_ _ | refine blk_drew ?_ | refine blk_alloc ?_ _)); exact BK453.out) hb); have n2_ := aM (below_step (zs GE453.out) hb); clear BK453; clear HB; have HO456 := n0_; have BK453 := n1_; have HB := n2_; clear n0_ n1_ n2_; (try clear hb); (try clear hb2); (try clear hk); (try clear hi); (try clear ho0); obtain ⟨Ao12, co12, eo12⟩ := Kd.R_slice HO456.out; subst eo12))
   go_loopg [4, 21] k1 (fun kq v4 v21 w' => ∃ (x4_2 : Int) (x21_2 : Int), v4 = .int .i64 x4_2 ∧ v21 = .int .i64 x21_2 ∧ Aside0 (impl_FaceCount.l1 kq l0 x4_2 l0 (l0.length : Int) x14_1 t454 (t454.length : Int) x21_2 = some (r1, r2)) ∧ Aside0 (kq ≤ k1) ∧ Aside0 (Kd.R k47 47 w' w.heap.size (fun k_ => k_ ≠ gb453) (.slice Ao12 t454.length co12) t454) ∧ Aside0 (w'.heap[gb453]? = some (.cells #[.int .i64 ((rd_T47 l0 x14_1).f0), .int .i64 ((rd_T47 l0 x14_1).f1), .int .i64 ((rd_T47 l0 x14_1).f2)] 47 (0, 0))) ∧ Aside0 (Below w.heap.size w w'))
   case atStart => exact ⟨(x4_1), (0), zr, zr, H', ⟨Nat.le_refl _⟩, ⟨by (with_reducible repeat (first | apply Kd.R_alloc | apply Kd.R_drewN | apply Kd.R_drew)); exact Kd.R_mono HO456.out (fun _ hk => hk.2)⟩, ⟨mB_ BK453.out⟩, ⟨zs GE453.out⟩⟩
   case round =>
    clear H'
    try clear c2
    try clear p2
    try clear c3
    try clear c4
    try clear p4
    try clear q4
    try clear hx4
    try clear c5
    try clear c5b0
    try clear c6
    try clear c6b0
    try clear c7
    try clear c7b0
    try clear hcz10_0
    try clear hcz10_1
    try clear hcz10_2
    try clear hfz10_0
    try clear hfz10_1
    try clear hfz10_2
    try clear hx452_0
    try clear hx452_1
    try clear hx452_2
    try clear p2
    try clear p452
    try clear q452
    obtain ⟨x4_2, x21_2, rfl, rfl, HA, HK2, HO_19, BK453, HB⟩ := hrel
    cases gk with
    | zero => exact absurd HA.out (by simp [impl_FaceCount.l1])
    | succ k2 =>
     have H := HA.out
     clear HA
     simp only [impl_FaceCount.l1] at H
     by_cases c13 : x21_2 < (t454.length : Int)
     rotate_left
     ·rw [if_neg c13] at H
      have c13b0 : decide (x21_2 < (t454.length : Int)) = false := decide_eq_false c13
      clear c13
      have H' := aM H
      clear H
      go_wp2
      go_roundg k2
      case measure => have := HK1.out; have := HK2.out; omega
      case rel => exact ⟨(x4_2), (wrap64 (x14_1 + 1)), zr, zr, H', ⟨by have := HK1.out; have := HK2.out; omega⟩, ⟨zs GE453.out⟩⟩
     rw [if_pos c13] at H
     have c13b0 : decide (x21_2 < (t454.length : Int)) = true := decide_eq_true c13
     clear c13
     by_cases c14 : 0 ≤ x21_2
     rotate_left
     ·rw [if_neg c14] at H
      exact absurd H (by simp)
     rw [if_pos c14] at H
     have c14b0 : decide (0 ≤ x21_2) = true := decide_eq_true c14
     clear c14
     by_cases c15 : x21_2 < (t454.length : Int)
     rotate_left
     ·rw [if_neg c15] at H
      exact absurd H (by simp)
     rw [if_pos c15] at H
     have c15b0 : decide (x21_2 < (t454.length : Int)) = true := decide_eq_true c15
     clear c15
     replace H := Option.bind_eq_some_iff.mp H
     obtain ⟨t459, A160, H⟩ := H
     replace H : (if t459 = true then (impl_FaceCount.l1 k2 l0 x4_2 l0 (l0.length : Int) x14_1 t454 (t454.length : Int) (wrap64 (x21_2 + 1))) else (impl_FaceCount.l1 k2 l0 (wrap64 (x4_2 + 1)) l0 (l0.length : Int) x14_1 t454 (t454.length : Int) (wrap64 (x21_2 + 1)))) = some (r1, r2) := H
     have A16 := aM A160
     clear A160
     by_cases c17 : t459 = true
     ·subst c17
      have H1 : (impl_FaceCount.l1 k2 l0 x4_2 l0 (l0.length : Int) x14_1 t454 (t454.length : Int) (wrap64 (x21_2 + 1))) = some (r1, r2) := by rw [if_pos rfl] at H; exact H
      clear H
      have H := H1
      clear H1
      have H' := aM H
      clear H
      have p457 : 0 ≤ (x21_2 : Int) := of_decide_eq_true za
      have q457 : x21_2 < (t454.length : Int) := of_decide_eq_true za
      obtain ⟨ad457, e457, hx457_0, hx457_1, hx457_2⟩ := at_T47 (Kd.R_reads' HO_19.out).2.2 x21_2 p457 q457
      cases e457
      replace p457 := eq_true p457
      replace q457 := eq_true q457
      go_wp2_with (first | ((with_reducible refine gate_dst (N := 8) rfl ?_); refine box_event ?hg (N := 8) ?hd (cs := #[.int .i64 0, .int .i64 0, .int .i64 0]) (t := 47) ?hr ?_; (case hd => rfl); (case hg => rfl); (case hr => first | (go_simp; done) | (go_simp; rfl)); intro gb458 hg w18 hbox hb; have n0_ := aM (Kd.R_below (Kd.R_elderB (mR_ HO_19.out) gb458 (Nat.le_of_eq hg.symm)) hb); have n1_ := aM (blk_below (g := gb453) (o := .cells #[.int .i64 ((rd_T47 l0 x14_1).f0), .int .i64 ((rd_T47 l0 x14_1).f1), .int .i64 ((rd_T47 l0 x14_1).f2)] 47 (0, 0)) (mB_ BK453.out) hb); have n2_ := aM (below_step (zs GE453.out) hb); have n3_ := aM (hbox); have n4_ := aM ((zf GE453.out : w.heap.size ≤ gb458)); have n5_ := aM ((zf GE453.out : w.heap.size ≤ gb458)); have n6_ := aM ((zl BK453.out : gb453 ≠ gb458)); have n7_ := aM ((zn BK453.out : gb458 ≠ gb453)); clear HO_19; clear BK453; clear HB; have HO_19 := n0_; have BK453 := n1_; have HB := n2_; have BK458 := n3_; have GW458 := n4_; have GE458 := n5_; have NB453_458 := n6_; have NB458_453 := n7_; clear n0_ n1_ n2_ n3_ n4_ n5_ n6_ n7_; clear hb hbox hg; have hnb19 := NB458_453.out; have hnc19 := NB453_458.out; have hcz20_0 : w18.cell? ⟨gb458, 0, none⟩ = some (.int .i64 0) := (blk_cell BK458.out 0).trans rfl; have hcz20_1 : w18.cell? ⟨gb458, 1, none⟩ = some (.int .i64 0) := (blk_cell BK458.out 1).trans rfl; have hcz20_2 : w18.cell? ⟨gb458, 2, none⟩ = some (.int .i64 0) := (blk_cell BK458.out 2).trans rfl; have hfz20_0 := blk_frozen BK458.out 0; have hfz20_1 := blk_frozen BK458.out 1; have hfz20_2 := blk_frozen BK458.out 2) | ((with_reducible refine gate_callee (f := 52) rfl ?_); refine goesL_ (some 27) rfl rfl Try.func52 (by kernel_rfl) rfl #[.slice (some ad452) l0.length c0, .agg #[.int .i64 ((rd_T47 t454 x21_2).f0), .int .i64 ((rd_T47 t454 x21_2).f1), .int .i64 ((rd_T47 t454 x21_2).f2)]] rfl zm ?_; (with_reducible refine (impl_Cube_52.calls k2 _ _ l0 ((rd_T47 t454 x21_2).f0) ((rd_T47 t454 x21_2).f1) ((rd_T47 t454 x21_2).f2) true _ ?side1 ?side2 A16.out).mono ?_); (case side1 => exact Kd.C_below HR0.out (zt GE453.out GE458.out)); (case side2 => exact HC0.out); rintro e w21 ⟨rfl, hb⟩; refine ⟨_, rfl, ?_⟩; have n0_ := aM (Kd.R_below (by (with_reducible repeat (first | apply Kd.R_alloc | apply Kd.R_drewN | apply Kd.R_drew)); exact (Kd.R_mono (Kd.R_far (p := ⟨gb458, 2, none⟩) (Kd.R_far (p := ⟨gb458, 1, none⟩) (Kd.R_far (p := ⟨gb458, 0, none⟩) (Kd.R_mono HO_19.out (fun k_ hk => (⟨hk, hk.2⟩ : _ ∧ k_ ≠ gb458))) (fun _ hk => hk.2) (.int .i64 ((rd_T47 t454 x21_2).f0))) (fun _ hk => hk.2) (.int .i64 ((rd_T47 t454 x21_2).f1))) (fun _ hk => hk.2) (.int .i64 ((rd_T47 t454 x21_2).f2))) (fun _ h_ => h_.1))) hb); have n1_ := aM (blk_below (g := gb453) (o := .cells #[.int .i64 ((rd_T47 l0 x14_1).f0), .int .i64 ((rd_T47 l0 x14_1).f1), .int .i64 ((rd_T47 l0 x14_1).f2)] 47 (0, 0)) (by (with_reducible repeat (first | refine blk_drewN ?_ _ | refine blk_drew ?_ | refine blk_alloc ?_ _)); refine blk_far ?_ NB453_458.out _; (with_reducible repeat (first | refine blk_drewN ?_ _ | refine blk_drew ?_ | refine blk_alloc ?_ _)); refine blk_far ?_ NB453_458.out _; (with_reducible repeat (first | refine blk_drewN ?_ _ | refine blk_drew ?_ | refine blk_alloc ?_ _)); refine blk_far ?_ NB453_458.out _; (with_reducible repeat (first | refine blk_drewN ?_ _ | refine blk_drew ?_ | refine blk_alloc ?_ _)); exact BK453.out) hb); have n2_ := aM (blk_below (g := gb458) (o := .cells #[.int .i64 ((rd_T47 t454 x21_2).f0), .int .i64 ((rd_T47 t454 x21_2).f1), .int .i64 ((rd_T47 t454 x21_2).f2)] 47 (0, 0)) (by (with_reducible repeat (first | refine blk_drewN ?_ _ | refine blk_drew ?_ | refine blk_alloc ?_ _)); refine blk_put (cs := #[.int .i64 ((rd_T47 t454 x21_2).f0), .int .i64 ((rd_T47 t454 x21_2).f1), .int .i64 0]) ?_ 2 _ rfl; (with_reducible repeat (first | refine blk_drewN ?_ _ | refine blk_drew ?_ | refine blk_alloc ?_ _)); refine blk_put (cs := #[.int .i64 ((rd_T47 t454 x21_2).f0), .int .i64 0, .int .i64 0]) ?_ 1 _ rfl; (with_reducible repeat (first | refine blk_drewN ?_ _ | refine blk_drew ?_ | refine blk_alloc ?_ _)); refine blk_put (cs := #[.int .i64 0, .int .i64 0, .int .i64 0]) ?_ 0 _ rfl; (with_reducible repeat (first | refine blk_drewN ?_ _ | refine blk_drew ?_ | refine blk_alloc ?_ _)); exact BK458.out) hb); have n3_ := aM (below_step (zt GE453.out GE458.out) hb); clear HO_19; clear BK453; clear BK458; clear HB; have HO_19 := n0_; have BK453 := n1_; have BK458 := n2_; have HB := n3_; clear n0_ n1_ n2_ n3_; (try clear hb); (try clear hb2); (try clear hk); (try clear hi)))
      go_roundg k2
      case measure => have := HK1.out; have := HK2.out; omega
      case rel => exact ⟨(x4_2), (wrap64 (x21_2 + 1)), zr, zr, H', ⟨by have := HK1.out; have := HK2.out; omega⟩, ⟨by (with_reducible repeat (first | apply Kd.R_alloc | apply Kd.R_drewN | apply Kd.R_drew)); exact Kd.R_mono HO_19.out (fun _ hk => hk.1)⟩, ⟨mB_ BK453.out⟩, ⟨zt GE453.out GE458.out⟩⟩
     replace c17 := Bool.eq_false_iff.mpr c17
     subst c17
     have H1 : (impl_FaceCount.l1 k2 l0 (wrap64 (x4_2 + 1)) l0 (l0.length : Int) x14_1 t454 (t454.length : Int) (wrap64 (x21_2 + 1))) = some (r1, r2) := by rw [if_neg (show ¬ (false = true) by decide)] at H; exact H
     clear H
     have H := H1
     clear H1
     have H' := aM H
     clear H
     have p457 : 0 ≤ (x21_2 : Int) := of_decide_eq_true za
     have q457 : x21_2 < (t454.length : Int) := of_decide_eq_true za
     obtain ⟨ad457, e457, hx457_0, hx457_1, hx457_2⟩ := at_T47 (Kd.R_reads' HO_19.out).2.2 x21_2 p457 q457
     cases e457
     replace p457 := eq_true p457
     replace q457 := eq_true q457
     go_wp2_with (first | ((with_reducible refine gate_dst (N := 8) rfl ?_); refine box_event ?hg (N := 8) ?hd (cs := #[.int .i64 0, .int .i64 0, .int .i64 0]) (t := 47) ?hr ?_; (case hd => rfl); (case hg => rfl); (case hr => first | (go_simp; done) | (go_simp; rfl)); intro gb458 hg w22 hbox hb; have n0_ := aM (Kd.R_below (Kd.R_elderB (mR_ HO_19.out) gb458 (Nat.le_of_eq hg.symm)) hb); have n1_ := aM (blk_below (g := gb453) (o := .cells #[.int .i64 ((rd_T47 l0 x14_1).f0), .int .i64 ((rd_T47 l0 x14_1).f1), .int .i64 ((rd_T47 l0 x14_1).f2)] 47 (0, 0)) (mB_ BK453.out) hb); have n2_ := aM (below_step (zs GE453.out) hb); have n3_ := aM (hbox); have n4_ := aM ((zf GE453.out : w.heap.size ≤ gb458)); have n5_ := aM ((zf GE453.out : w.heap.size ≤ gb458)); have n6_ := aM ((zl BK453.out : gb453 ≠ gb458)); have n7_ := aM ((zn BK453.out : gb458 ≠ gb453)); clear HO_19; clear BK453; clear HB; have HO_19 := n0_; have BK453 := n1_; have HB := n2_; have BK458 := n3_; have GW458 := n4_; have GE458 := n5_; have NB453_458 := n6_; have NB458_453 := n7_; clear n0_ n1_ n2_ n3_ n4_ n5_ n6_ n7_; clear hb hbox hg; have hnb23 := NB458_453.out; have hnc23 := NB453_458.out; have hcz24_0 : w22.cell? ⟨gb458, 0, none⟩ = some (.int .i64 0) := (blk_cell BK458.out 0).trans rfl; have hcz24_1 : w22.cell? ⟨gb458, 1, none⟩ = some (.int .i64 0) := (blk_cell BK458.out 1).trans rfl; have hcz24_2 : w22.cell? ⟨gb458, 2, none⟩ = some (.int .i64 0) := (blk_cell BK458.out 2).trans rfl; have hfz24_0 := blk_frozen BK458.out 0; have hfz24_1 := blk_frozen BK458.out 1; have hfz24_2 := blk_frozen BK458.out 2) | ((with_reducible refine gate_callee (f := 52) rfl ?_); refine goesL_ (some 27) rfl rfl Try.func52 (by kernel_rfl) rfl #[.slice (some ad452) l0.length c0, .agg #[.int .i64 ((rd_T47 t454 x21_2).f0), .int .i64 ((rd_T47 t454 x21_2).f1), .int .i64 ((rd_T47 t454 x21_2).f2)]] rfl zm ?_; (with_reducible refine (impl_Cube_52.calls k2 _ _ l0 ((rd_T47 t454 x21_2).f0) ((rd_T47 t454 x21_2).f1) ((rd_T47 t454 x21_2).f2) false _ ?side1 ?side2 A16.out).mono ?_); (case side1 => exact Kd.C_below HR0.out (zt GE453.out GE458.out)); (case side2 => exact HC0.out); rintro e w25 ⟨rfl, hb⟩; refine ⟨_, rfl, ?_⟩; have n0_ := aM (Kd.R_below (by (with_reducible repeat (first | apply Kd.R_alloc | apply Kd.R_drewN | apply Kd.R_drew)); exact (Kd.R_mono (Kd.R_far (p := ⟨gb458, 2, none⟩) (Kd.R_far (p := ⟨gb458, 1, none⟩) (Kd.R_far (p := ⟨gb458, 0, none⟩) (Kd.R_mono HO_19.out (fun k_ hk => (⟨hk, hk.2⟩ : _ ∧ k_ ≠ gb458))) (fun _ hk => hk.2) (.int .i64 ((rd_T47 t454 x21_2).f0))) (fun _ hk => hk.2) (.int .i64 ((rd_T47 t454 x21_2).f1))) (fun _ hk => hk.2) (.int .i64 ((rd_T47 t454 x21_2).f2))) (fun _ h_ => h_.1))) hb); have n1_ := aM (blk_below (g := gb453) (o := .cells #[.int .i64 ((rd_T47 l0 x14_1).f0), .int .i64 ((rd_T47 l0 x14_1).f1), .int .i64 ((rd_T47 l0 x14_1).f2)] 47 (0, 0)) (by (with_reducible repeat (first | refine blk_drewN ?_ _ | refine blk_drew ?_ | refine blk_alloc ?_ _)); refine blk_far ?_ NB453_458.out _; (with_reducible repeat (first | refine blk_drewN ?_ _ | refine blk_drew ?_ | refine blk_alloc ?_ _)); refine blk_far ?_ NB453_458.out _; (with_reducible repeat (first | refine blk_drewN ?_ _ | refine blk_drew ?_ | refine blk_alloc ?_ _)); refine blk_far ?_ NB453_458.out _; (with_reducible repeat (first | refine blk_drewN ?_ _ | refine blk_drew ?_ | refine blk_alloc ?_ _)); exact BK453.out) hb); have n2_ := aM (blk_below (g := gb458) (o := .cells #[.int .i64 ((rd_T47 t454 x21_2).f0), .int .i64 ((rd_T47 t454 x21_2).f1), .int .i64 ((rd_T47 t454 x21_2).f2)] 47 (0, 0)) (by (with_reducible repeat (first | refine blk_drewN ?_ _ | refine blk_drew ?_ | refine blk_alloc ?_ _)); refine blk_put (cs := #[.int .i64 ((rd_T47 t454 x21_2).f0), .int .i64 ((rd_T47 t454 x21_2).f1), .int .i64 0]) ?_ 2 _ rfl; (with_reducible repeat (first | refine blk_drewN ?_ _ | refine blk_drew ?_ | refine blk_alloc ?_ _)); refine blk_put (cs := #[.int .i64 ((rd_T47 t454 x21_2).f0), .int .i64 0, .int .i64 0]) ?_ 1 _ rfl; (with_reducible repeat (first | refine blk_drewN ?_ _ | refine blk_drew ?_ | refine blk_alloc ?_ _)); refine blk_put (cs := #[.int .i64 0, .int .i64 0, .int .i64 0]) ?_ 0 _ rfl; (with_reducible repeat (first | refine blk_drewN ?_ _ | refine blk_drew ?_ | refine blk_alloc ?_ _)); exact BK458.out) hb); have n3_ := aM (below_step (zt GE453.out GE458.out) hb); clear HO_19; clear BK453; clear BK458; clear HB; have HO_19 := n0_; have BK453 := n1_; have BK458 := n2_; have HB := n3_; clear n0_ n1_ n2_ n3_; (try clear hb); (try clear hb2); (try clear hk); (try clear hi)))
     go_roundg k2
     case measure => have := HK1.out; have := HK2.out; omega
     case rel => exact ⟨(wrap64 (x4_2 + 1)), (wrap64 (x21_2 + 1)), zr, zr, H', ⟨by have := HK1.out; have := HK2.out; omega⟩, ⟨by (with_reducible repeat (first | apply Kd.R_alloc | apply Kd.R_drewN | apply Kd.R_drew)); exact Kd.R_mono HO_19.out (fun _ hk => hk.1)⟩, ⟨mB_ BK453.out⟩, ⟨zt GE453.out GE458.out⟩⟩
end Go.Proofs.Ytdcpahfpnjnmcaa.F
end
section
namespace Go.Proofs.Ytdcpahfpnjnmcaa.F
open Go.RowKit Go.Proofs.YtdcpahfpnjnmcaaW.PrintWords Go.Proofs.YtdcpahfpnjnmcaaW.PrintLast Go.Proofs.YtdcpahfpnjnmcaaW.PrintMore
attribute [local go_sem] max2_int min2_int max_two min_two max_three min_three max_four min_four
set_option linter.unusedVariables false
set_option linter.unusedSimpArgs false
theorem eqA49 (d : Nat) (w : World) (x0 y0 : Int) (x1 y1 : Int) :
    (Op.equalIn (d + 2) 49 (.agg #[.int .i64 x0, .int .i64 x1]) (.agg #[.int .i64 y0, .int .i64 y1])).run Try.prog w = .ok (x0 == y0 && (x1 == y1)) w := by
  refine eqA_of Try.underlying49 (by kernel_rfl) ?_
  refine eqf_cons (by rfl) (by go_simp; rfl) (by go_simp; rfl) (by go_simp) ?_
  exact eqf_last (by rfl) (by go_simp; rfl) (by go_simp; rfl) (by go_simp)
end Go.Proofs.Ytdcpahfpnjnmcaa.F
end
section
namespace Go.Proofs.Ytdcpahfpnjnmcaa.F
open Go.RowKit Go.Proofs.YtdcpahfpnjnmcaaW.PrintWords Go.Proofs.YtdcpahfpnjnmcaaW.PrintLast Go.Proofs.YtdcpahfpnjnmcaaW.PrintMore
attribute [local go_sem] max2_int min2_int max_two min_two max_three min_three max_four min_four
set_option linter.unusedVariables false
set_option linter.unusedSimpArgs false
attribute [local go_sem high] eqA49
mutual
def spec_FaceCount.l0 : Nat → List (S47) → Int → Int → Option (Int × Int)
 | 0, _, _, _ => none
 | k + 1, x0, x4, x5 => if x5 < (x0.length : Int) then (spec_FaceCount.l1 k x0 x4 x5 0) else (some (x4, 0))
def spec_FaceCount.l1 : Nat → List (S47) → Int → Int → Int → Option (Int × Int)
 | 0, _, _, _, _ => none
 | k + 1, x0, x4, x5, x6 => if x6 < 6 then (if 0 ≤ x5 then (if x5 < (x0.length : Int) then ((spec_l09Steps.f).bind fun t462 => (if 0 ≤ x6 then (if x6 < (t462.length : Int) then ((spec_l09Add.f ((rd_T47 x0 x5).f0) ((rd_T47 x0 x5).f1) ((rd_T47 x0 x5).f2) ((rd_T47 t462 x6).f0) ((rd_T47 t462 x6).f1) ((rd_T47 t462 x6).f2)).bind fun bt466 => ((spec_l09Index.f k x0 bt466.1 bt466.2.1 bt466.2.2).bind fun t469 => (if t469 < 0 then (spec_FaceCount.l1 k x0 (wrap64 (x4 + 1)) x5 (wrap64 (x6 + 1))) else (spec_FaceCount.l1 k x0 x4 x5 (wrap64 (x6 + 1)))))) else (none)) else (none))) else (none)) else (none)) else (spec_FaceCount.l0 k x0 x4 (wrap64 (x5 + 1)))
end
def spec_FaceCount.f (k : Nat) (l0 : List (S47)) : Option (Int × Int) := (spec_l09Solid.f k l0).bind fun t460 => (if t460 = true then (spec_FaceCount.l0 k l0 0 0) else (some (0, 1)))
def spec_FaceCount.T10 : Bool × List (List Nat × List Nat) := (true, [([], []), ([], []), ([], []), ([1, 2], [1, 2]), ([3], [3]), ([], []), ([], []), ([5, 6], [5, 6]), ([7], [7]), ([4, 8, 5], [4, 8]), ([0, 9, 9], [0, 9]), ([10], [10])])
def spec_FaceCount.B10 : List Nat := [0, 0, 0, 6, 14, 0, 0, 96, 224, 510, 1023, 2047]
theorem spec_FaceCount.tab10 : rtab .any (opsOf Try.f25 10) = spec_FaceCount.T10 := by kernel_rfl
theorem spec_FaceCount.bits10 : waitsOk spec_FaceCount.T10.2 spec_FaceCount.B10 = true := by kernel_rfl
theorem spec_FaceCount.calls (k : Nat) (A0 : Option Addr) (c0 : Nat) (l0 : List (S47)) (r1 : Int) (r2 : Int) (w : World) (hr0 : Kd.C k47 w A0 l0.length l0) (hc0 : l0.length ≤ c0) (h : spec_FaceCount.f k l0 = some (r1, r2)) :
  Calls Try.prog 25 #[.slice A0 l0.length c0] w fun e w' => e = .returned (.tuple #[.int .i64 r1, .int .i64 r2]) ∧ Below w.heap.size w w' := by
 have hu47 := Try.underlying47
 have HR0 := aM hr0
 have HC0 := aM hc0
 clear hr0 hc0
 have HB := aM (Below.refl w.heap.size w)
 have H : ((spec_l09Solid.f k l0).bind fun t460 => (if t460 = true then (spec_FaceCount.l0 k l0 0 0) else (some (0, 1)))) = some (r1, r2) := h
 clear h
 replace H := Option.bind_eq_some_iff.mp H
 obtain ⟨t460, A20, H⟩ := H
 replace H : (if t460 = true then (spec_FaceCount.l0 k l0 0 0) else (some (0, 1))) = some (r1, r2) := H
 have A2 := aM A20
 clear A20
 by_cases c3 : t460 = true
 rotate_left
 ·replace c3 := Bool.eq_false_iff.mpr c3
  subst c3
  have H1 : (some (0, 1)) = some (r1, r2) := by rw [if_neg (show ¬ (false = true) by decide)] at H; exact H
  clear H
  have H := H1
  clear H1
  simp only [Option.some.injEq, Prod.mk.injEq] at H
  obtain ⟨rfl, rfl⟩ := H
  go_enter Try.func25, Try.ntmps25
  go_wp2_with (first | ((with_reducible refine gate_callee (f := 44) rfl ?_); refine goesL_ (some 8) rfl rfl Try.func44 (by kernel_rfl) rfl #[.slice A0 l0.length c0] rfl zm ?_; (with_reducible refine (spec_l09Solid.calls k _ _ l0 false _ ?side1 ?side2 A2.out).mono ?_); (case side1 => repeat (first | exact HR0.out | (with_reducible refine Kd.C_alloc ?_ _) | (with_reducible refine Kd.C_drewN ?_ _) | (with_reducible refine Kd.C_drew ?_))); (case side2 => exact HC0.out); rintro e w25 ⟨rfl, hb⟩; refine ⟨_, rfl, ?_⟩; have n0_ := aM (below_step zb hb); clear HB; have HB := n0_; clear n0_; (try clear hb); (try clear hb2); (try clear hk); (try clear hi)))
  go_ret2
  exact ⟨zw, zb⟩
 subst c3
 have H1 : (spec_FaceCount.l0 k l0 0 0) = some (r1, r2) := by rw [if_pos rfl] at H; exact H
 clear H
 have H := H1
 clear H1
 have H' := aM H
 clear H
 go_enter Try.func25, Try.ntmps25
 go_wp2_with (first | ((with_reducible refine gate_callee (f := 44) rfl ?_); refine goesL_ (some 8) rfl rfl Try.func44 (by kernel_rfl) rfl #[.slice A0 l0.length c0] rfl zm ?_; (with_reducible refine (spec_l09Solid.calls k _ _ l0 true _ ?side1 ?side2 A2.out).mono ?_); (case side1 => repeat (first | exact HR0.out | (with_reducible refine Kd.C_alloc ?_ _) | (with_reducible refine Kd.C_drewN ?_ _) | (with_reducible refine Kd.C_drew ?_))); (case side2 => exact HC0.out); rintro e w4 ⟨rfl, hb⟩; refine ⟨_, rfl, ?_⟩; have n0_ := aM (below_step zb hb); clear HB; have HB := n0_; clear n0_; (try clear hb); (try clear hb2); (try clear hk); (try clear hi)))
 go_loopg [4, 5] k (fun kq v4 v5 w' => ∃ (x4_1 : Int) (x5_1 : Int), v4 = .int .i64 x4_1 ∧ v5 = .int .i64 x5_1 ∧ Aside0 (spec_FaceCount.l0 kq l0 x4_1 x5_1 = some (r1, r2)) ∧ Aside0 (kq ≤ k) ∧ Aside0 (Below w.heap.size w w'))
 case atStart => exact ⟨(0), (0), zr, zr, H', ⟨Nat.le_refl _⟩, ⟨zb⟩⟩
 case round =>
  clear H'
  try clear c2
  try clear p2
  try clear c3
  try clear c4
  obtain ⟨x4_1, x5_1, rfl, rfl, HA, HK1, HB⟩ := hrel
  cases gk with
  | zero => exact absurd HA.out (by simp [spec_FaceCount.l0])
  | succ k1 =>
   have H := HA.out
   clear HA
   simp only [spec_FaceCount.l0] at H
   by_cases c5 : x5_1 < (l0.length : Int)
   rotate_left
   ·rw [if_neg c5] at H
    have c5b0 : decide (x5_1 < (l0.length : Int)) = false := decide_eq_false c5
    clear c5
    simp only [Option.some.injEq, Prod.mk.injEq] at H
    obtain ⟨rfl, rfl⟩ := H
    go_wp2
    go_ret2
    exact ⟨zw, zb⟩
   rw [if_pos c5] at H
   have c5b0 : decide (x5_1 < (l0.length : Int)) = true := decide_eq_true c5
   clear c5
   have H' := aM H
   clear H
   go_wp2
   go_loopg [4, 6] k1 (fun kq v4 v6 w' => ∃ (x4_2 : Int) (x6_2 : Int), v4 = .int .i64 x4_2 ∧ v6 = .int .i64 x6_2 ∧ Aside0 (spec_FaceCount.l1 kq l0 x4_2 x5_1 x6_2 = some (r1, r2)) ∧ Aside0 (kq ≤ k1) ∧ Aside0 (Below w.heap.size w w'))
   case atStart => exact ⟨(x4_1), (0), zr, zr, H', ⟨Nat.le_refl _⟩, ⟨zb⟩⟩
   case round =>
    clear H'
    try clear c2
    try clear p2
    try clear c3
    try clear c4
    try clear c5
    try clear c5b0
    try clear p2
    obtain ⟨x4_2, x6_2, rfl, rfl, HA, HK2, HB⟩ := hrel
    cases gk with
    | zero => exact absurd HA.out (by simp [spec_FaceCount.l1])
    | succ k2 =>
     have H := HA.out
     clear HA
     simp only [spec_FaceCount.l1] at H
     by_cases c6 : x6_2 < 6
     rotate_left
     ·rw [if_neg c6] at H
      have c6b0 : decide (x6_2 < 6) = false := decide_eq_false c6
      clear c6
      have H' := aM H
      clear H
      go_wp2
      go_roundg k2
      case measure => have := HK1.out; have := HK2.out; omega
      case rel => exact ⟨(x4_2), (wrap64 (x5_1 + 1)), zr, zr, H', ⟨by have := HK1.out; have := HK2.out; omega⟩, ⟨zb⟩⟩
     rw [if_pos c6] at H
     have c6b0 : decide (x6_2 < 6) = true := decide_eq_true c6
     clear c6
     by_cases c7 : 0 ≤ x5_1
     rotate_left
     ·rw [if_neg c7] at H
      exact absurd H (by simp)
     rw [if_pos c7] at H
     have c7b0 : decide (0 ≤ x5_1) = true := decide_eq_true c7
     clear c7
     by_cases c8 : x5_1 < (l0.length : Int)
     rotate_left
     ·rw [if_neg c8] at H
      exact absurd H (by simp)
     rw [if_pos c8] at H
     have c8b0 : decide (x5_1 < (l0.length : Int)) = true := decide_eq_true c8
     clear c8
     replace H := Option.bind_eq_some_iff.mp H
     obtain ⟨t462, A90, H⟩ := H
     replace H : (if 0 ≤ x6_2 then (if x6_2 < (t462.length : Int) then ((spec_l09Add.f ((rd_T47 l0 x5_1).f0) ((rd_T47 l0 x5_1).f1) ((rd_T47 l0 x5_1).f2) ((rd_T47 t462 x6_2).f0) ((rd_T47 t462 x6_2).f1) ((rd_T47 t462 x6_2).f2)).bind fun bt466 => ((spec_l09Index.f k2 l0 bt466.1 bt466.2.1 bt466.2.2).bind fun t469 => (if t469 < 0 then (spec_FaceCount.l1 k2 l0 (wrap64 (x4_2 + 1)) x5_1 (wrap64 (x6_2 + 1))) else (spec_FaceCount.l1 k2 l0 x4_2 x5_1 (wrap64 (x6_2 + 1)))))) else (none)) else (none)) = some (r1, r2) := H
     have A9 := aM A90
     clear A90
     by_cases c10 : 0 ≤ x6_2
     rotate_left
     ·rw [if_neg c10] at H
      exact absurd H (by simp)
     rw [if_pos c10] at H
     have c10b0 : decide (0 ≤ x6_2) = true := decide_eq_true c10
     clear c10
     by_cases c11 : x6_2 < (t462.length : Int)
     rotate_left
     ·rw [if_neg c11] at H
      exact absurd H (by simp)
     rw [if_pos c11] at H
     have c11b0 : decide (x6_2 < (t462.length : Int)) = true := decide_eq_true c11
     clear c11
     replace H := Option.bind_eq_some_iff.mp H
     obtain ⟨⟨t466, t467, t468⟩, A120, H⟩ := H
     replace H : ((spec_l09Index.f k2 l0 t466 t467 t468).bind fun t469 => (if t469 < 0 then (spec_FaceCount.l1 k2 l0 (wrap64 (x4_2 + 1)) x5_1 (wrap64 (x6_2 + 1))) else (spec_FaceCount.l1 k2 l0 x4_2 x5_1 (wrap64 (x6_2 + 1))))) = some (r1, r2) := H
     have A12 := aM A120
     clear A120
     replace H := Option.bind_eq_some_iff.mp H
     obtain ⟨t469, A130, H⟩ := H
     replace H : (if t469 < 0 then (spec_FaceCount.l1 k2 l0 (wrap64 (x4_2 + 1)) x5_1 (wrap64 (x6_2 + 1))) else (spec_FaceCount.l1 k2 l0 x4_2 x5_1 (wrap64 (x6_2 + 1)))) = some (r1, r2) := H
     have A13 := aM A130
     clear A130
     by_cases c14 : t469 < 0
     ·rw [if_pos c14] at H
      have c14b0 : decide (t469 < 0) = true := decide_eq_true c14
      clear c14
      have H' := aM H
      clear H
      try go_wp2
      have n0_ := aM (below_drew1 HB.out)
      clear HB
      have HB := n0_
      clear n0_
      have p461 : 0 ≤ (x5_1 : Int) := of_decide_eq_true za
      have q461 : x5_1 < (l0.length : Int) := of_decide_eq_true za
      obtain ⟨ad461, e461, hx461_0, hx461_1, hx461_2⟩ := at_T47 HR0.out x5_1 p461 q461
      have hw461_2 := hx461_2
      have hw461_1 := hx461_1
      have hw461_0 := hx461_0
      cases e461
      replace hx461_0 := (HB.out.cell (World.block_lt_of_cell? w _ hx461_0)).trans hx461_0
      replace hx461_1 := (HB.out.cell (World.block_lt_of_cell? w _ hx461_1)).trans hx461_1
      replace hx461_2 := (HB.out.cell (World.block_lt_of_cell? w _ hx461_2)).trans hx461_2
      replace p461 := eq_true p461
      replace q461 := eq_true q461
      refine start_ (n := 12) (S := fun w' => w'.cell? (ad461.add ((x5_1).toNat * 3)) = some (.int .i64 ((rd_T47 l0 x5_1).f0)) ∧ w'.cell? ⟨(ad461.add ((x5_1).toNat * 3)).block, (ad461.add ((x5_1).toNat * 3)).off + 1, none⟩ = some (.int .i64 ((rd_T47 l0 x5_1).f1)) ∧ w'.cell? ⟨(ad461.add ((x5_1).toNat * 3)).block, (ad461.add ((x5_1).toNat * 3)).off + 2, none⟩ = some (.int .i64 ((rd_T47 l0 x5_1).f2))) (ds := []) #[false, false, false, false, false, false, false, false, false, false, false, false] (by kernel_rfl) rfl rfl ⟨((HB.out.cell (World.block_lt_of_cell? w _ hw461_0)).trans hw461_0), ((HB.out.cell (World.block_lt_of_cell? w _ hw461_1)).trans hw461_1), ((HB.out.cell (World.block_lt_of_cell? w _ hw461_2)).trans hw461_2)⟩ (fun hHeld => ?_); refine with_tabW spec_FaceCount.tab10 spec_FaceCount.bits10 (fun HT_ HW_ => ?_)
      generalize wr.drew = w15 at HB hx461_0 hx461_1 hx461_2 hHeld ⊢
      refine pure_ (i := 0) (N := some 20) (v := ?_) (a' := ?_) #[true, false, false, false, false, false, false, false, false, false, false, false] rfl rfl zz (fun _ _ _ h => h) (Or.inl ⟨by rfl, ?_⟩) ?_ ?_
      rotate_left
      ·intro w'
       go_simp
       with_reducible rfl
      rotate_left
      ·simp only [Act.put, xA, xB, xC, i64_w, i32_w]
       rfl
      refine pure_ (i := 1) (N := some 21) (v := ?_) (a' := ?_) #[true, true, false, false, false, false, false, false, false, false, false, false] rfl rfl zz (fun _ _ _ h => h) (Or.inl ⟨by rfl, ?_⟩) ?_ ?_
      rotate_left
      ·intro w'
       go_simp
       with_reducible rfl
      rotate_left
      ·simp only [Act.put, xA, xB, xC, i64_w, i32_w]
       rfl
      refine pure_ (i := 2) (N := some 22) (v := ?_) (a' := ?_) #[true, true, true, false, false, false, false, false, false, false, false, false] rfl rfl zz (fun _ _ _ h => h) (Or.inl ⟨by rfl, ?_⟩) ?_ ?_
      rotate_left
      ·intro w'
       go_simp
       with_reducible rfl
      rotate_left
      ·simp only [Act.put, xA, xB, xC, i64_w, i32_w]
       rfl
      refine pure_ (i := 3) (N := some 23) (v := ?_) (a' := ?_) #[true, true, true, true, false, false, false, false, false, false, false, false] rfl rfl zz (fun _ _ _ h => h) (Or.inl ⟨by rfl, ?_⟩) ?_ ?_
      rotate_left
      ·intro w'
       go_simp
       with_reducible rfl
      rotate_left
      ·simp only [Act.put, xA, xB, xC, i64_w, i32_w]
       rfl
      refine pure_ (i := 6) (N := some 26) (v := ?_) (a' := ?_) #[true, true, true, true, false, false, true, false, false, false, false, false] rfl rfl zz (fun _ _ _ h => h) (Or.inl ⟨by rfl, ?_⟩) ?_ ?_
      rotate_left
      ·intro w'
       go_simp
       with_reducible rfl
      rotate_left
      ·simp only [Act.put, xA, xB, xC, i64_w, i32_w]
       rfl
      refine take_ (i := 4) (N := some 24) (v := ?_) (a' := ?_) #[true, true, true, true, true, false, true, false, false, false, false, false] rfl rfl (take_ofW HT_.out HW_.out (by kernel_rfl)) (fun _ _ _ h => h) (Or.inl ⟨by rfl, ?_⟩) hHeld ?_ ?_
      rotate_left
      ·rintro w' ⟨s0, s1, s2⟩
       go_simp
       with_reducible rfl
      rotate_left
      ·simp only [Act.put, xA, xB, xC, i64_w, i32_w]
       rfl
      refine one_ (i := 5) (N := some 25) #[true, true, true, true, true, true, true, false, false, false, false, false] rfl rfl (one_of HT_.out (by kernel_rfl)) (by decide) (fun K hK => ?_)
      refine goes_ Try.func55 (by kernel_rfl) rfl #[] (by rfl) rfl rfl zm ?_
      with_reducible refine (spec_l09Steps.calls  t462 _ A9.out).mono ?_
      rintro e w16 ⟨v463, rfl, ho0, hb⟩
      refine ⟨_, rfl, ?_⟩
      have n0_ := aM (Kd.R_lower ho0 (below_size zb))
      have n1_ := aM (below_step zb hb)
      clear HB
      have HO464 := n0_
      have HB := n1_
      clear n0_ n1_
      (try clear hb)
      (try clear hb2)
      (try clear hk)
      (try clear hi)
      (try clear ho0)
      obtain ⟨Ao17, co17, eo17⟩ := Kd.R_slice HO464.out
      (first | subst eo17 | (injection eo17 with f1_ f2_ f3_; have f4_ := f1_.symm; have f5_ := f3_.symm; clear f1_ f2_ f3_; subst f4_; subst f5_))
      have p465 : 0 ≤ (x6_2 : Int) := of_decide_eq_true za
      have q465 : x6_2 < (t462.length : Int) := of_decide_eq_true za
      obtain ⟨ad465, e465, hx465_0, hx465_1, hx465_2⟩ := at_T47 (Kd.R_reads' HO464.out).2.2 x6_2 p465 q465
      cases e465
      replace p465 := eq_true p465
      replace q465 := eq_true q465
      refine hK.out _ _ ⟨((HB.out.cell (World.block_lt_of_cell? w _ hw461_0)).trans hw461_0), ((HB.out.cell (World.block_lt_of_cell? w _ hw461_1)).trans hw461_1), ((HB.out.cell (World.block_lt_of_cell? w _ hw461_2)).trans hw461_2)⟩ (fun hHeld => ?_)
      clear hK K
      refine more_ (S' := fun w' => w'.cell? (ad461.add ((x5_1).toNat * 3)) = some (.int .i64 ((rd_T47 l0 x5_1).f0)) ∧ w'.cell? ⟨(ad461.add ((x5_1).toNat * 3)).block, (ad461.add ((x5_1).toNat * 3)).off + 1, none⟩ = some (.int .i64 ((rd_T47 l0 x5_1).f1)) ∧ w'.cell? ⟨(ad461.add ((x5_1).toNat * 3)).block, (ad461.add ((x5_1).toNat * 3)).off + 2, none⟩ = some (.int .i64 ((rd_T47 l0 x5_1).f2)) ∧ w'.cell? (ad465.add ((x6_2).toNat * 3)) = some (.int .i64 ((rd_T47 t462 x6_2).f0)) ∧ w'.cell? ⟨(ad465.add ((x6_2).toNat * 3)).block, (ad465.add ((x6_2).toNat * 3)).off + 1, none⟩ = some (.int .i64 ((rd_T47 t462 x6_2).f1)) ∧ w'.cell? ⟨(ad465.add ((x6_2).toNat * 3)).block, (ad465.add ((x6_2).toNat * 3)).off + 2, none⟩ = some (.int .i64 ((rd_T47 t462 x6_2).f2))) (fun _ h_ => ⟨h_.1, h_.2.1, h_.2.2.1⟩) ⟨hHeld.1, hHeld.2.1, hHeld.2.2, hx465_0, hx465_1, hx465_2⟩ (fun hHeld => ?_)
      refine norm_ (a' := ?_) ?_ ?_
      rotate_left
      ·show Act.put _ (some 25) _ = _
       simp only [Act.put, xA, xB, xC, i64_w, i32_w]
       rfl
      refine pure_ (i := 7) (N := some 27) (v := ?_) (a' := ?_) #[true, true, true, true, true, true, true, true, false, false, false, false] rfl rfl zz (fun _ _ _ h => h) (Or.inl ⟨by rfl, ?_⟩) ?_ ?_
      rotate_left
      ·intro w'
       go_simp
       with_reducible rfl
      rotate_left
      ·simp only [Act.put, xA, xB, xC, i64_w, i32_w]
       rfl
      refine take_ (i := 8) (N := some 28) (v := ?_) (a' := ?_) #[true, true, true, true, true, true, true, true, true, false, false, false] rfl rfl (take_ofW HT_.out HW_.out (by kernel_rfl)) (fun _ _ _ h => h) (Or.inl ⟨by rfl, ?_⟩) hHeld ?_ ?_
      rotate_left
      ·rintro w' ⟨s0, s1, s2, s3, s4, s5⟩
       go_simp
       with_reducible rfl
      rotate_left
      ·simp only [Act.put, xA, xB, xC, i64_w, i32_w]
       rfl
      refine one_ (i := 9) (N := some 29) #[true, true, true, true, true, true, true, true, true, true, false, false] rfl rfl (one_of HT_.out (by kernel_rfl)) (by decide) (fun K hK => ?_)
      refine goes_ Try.func54 (by kernel_rfl) rfl #[.agg #[.int .i64 ((rd_T47 l0 x5_1).f0), .int .i64 ((rd_T47 l0 x5_1).f1), .int .i64 ((rd_T47 l0 x5_1).f2)], .agg #[.int .i64 ((rd_T47 t462 x6_2).f0), .int .i64 ((rd_T47 t462 x6_2).f1), .int .i64 ((rd_T47 t462 x6_2).f2)]] (by rfl) rfl rfl zm ?_
      with_reducible refine (spec_l09Add.calls ((rd_T47 l0 x5_1).f0) ((rd_T47 l0 x5_1).f1) ((rd_T47 l0 x5_1).f2) ((rd_T47 t462 x6_2).f0) ((rd_T47 t462 x6_2).f1) ((rd_T47 t462 x6_2).f2) t466 t467 t468 _ A12.out).mono ?_
      rintro e w18 ⟨rfl, hb⟩
      have HS3_ := (hb.cell (World.block_lt_of_cell? _ _ (hHeld.2.2.2.1))).trans (hHeld.2.2.2.1)
      have HS4_ := (hb.cell (World.block_lt_of_cell? _ _ (hHeld.2.2.2.2.1))).trans (hHeld.2.2.2.2.1)
      have HS5_ := (hb.cell (World.block_lt_of_cell? _ _ (hHeld.2.2.2.2.2))).trans (hHeld.2.2.2.2.2)
      refine ⟨_, rfl, ?_⟩
      have n0_ := aM (Kd.R_below (mR_ HO464.out) hb)
      have n1_ := aM (below_step zb hb)
      clear HO464
      clear HB
      have HO464 := n0_
      have HB := n1_
      clear n0_ n1_
      (try clear hb)
      (try clear hb2)
      (try clear hk)
      (try clear hi)
      refine hK.out _ _ ⟨((HB.out.cell (World.block_lt_of_cell? w _ hw461_0)).trans hw461_0), ((HB.out.cell (World.block_lt_of_cell? w _ hw461_1)).trans hw461_1), ((HB.out.cell (World.block_lt_of_cell? w _ hw461_2)).trans hw461_2), HS3_, HS4_, HS5_⟩ (fun hHeld => ?_)
      clear hK K
      refine norm_ (a' := ?_) ?_ ?_
      rotate_left
      ·show Act.put _ (some 29) _ = _
       simp only [Act.put, xA, xB, xC, i64_w, i32_w]
       rfl
      refine one_ (i := 10) (N := some 30) #[true, true, true, true, true, true, true, true, true, true, true, false] rfl rfl (one_of HT_.out (by kernel_rfl)) (by decide) (fun K hK => ?_)
      refine goes_ Try.func53 (by kernel_rfl) rfl #[.slice (some ad461) l0.length c0, .agg #[.int .i64 t466, .int .i64 t467, .int .i64 t468]] (by rfl) rfl rfl zm ?_
      with_reducible refine (spec_l09Index.calls k2 _ _ l0 t466 t467 t468 t469 _ ?side1 ?side2 A13.out).mono ?_
      (case side1 => repeat (first | exact (Kd.C_below HR0.out HB.out) | (with_reducible refine Kd.C_alloc ?_ _) | (with_reducible refine Kd.C_drewN ?_ _) | (with_reducible refine Kd.C_drew ?_)))
      (case side2 => exact HC0.out)
      rintro e w19 ⟨rfl, hb⟩
      have HS3_ := (hb.cell (World.block_lt_of_cell? _ _ (hHeld.2.2.2.1))).trans (hHeld.2.2.2.1)
      have HS4_ := (hb.cell (World.block_lt_of_cell? _ _ (hHeld.2.2.2.2.1))).trans (hHeld.2.2.2.2.1)
      have HS5_ := (hb.cell (World.block_lt_of_cell? _ _ (hHeld.2.2.2.2.2))).trans (hHeld.2.2.2.2.2)
      refine ⟨_, rfl, ?_⟩
      have n0_ := aM (Kd.R_below (mR_ HO464.out) hb)
      have n1_ := aM (below_step zb hb)
      clear HO464
      clear HB
      have HO464 := n0_
      have HB := n1_
      clear n0_ n1_
      (try clear hb)
      (try clear hb2)
      (try clear hk)
      (try clear hi)
      refine hK.out _ _ ⟨((HB.out.cell (World.block_lt_of_cell? w _ hw461_0)).trans hw461_0), ((HB.out.cell (World.block_lt_of_cell? w _ hw461_1)).trans hw461_1), ((HB.out.cell (World.block_lt_of_cell? w _ hw461_2)).trans hw461_2), HS3_, HS4_, HS5_⟩ (fun hHeld => ?_)
      clear hK K
      refine norm_ (a' := ?_) ?_ ?_
      rotate_left
      ·show Act.put _ (some 30) _ = _
       simp only [Act.put, xA, xB, xC, i64_w, i32_w]
       rfl
      refine pure_ (i := 11) (N := some 31) (v := ?_) (a' := ?_) #[true, true, true, true, true, true, true, true, true, true, true, true] rfl rfl zz (fun _ _ _ h => h) (Or.inl ⟨by rfl, ?_⟩) ?_ ?_
      rotate_left
      ·intro w'
       go_simp
       with_reducible rfl
      rotate_left
      ·simp only [Act.put, xA, xB, xC, i64_w, i32_w]
       rfl
      refine done_ (done_of HT_.out (by kernel_rfl)) ?_
      try go_wp2
      go_roundg k2
      case measure => have := HK1.out; have := HK2.out; omega
      case rel => exact ⟨(wrap64 (x4_2 + 1)), (wrap64 (x6_2 + 1)), zr, zr, H', ⟨by have := HK1.out; have := HK2.out; omega⟩, ⟨zb⟩⟩
     rw [if_neg c14] at H
     have c14b0 : decide (t469 < 0) = false := decide_eq_false c14
     clear c14
     have H' := aM H
     clear H
     try go_wp2
     have n0_ := aM (below_drew1 HB.out)
     clear HB
     have HB := n0_
     clear n0_
     have p461 : 0 ≤ (x5_1 : Int) := of_decide_eq_true za
     have q461 : x5_1 < (l0.length : Int) := of_decide_eq_true za
     obtain ⟨ad461, e461, hx461_0, hx461_1, hx461_2⟩ := at_T47 HR0.out x5_1 p461 q461
     have hw461_2 := hx461_2
     have hw461_1 := hx461_1
     have hw461_0 := hx461_0
     cases e461
     replace hx461_0 := (HB.out.cell (World.block_lt_of_cell? w _ hx461_0)).trans hx461_0
     replace hx461_1 := (HB.out.cell (World.block_lt_of_cell? w _ hx461_1)).trans hx461_1
     replace hx461_2 := (HB.out.cell (World.block_lt_of_cell? w _ hx461_2)).trans hx461_2
     replace p461 := eq_true p461
     replace q461 := eq_true q461
     refine start_ (n := 12) (S := fun w' => w'.cell? (ad461.add ((x5_1).toNat * 3)) = some (.int .i64 ((rd_T47 l0 x5_1).f0)) ∧ w'.cell? ⟨(ad461.add ((x5_1).toNat * 3)).block, (ad461.add ((x5_1).toNat * 3)).off + 1, none⟩ = some (.int .i64 ((rd_T47 l0 x5_1).f1)) ∧ w'.cell? ⟨(ad461.add ((x5_1).toNat * 3)).block, (ad461.add ((x5_1).toNat * 3)).off + 2, none⟩ = some (.int .i64 ((rd_T47 l0 x5_1).f2))) (ds := []) #[false, false, false, false, false, false, false, false, false, false, false, false] (by kernel_rfl) rfl rfl ⟨((HB.out.cell (World.block_lt_of_cell? w _ hw461_0)).trans hw461_0), ((HB.out.cell (World.block_lt_of_cell? w _ hw461_1)).trans hw461_1), ((HB.out.cell (World.block_lt_of_cell? w _ hw461_2)).trans hw461_2)⟩ (fun hHeld => ?_); refine with_tabW spec_FaceCount.tab10 spec_FaceCount.bits10 (fun HT_ HW_ => ?_)
     generalize wr.drew = w20 at HB hx461_0 hx461_1 hx461_2 hHeld ⊢
     refine pure_ (i := 0) (N := some 20) (v := ?_) (a' := ?_) #[true, false, false, false, false, false, false, false, false, false, false, false] rfl rfl zz (fun _ _ _ h => h) (Or.inl ⟨by rfl, ?_⟩) ?_ ?_
     rotate_left
     ·intro w'
      go_simp
      with_reducible rfl
     rotate_left
     ·simp only [Act.put, xA, xB, xC, i64_w, i32_w]
      rfl
     refine pure_ (i := 1) (N := some 21) (v := ?_) (a' := ?_) #[true, true, false, false, false, false, false, false, false, false, false, false] rfl rfl zz (fun _ _ _ h => h) (Or.inl ⟨by rfl, ?_⟩) ?_ ?_
     rotate_left
     ·intro w'
      go_simp
      with_reducible rfl
     rotate_left
     ·simp only [Act.put, xA, xB, xC, i64_w, i32_w]
      rfl
     refine pure_ (i := 2) (N := some 22) (v := ?_) (a' := ?_) #[true, true, true, false, false, false, false, false, false, false, false, false] rfl rfl zz (fun _ _ _ h => h) (Or.inl ⟨by rfl, ?_⟩) ?_ ?_
     rotate_left
     ·intro w'
      go_simp
      with_reducible rfl
     rotate_left
     ·simp only [Act.put, xA, xB, xC, i64_w, i32_w]
      rfl
     refine pure_ (i := 3) (N := some 23) (v := ?_) (a' := ?_) #[true, true, true, true, false, false, false, false, false, false, false, false] rfl rfl zz (fun _ _ _ h => h) (Or.inl ⟨by rfl, ?_⟩) ?_ ?_
     rotate_left
     ·intro w'
      go_simp
      with_reducible rfl
     rotate_left
     ·simp only [Act.put, xA, xB, xC, i64_w, i32_w]
      rfl
     refine pure_ (i := 6) (N := some 26) (v := ?_) (a' := ?_) #[true, true, true, true, false, false, true, false, false, false, false, false] rfl rfl zz (fun _ _ _ h => h) (Or.inl ⟨by rfl, ?_⟩) ?_ ?_
     rotate_left
     ·intro w'
      go_simp
      with_reducible rfl
     rotate_left
     ·simp only [Act.put, xA, xB, xC, i64_w, i32_w]
      rfl
     refine take_ (i := 4) (N := some 24) (v := ?_) (a' := ?_) #[true, true, true, true, true, false, true, false, false, false, false, false] rfl rfl (take_ofW HT_.out HW_.out (by kernel_rfl)) (fun _ _ _ h => h) (Or.inl ⟨by rfl, ?_⟩) hHeld ?_ ?_
     rotate_left
     ·rintro w' ⟨s0, s1, s2⟩
      go_simp
      with_reducible rfl
     rotate_left
     ·simp only [Act.put, xA, xB, xC, i64_w, i32_w]
      rfl
     refine one_ (i := 5) (N := some 25) #[true, true, true, true, true, true, true, false, false, false, false, false] rfl rfl (one_of HT_.out (by kernel_rfl)) (by decide) (fun K hK => ?_)
     refine goes_ Try.func55 (by kernel_rfl) rfl #[] (by rfl) rfl rfl zm ?_
     with_reducible refine (spec_l09Steps.calls  t462 _ A9.out).mono ?_
     rintro e w21 ⟨v463, rfl, ho0, hb⟩
     refine ⟨_, rfl, ?_⟩
     have n0_ := aM (Kd.R_lower ho0 (below_size zb))
     have n1_ := aM (below_step zb hb)
     clear HB
     have HO464 := n0_
     have HB := n1_
     clear n0_ n1_
     (try clear hb)
     (try clear hb2)
     (try clear hk)
     (try clear hi)
     (try clear ho0)
     obtain ⟨Ao22, co22, eo22⟩ := Kd.R_slice HO464.out
     (first | subst eo22 | (injection eo22 with f1_ f2_ f3_; have f4_ := f1_.symm; have f5_ := f3_.symm; clear f1_ f2_ f3_; subst f4_; subst f5_))
     have p465 : 0 ≤ (x6_2 : Int) := of_decide_eq_true za
     have q465 : x6_2 < (t462.length : Int) := of_decide_eq_true za
     obtain ⟨ad465, e465, hx465_0, hx465_1, hx465_2⟩ := at_T47 (Kd.R_reads' HO464.out).2.2 x6_2 p465 q465
     cases e465
     replace p465 := eq_true p465
     replace q465 := eq_true q465
     refine hK.out _ _ ⟨((HB.out.cell (World.block_lt_of_cell? w _ hw461_0)).trans hw461_0), ((HB.out.cell (World.block_lt_of_cell? w _ hw461_1)).trans hw461_1), ((HB.out.cell (World.block_lt_of_cell? w _ hw461_2)).trans hw461_2)⟩ (fun hHeld => ?_)
     clear hK K
     refine more_ (S' := fun w' => w'.cell? (ad461.add ((x5_1).toNat * 3)) = some (.int .i64 ((rd_T47 l0 x5_1).f0)) ∧ w'.cell? ⟨(ad461.add ((x5_1).toNat * 3)).block, (ad461.add ((x5_1).toNat * 3)).off + 1, none⟩ = some (.int .i64 ((rd_T47 l0 x5_1).f1)) ∧ w'.cell? ⟨(ad461.add ((x5_1).toNat * 3)).block, (ad461.add ((x5_1).toNat * 3)).off + 2, none⟩ = some (.int .i64 ((rd_T47 l0 x5_1).f2)) ∧ w'.cell? (ad465.add ((x6_2).toNat * 3)) = some (.int .i64 ((rd_T47 t462 x6_2).f0)) ∧ w'.cell? ⟨(ad465.add ((x6_2).toNat * 3)).block, (ad465.add ((x6_2).toNat * 3)).off + 1, none⟩ = some (.int .i64 ((rd_T47 t462 x6_2).f1)) ∧ w'.cell? ⟨(ad465.add ((x6_2).toNat * 3)).block, (ad465.add ((x6_2).toNat * 3)).off + 2, none⟩ = some (.int .i64 ((rd_T47 t462 x6_2).f2))) (fun _ h_ => ⟨h_.1, h_.2.1, h_.2.2.1⟩) ⟨hHeld.1, hHeld.2.1, hHeld.2.2, hx465_0, hx465_1, hx465_2⟩ (fun hHeld => ?_)
     refine norm_ (a' := ?_) ?_ ?_
     rotate_left
     ·show Act.put _ (some 25) _ = _
      simp only [Act.put, xA, xB, xC, i64_w, i32_w]
      rfl
     refine pure_ (i := 7) (N := some 27) (v := ?_) (a' := ?_) #[true, true, true, true, true, true, true, true, false, false, false, false] rfl rfl zz (fun _ _ _ h => h) (Or.inl ⟨by rfl, ?_⟩) ?_ ?_
     rotate_left
     ·intro w'
      go_simp
      with_reducible rfl
     rotate_left
     ·simp only [Act.put, xA, xB, xC, i64_w, i32_w]
      rfl
     refine take_ (i := 8) (N := some 28) (v := ?_) (a' := ?_) #[true, true, true, true, true, true, true, true, true, false, false, false] rfl rfl (take_ofW HT_.out HW_.out (by kernel_rfl)) (fun _ _ _ h => h) (Or.inl ⟨by rfl, ?_⟩) hHeld ?_ ?_
     rotate_left
     ·rintro w' ⟨s0, s1, s2, s3, s4, s5⟩
      go_simp
      with_reducible rfl
     rotate_left
     ·simp only [Act.put, xA, xB, xC, i64_w, i32_w]
      rfl
     refine one_ (i := 9) (N := some 29) #[true, true, true, true, true, true, true, true, true, true, false, false] rfl rfl (one_of HT_.out (by kernel_rfl)) (by decide) (fun K hK => ?_)
     refine goes_ Try.func54 (by kernel_rfl) rfl #[.agg #[.int .i64 ((rd_T47 l0 x5_1).f0), .int .i64 ((rd_T47 l0 x5_1).f1), .int .i64 ((rd_T47 l0 x5_1).f2)], .agg #[.int .i64 ((rd_T47 t462 x6_2).f0), .int .i64 ((rd_T47 t462 x6_2).f1), .int .i64 ((rd_T47 t462 x6_2).f2)]] (by rfl) rfl rfl zm ?_
     with_reducible refine (spec_l09Add.calls ((rd_T47 l0 x5_1).f0) ((rd_T47 l0 x5_1).f1) ((rd_T47 l0 x5_1).f2) ((rd_T47 t462 x6_2).f0) ((rd_T47 t462 x6_2).f1) ((rd_T47 t462 x6_2).f2) t466 t467 t468 _ A12.out).mono ?_
     rintro e w23 ⟨rfl, hb⟩
     have HS3_ := (hb.cell (World.block_lt_of_cell? _ _ (hHeld.2.2.2.1))).trans (hHeld.2.2.2.1)
     have HS4_ := (hb.cell (World.block_lt_of_cell? _ _ (hHeld.2.2.2.2.1))).trans (hHeld.2.2.2.2.1)
     have HS5_ := (hb.cell (World.block_lt_of_cell? _ _ (hHeld.2.2.2.2.2))).trans (hHeld.2.2.2.2.2)
     refine ⟨_, rfl, ?_⟩
     have n0_ := aM (Kd.R_below (mR_ HO464.out) hb)
     have n1_ := aM (below_step zb hb)
     clear HO464
     clear HB
     have HO464 := n0_
     have HB := n1_
     clear n0_ n1_
     (try clear hb)
     (try clear hb2)
     (try clear hk)
     (try clear hi)
     refine hK.out _ _ ⟨((HB.out.cell (World.block_lt_of_cell? w _ hw461_0)).trans hw461_0), ((HB.out.cell (World.block_lt_of_cell? w _ hw461_1)).trans hw461_1), ((HB.out.cell (World.block_lt_of_cell? w _ hw461_2)).trans hw461_2), HS3_, HS4_, HS5_⟩ (fun hHeld => ?_)
     clear hK K
     refine norm_ (a' := ?_) ?_ ?_
     rotate_left
     ·show Act.put _ (some 29) _ = _
      simp only [Act.put, xA, xB, xC, i64_w, i32_w]
      rfl
     refine one_ (i := 10) (N := some 30) #[true, true, true, true, true, true, true, true, true, true, true, false] rfl rfl (one_of HT_.out (by kernel_rfl)) (by decide) (fun K hK => ?_)
     refine goes_ Try.func53 (by kernel_rfl) rfl #[.slice (some ad461) l0.length c0, .agg #[.int .i64 t466, .int .i64 t467, .int .i64 t468]] (by rfl) rfl rfl zm ?_
     with_reducible refine (spec_l09Index.calls k2 _ _ l0 t466 t467 t468 t469 _ ?side1 ?side2 A13.out).mono ?_
     (case side1 => repeat (first | exact (Kd.C_below HR0.out HB.out) | (with_reducible refine Kd.C_alloc ?_ _) | (with_reducible refine Kd.C_drewN ?_ _) | (with_reducible refine Kd.C_drew ?_)))
     (case side2 => exact HC0.out)
     rintro e w24 ⟨rfl, hb⟩
     have HS3_ := (hb.cell (World.block_lt_of_cell? _ _ (hHeld.2.2.2.1))).trans (hHeld.2.2.2.1)
     have HS4_ := (hb.cell (World.block_lt_of_cell? _ _ (hHeld.2.2.2.2.1))).trans (hHeld.2.2.2.2.1)
     have HS5_ := (hb.cell (World.block_lt_of_cell? _ _ (hHeld.2.2.2.2.2))).trans (hHeld.2.2.2.2.2)
     refine ⟨_, rfl, ?_⟩
     have n0_ := aM (Kd.R_below (mR_ HO464.out) hb)
     have n1_ := aM (below_step zb hb)
     clear HO464
     clear HB
     have HO464 := n0_
     have HB := n1_
     clear n0_ n1_
     (try clear hb)
     (try clear hb2)
     (try clear hk)
     (try clear hi)
     refine hK.out _ _ ⟨((HB.out.cell (World.block_lt_of_cell? w _ hw461_0)).trans hw461_0), ((HB.out.cell (World.block_lt_of_cell? w _ hw461_1)).trans hw461_1), ((HB.out.cell (World.block_lt_of_cell? w _ hw461_2)).trans hw461_2), HS3_, HS4_, HS5_⟩ (fun hHeld => ?_)
     clear hK K
     refine norm_ (a' := ?_) ?_ ?_
     rotate_left
     ·show Act.put _ (some 30) _ = _
      simp only [Act.put, xA, xB, xC, i64_w, i32_w]
      rfl
     refine pure_ (i := 11) (N := some 31) (v := ?_) (a' := ?_) #[true, true, true, true, true, true, true, true, true, true, true, true] rfl rfl zz (fun _ _ _ h => h) (Or.inl ⟨by rfl, ?_⟩) ?_ ?_
     rotate_left
     ·intro w'
      go_simp
      with_reducible rfl
     rotate_left
     ·simp only [Act.put, xA, xB, xC, i64_w, i32_w]
      rfl
     refine done_ (done_of HT_.out (by kernel_rfl)) ?_
     try go_wp2
     go_roundg k2
     case measure => have := HK1.out; have := HK2.out; omega
     case rel => exact ⟨(x4_2), (wrap64 (x6_2 + 1)), zr, zr, H', ⟨by have := HK1.out; have := HK2.out; omega⟩, ⟨zb⟩⟩
def laws_likeCells.l0 : Nat → List (S49) → List (S49) → Int → Option (Bool)
 | 0, _, _, _ => none
 | k + 1, x0, x1, x5 => if x5 < (x0.length : Int) then (if 0 ≤ x5 then (if x5 < (x1.length : Int) then (if (!(((rd_T49 x0 x5).f0) == ((rd_T49 x1 x5).f0)) || (!(((rd_T49 x0 x5).f1) == ((rd_T49 x1 x5).f1)))) = true then (some false) else (laws_likeCells.l0 k x0 x1 (wrap64 (x5 + 1)))) else (none)) else (none)) else (some true)
def laws_likeCells.f (k : Nat) (l0 : List (S49)) (l1 : List (S49)) : Option (Bool) := if (l0.length : Int) = (l1.length : Int) then (laws_likeCells.l0 k l0 l1 0) else (some false)
theorem laws_likeCells.calls (k : Nat) (A0 : Option Addr) (c0 : Nat) (l0 : List (S49)) (A1 : Option Addr) (c1 : Nat) (l1 : List (S49)) (r : Bool) (w : World) (hr0 : Kd.C k49 w A0 l0.length l0) (hc0 : l0.length ≤ c0) (hr1 : Kd.C k49 w A1 l1.length l1) (hc1 : l1.length ≤ c1) (h : laws_likeCells.f k l0 l1 = some r) :
  Calls Try.prog 56 #[.slice A0 l0.length c0, .slice A1 l1.length c1] w fun e w' => e = .returned (.bool r) ∧ Drawn0 w w' := by
 have hu49 := Try.underlying49
 have HR0 := aM hr0
 have HC0 := aM hc0
 clear hr0 hc0
 have HR1 := aM hr1
 have HC1 := aM hc1
 clear hr1 hc1
 have H : (if (l0.length : Int) = (l1.length : Int) then (laws_likeCells.l0 k l0 l1 0) else (some false)) = some r := h
 clear h
 by_cases c3 : (l0.length : Int) = (l1.length : Int)
 rotate_left
 ·rw [if_neg c3] at H
  have c3b0 : ((l0.length : Int) == (l1.length : Int)) = false := beq_eq_false_iff_ne.mpr c3
  have c3b1 : ((l0.length : Int) != (l1.length : Int)) = true := bne_iff_ne.mpr c3
  have c3b2 : (l0.length == l1.length) = false := by first | simpa using c3 | (simp at c3 ⊢; omega)
  obtain rfl := Option.some.inj H
  go_enter Try.func56, Try.ntmps56
  go_wp2
  repeat (go_quiet (fail); try go_wp2)
  go_ret
  exact ⟨by first | rfl | (simp; done) | (simp [*]; done), by repeat (first | exact Drawn0.refl _ | apply Drawn0.step)⟩
 rw [if_pos c3] at H
 have c3b0 : ((l0.length : Int) == (l1.length : Int)) = true := beq_iff_eq.mpr c3
 have c3b1 : ((l0.length : Int) != (l1.length : Int)) = false := bne_eq_false_iff_eq.mpr c3
 have c3b2 : (l0.length == l1.length) = true := by first | simpa using c3 | (simp at c3 ⊢; omega)
 clear c3
 have H' := aM H
 clear H
 go_enter Try.func56, Try.ntmps56
 go_wp2
 repeat (go_quiet (fail); try go_wp2)
 go_loopg [5] k (fun kq v5 w' => ∃ (x5_1 : Int), v5 = .int .i64 x5_1 ∧ Aside0 (laws_likeCells.l0 kq l0 l1 x5_1 = some r) ∧ Aside0 (kq ≤ k) ∧ Drawn0 w w')
 case atStart => exact ⟨(0), zr, H', ⟨Nat.le_refl _⟩, by repeat (first | exact Drawn0.refl _ | apply Drawn0.step)⟩
 case round =>
  clear H'
  try clear c1
  try clear p2
  try clear c3
  try clear c3b0
  try clear c3b1
  try clear c3b2
  obtain ⟨x5_1, rfl, HA, HK1, ⟨m1, rfl⟩⟩ := hrel
  cases gk with
  | zero => exact absurd HA.out (by simp [laws_likeCells.l0])
  | succ k1 =>
   have H := HA.out
   clear HA
   simp only [laws_likeCells.l0] at H
   by_cases c4 : x5_1 < (l0.length : Int)
   rotate_left
   ·rw [if_neg c4] at H
    have c4b0 : decide (x5_1 < (l0.length : Int)) = false := decide_eq_false c4
    clear c4
    obtain rfl := Option.some.inj H
    go_wp2
    repeat (go_quiet (fail); try go_wp2)
    go_ret
    exact ⟨by first | rfl | (simp; done) | (simp [*]; done), by repeat (first | exact Drawn0.refl _ | apply Drawn0.step)⟩
   rw [if_pos c4] at H
   have c4b0 : decide (x5_1 < (l0.length : Int)) = true := decide_eq_true c4
   clear c4
   by_cases c5 : 0 ≤ x5_1
   rotate_left
   ·rw [if_neg c5] at H
    exact absurd H (by simp)
   rw [if_pos c5] at H
   have c5b0 : decide (0 ≤ x5_1) = true := decide_eq_true c5
   clear c5
   by_cases c6 : x5_1 < (l1.length : Int)
   rotate_left
   ·rw [if_neg c6] at H
    exact absurd H (by simp)
   rw [if_pos c6] at H
   have c6b0 : decide (x5_1 < (l1.length : Int)) = true := decide_eq_true c6
   clear c6
   by_cases c7 : (!(((rd_T49 l0 x5_1).f0) == ((rd_T49 l1 x5_1).f0)) || (!(((rd_T49 l0 x5_1).f1) == ((rd_T49 l1 x5_1).f1)))) = true
   ·rw [if_pos c7] at H
    have c7b0 : (!(((rd_T49 l0 x5_1).f0) == ((rd_T49 l1 x5_1).f0)) || (!(((rd_T49 l0 x5_1).f1) == ((rd_T49 l1 x5_1).f1)))) = true := c7
    clear c7
    obtain rfl := Option.some.inj H
    have p470 : 0 ≤ (x5_1 : Int) := of_decide_eq_true za
    have q470 : x5_1 < (l0.length : Int) := of_decide_eq_true za
    obtain ⟨ad470, e470, hx470_0, hx470_1⟩ := at_T49 HR0.out x5_1 p470 q470
    cases e470
    replace p470 := eq_true p470
    replace q470 := eq_true q470
    have p471 : 0 ≤ (x5_1 : Int) := of_decide_eq_true za
    have q471 : x5_1 < (l1.length : Int) := of_decide_eq_true za
    obtain ⟨ad471, e471, hx471_0, hx471_1⟩ := at_T49 HR1.out x5_1 p471 q471
    cases e471
    replace p471 := eq_true p471
    replace q471 := eq_true q471
    go_wp2
    repeat (go_quiet (fail); try go_wp2)
    go_ret
    exact ⟨by first | rfl | (simp; done) | (simp [*]; done), by repeat (first | exact Drawn0.refl _ | apply Drawn0.step)⟩
   rw [if_neg c7] at H
   have c7b0 : (!(((rd_T49 l0 x5_1).f0) == ((rd_T49 l1 x5_1).f0)) || (!(((rd_T49 l0 x5_1).f1) == ((rd_T49 l1 x5_1).f1)))) = false := by simpa using c7
   clear c7
   have H' := aM H
   clear H
   have p470 : 0 ≤ (x5_1 : Int) := of_decide_eq_true za
   have q470 : x5_1 < (l0.length : Int) := of_decide_eq_true za
   obtain ⟨ad470, e470, hx470_0, hx470_1⟩ := at_T49 HR0.out x5_1 p470 q470
   cases e470
   replace p470 := eq_true p470
   replace q470 := eq_true q470
   have p471 : 0 ≤ (x5_1 : Int) := of_decide_eq_true za
   have q471 : x5_1 < (l1.length : Int) := of_decide_eq_true za
   obtain ⟨ad471, e471, hx471_0, hx471_1⟩ := at_T49 HR1.out x5_1 p471 q471
   cases e471
   replace p471 := eq_true p471
   replace q471 := eq_true q471
   go_wp2
   repeat (go_quiet (fail); try go_wp2)
   go_roundg k1
   case measure => have := HK1.out; omega
   case rel => exact ⟨(wrap64 (x5_1 + 1)), zr, H', ⟨by have := HK1.out; omega⟩, by repeat (first | exact Drawn0.refl _ | apply Drawn0.step)⟩
def laws_likeShapes.l0 : Nat → List (List (S49)) → List (List (S49)) → Int → Option (Bool)
 | 0, _, _, _ => none
 | k + 1, x0, x1, x5 => if x5 < (x0.length : Int) then (if 0 ≤ x5 then (if x5 < (x1.length : Int) then ((laws_likeCells.f k (rd_L2 x0 x5) (rd_L2 x1 x5)).bind fun t474 => (if t474 = true then (laws_likeShapes.l0 k x0 x1 (wrap64 (x5 + 1))) else (some false))) else (none)) else (none)) else (some true)
def laws_likeShapes.f (k : Nat) (l0 : List (List (S49))) (l1 : List (List (S49))) : Option (Bool) := if (l0.length : Int) = (l1.length : Int) then (laws_likeShapes.l0 k l0 l1 0) else (some false)
theorem laws_likeShapes.calls (k : Nat) (A0 : Option Addr) (c0 : Nat) (l0 : List (List (S49))) (A1 : Option Addr) (c1 : Nat) (l1 : List (List (S49))) (r : Bool) (w : World) (hr0 : Kd.C (Kd.slice 49 k49) w A0 l0.length l0) (hc0 : l0.length ≤ c0) (hr1 : Kd.C (Kd.slice 49 k49) w A1 l1.length l1) (hc1 : l1.length ≤ c1) (h : laws_likeShapes.f k l0 l1 = some r) :
  Calls Try.prog 26 #[.slice A0 l0.length c0, .slice A1 l1.length c1] w fun e w' => e = .returned (.bool r) ∧ Drawn0 w w' := by
 have HR0 := aM hr0
 have HC0 := aM hc0
 clear hr0 hc0
 have HR1 := aM hr1
 have HC1 := aM hc1
 clear hr1 hc1
 have H : (if (l0.length : Int) = (l1.length : Int) then (laws_likeShapes.l0 k l0 l1 0) else (some false)) = some r := h
 clear h
 by_cases c3 : (l0.length : Int) = (l1.length : Int)
 rotate_left
 ·rw [if_neg c3] at H
  have c3b0 : ((l0.length : Int) == (l1.length : Int)) = false := beq_eq_false_iff_ne.mpr c3
  have c3b1 : ((l0.length : Int) != (l1.length : Int)) = true := bne_iff_ne.mpr c3
  have c3b2 : (l0.length == l1.length) = false := by first | simpa using c3 | (simp at c3 ⊢; omega)
  obtain rfl := Option.some.inj H
  go_enter Try.func26, Try.ntmps26
  go_wp2
  repeat (go_quiet (fail); try go_wp2)
  go_ret
  exact ⟨by first | rfl | (simp; done) | (simp [*]; done), by repeat (first | exact Drawn0.refl _ | apply Drawn0.step)⟩
 rw [if_pos c3] at H
 have c3b0 : ((l0.length : Int) == (l1.length : Int)) = true := beq_iff_eq.mpr c3
 have c3b1 : ((l0.length : Int) != (l1.length : Int)) = false := bne_eq_false_iff_eq.mpr c3
 have c3b2 : (l0.length == l1.length) = true := by first | simpa using c3 | (simp at c3 ⊢; omega)
 clear c3
 have H' := aM H
 clear H
 go_enter Try.func26, Try.ntmps26
 go_wp2
 repeat (go_quiet (fail); try go_wp2)
 go_loopg [5] k (fun kq v5 w' => ∃ (x5_1 : Int), v5 = .int .i64 x5_1 ∧ Aside0 (laws_likeShapes.l0 kq l0 l1 x5_1 = some r) ∧ Aside0 (kq ≤ k) ∧ Drawn0 w w')
 case atStart => exact ⟨(0), zr, H', ⟨Nat.le_refl _⟩, by repeat (first | exact Drawn0.refl _ | apply Drawn0.step)⟩
 case round =>
  clear H'
  try clear c1
  try clear c2
  try clear p2
  try clear c3
  try clear c3b0
  try clear c3b1
  try clear c3b2
  obtain ⟨x5_1, rfl, HA, HK1, ⟨m1, rfl⟩⟩ := hrel
  cases gk with
  | zero => exact absurd HA.out (by simp [laws_likeShapes.l0])
  | succ k1 =>
   have H := HA.out
   clear HA
   simp only [laws_likeShapes.l0] at H
   by_cases c4 : x5_1 < (l0.length : Int)
   rotate_left
   ·rw [if_neg c4] at H
    have c4b0 : decide (x5_1 < (l0.length : Int)) = false := decide_eq_false c4
    clear c4
    obtain rfl := Option.some.inj H
    go_wp2
    repeat (go_quiet (fail); try go_wp2)
    go_ret
    exact ⟨by first | rfl | (simp; done) | (simp [*]; done), by repeat (first | exact Drawn0.refl _ | apply Drawn0.step)⟩
   rw [if_pos c4] at H
   have c4b0 : decide (x5_1 < (l0.length : Int)) = true := decide_eq_true c4
   clear c4
   by_cases c5 : 0 ≤ x5_1
   rotate_left
   ·rw [if_neg c5] at H
    exact absurd H (by simp)
   rw [if_pos c5] at H
   have c5b0 : decide (0 ≤ x5_1) = true := decide_eq_true c5
   clear c5
   by_cases c6 : x5_1 < (l1.length : Int)
   rotate_left
   ·rw [if_neg c6] at H
    exact absurd H (by simp)
   rw [if_pos c6] at H
   have c6b0 : decide (x5_1 < (l1.length : Int)) = true := decide_eq_true c6
   clear c6
   replace H := Option.bind_eq_some_iff.mp H
   obtain ⟨t474, A70, H⟩ := H
   replace H : (if t474 = true then (laws_likeShapes.l0 k1 l0 l1 (wrap64 (x5_1 + 1))) else (some false)) = some r := H
   have A7 := aM A70
   clear A70
   by_cases c8 : t474 = true
   rotate_left
   ·replace c8 := Bool.eq_false_iff.mpr c8
    subst c8
    have H1 : (some false) = some r := by rw [if_neg (show ¬ (false = true) by decide)] at H; exact H
    clear H
    have H := H1
    clear H1
    obtain rfl := Option.some.inj H
    have p472 : 0 ≤ (x5_1 : Int) := of_decide_eq_true za
    have q472 : x5_1 < (l0.length : Int) := of_decide_eq_true za
    obtain ⟨ad472, A472_0, c472_0, e472, hx472_0, hl472_0, hi472_0⟩ := at_L2 HR0.out x5_1 p472 q472
    cases e472
    have HR472_0 := aM hi472_0
    have HC472_0 := aM hl472_0
    clear hi472_0 hl472_0
    replace p472 := eq_true p472
    replace q472 := eq_true q472
    have p473 : 0 ≤ (x5_1 : Int) := of_decide_eq_true za
    have q473 : x5_1 < (l1.length : Int) := of_decide_eq_true za
    obtain ⟨ad473, A473_0, c473_0, e473, hx473_0, hl473_0, hi473_0⟩ := at_L2 HR1.out x5_1 p473 q473
    cases e473
    have HR473_0 := aM hi473_0
    have HC473_0 := aM hl473_0
    clear hi473_0 hl473_0
    replace p473 := eq_true p473
    replace q473 := eq_true q473
    go_wp2_with (first | (go_at_call 56; (with_reducible refine (laws_likeCells.calls k1 _ _ (rd_L2 l0 x5_1) _ _ (rd_L2 l1 x5_1) false _ ?side1 ?side2 ?side3 ?side4 A7.out).mono ?_); (case side1 => repeat (first | exact HR472_0.out | (with_reducible refine Kd.C_alloc ?_ _) | (with_reducible refine Kd.C_drewN ?_ _) | (with_reducible refine Kd.C_drew ?_))); (case side2 => exact HC472_0.out); (case side3 => repeat (first | exact HR473_0.out | (with_reducible refine Kd.C_alloc ?_ _) | (with_reducible refine Kd.C_drewN ?_ _) | (with_reducible refine Kd.C_drew ?_))); (case side4 => exact HC473_0.out); rintro e w' ⟨rfl, ⟨nd, rfl⟩⟩; (try first | exact ⟨rfl, _, World.drewN_drewN _ _ _⟩ | exact ⟨rfl, _, Eq.trans (World.drewN_drewN _ _ _) (congrArg (World.drewN _) (Nat.add_assoc _ _ _))⟩)))
    repeat (go_quiet (first | (go_at_call 56; (try simp only [i64_w]); (with_reducible refine (laws_likeCells.calls k1 _ _ (rd_L2 l0 x5_1) _ _ (rd_L2 l1 x5_1) false _ ?side1 ?side2 ?side3 ?side4 A7.out).mono ?_); (case side1 => repeat (first | exact HR472_0.out | (with_reducible refine Kd.C_alloc ?_ _) | (with_reducible refine Kd.C_drewN ?_ _) | (with_reducible refine Kd.C_drew ?_))); (case side2 => exact HC472_0.out); (case side3 => repeat (first | exact HR473_0.out | (with_reducible refine Kd.C_alloc ?_ _) | (with_reducible refine Kd.C_drewN ?_ _) | (with_reducible refine Kd.C_drew ?_))); (case side4 => exact HC473_0.out); rintro e w' ⟨rfl, ⟨nd, rfl⟩⟩; (try first | exact ⟨rfl, _, World.drewN_drewN _ _ _⟩ | exact ⟨rfl, _, Eq.trans (World.drewN_drewN _ _ _) (congrArg (World.drewN _) (Nat.add_assoc _ _ _))⟩))); try go_wp2_with (first | (go_at_call 56; (try simp only [i64_w]); (with_reducible refine (laws_likeCells.calls k1 _ _ (rd_L2 l0 x5_1) _ _ (rd_L2 l1 x5_1) false _ ?side1 ?side2 ?side3 ?side4 A7.out).mono ?_); (case side1 => repeat (first | exact HR472_0.out | (with_reducible refine Kd.C_alloc ?_ _) | (with_reducible refine Kd.C_drewN ?_ _) | (with_reducible refine Kd.C_drew ?_))); (case side2 => exact HC472_0.out); (case side3 => repeat (first | exact HR473_0.out | (with_reducible refine Kd.C_alloc ?_ _) | (with_reducible refine Kd.C_drewN ?_ _) | (with_reducible refine Kd.C_drew ?_))); (case side4 => exact HC473_0.out); rintro e w' ⟨rfl, ⟨nd, rfl⟩⟩; (try first | exact ⟨rfl, _, World.drewN_drewN _ _ _⟩ | exact ⟨rfl, _, Eq.trans (World.drewN_drewN _ _ _) (congrArg (World.drewN _) (Nat.add_assoc _ _ _))⟩))))
    go_ret
    exact ⟨by first | rfl | (simp; done) | (simp [*]; done), by repeat (first | exact Drawn0.refl _ | apply Drawn0.step)⟩
   subst c8
   have H1 : (laws_likeShapes.l0 k1 l0 l1 (wrap64 (x5_1 + 1))) = some r := by rw [if_pos rfl] at H; exact H
   clear H
   have H := H1
   clear H1
   have H' := aM H
   clear H
   have p472 : 0 ≤ (x5_1 : Int) := of_decide_eq_true za
   have q472 : x5_1 < (l0.length : Int) := of_decide_eq_true za
   obtain ⟨ad472, A472_0, c472_0, e472, hx472_0, hl472_0, hi472_0⟩ := at_L2 HR0.out x5_1 p472 q472
   cases e472
   have HR472_0 := aM hi472_0
   have HC472_0 := aM hl472_0
   clear hi472_0 hl472_0
   replace p472 := eq_true p472
   replace q472 := eq_true q472
   have p473 : 0 ≤ (x5_1 : Int) := of_decide_eq_true za
   have q473 : x5_1 < (l1.length : Int) := of_decide_eq_true za
   obtain ⟨ad473, A473_0, c473_0, e473, hx473_0, hl473_0, hi473_0⟩ := at_L2 HR1.out x5_1 p473 q473
   cases e473
   have HR473_0 := aM hi473_0
   have HC473_0 := aM hl473_0
   clear hi473_0 hl473_0
   replace p473 := eq_true p473
   replace q473 := eq_true q473
   go_wp2_with (first | (go_at_call 56; (with_reducible refine (laws_likeCells.calls k1 _ _ (rd_L2 l0 x5_1) _ _ (rd_L2 l1 x5_1) true _ ?side1 ?side2 ?side3 ?side4 A7.out).mono ?_); (case side1 => repeat (first | exact HR472_0.out | (with_reducible refine Kd.C_alloc ?_ _) | (with_reducible refine Kd.C_drewN ?_ _) | (with_reducible refine Kd.C_drew ?_))); (case side2 => exact HC472_0.out); (case side3 => repeat (first | exact HR473_0.out | (with_reducible refine Kd.C_alloc ?_ _) | (with_reducible refine Kd.C_drewN ?_ _) | (with_reducible refine Kd.C_drew ?_))); (case side4 => exact HC473_0.out); rintro e w' ⟨rfl, ⟨nd, rfl⟩⟩; (try first | exact ⟨rfl, _, World.drewN_drewN _ _ _⟩ | exact ⟨rfl, _, Eq.trans (World.drewN_drewN _ _ _) (congrArg (World.drewN _) (Nat.add_assoc _ _ _))⟩)))
   repeat (go_quiet (first | (go_at_call 56; (try simp only [i64_w]); (with_reducible refine (laws_likeCells.calls k1 _ _ (rd_L2 l0 x5_1) _ _ (rd_L2 l1 x5_1) true _ ?side1 ?side2 ?side3 ?side4 A7.out).mono ?_); (case side1 => repeat (first | exact HR472_0.out | (with_reducible refine Kd.C_alloc ?_ _) | (with_reducible refine Kd.C_drewN ?_ _) | (with_reducible refine Kd.C_drew ?_))); (case side2 => exact HC472_0.out); (case side3 => repeat (first | exact HR473_0.out | (with_reducible refine Kd.C_alloc ?_ _) | (with_reducible refine Kd.C_drewN ?_ _) | (with_reducible refine Kd.C_drew ?_))); (case side4 => exact HC473_0.out); rintro e w' ⟨rfl, ⟨nd, rfl⟩⟩; (try first | exact ⟨rfl, _, World.drewN_drewN _ _ _⟩ | exact ⟨rfl, _, Eq.trans (World.drewN_drewN _ _ _) (congrArg (World.drewN _) (Nat.add_assoc _ _ _))⟩))); try go_wp2_with (first | (go_at_call 56; (try simp only [i64_w]); (with_reducible refine (laws_likeCells.calls k1 _ _ (rd_L2 l0 x5_1) _ _ (rd_L2 l1 x5_1) true _ ?side1 ?side2 ?side3 ?side4 A7.out).mono ?_); (case side1 => repeat (first | exact HR472_0.out | (with_reducible refine Kd.C_alloc ?_ _) | (with_reducible refine Kd.C_drewN ?_ _) | (with_reducible refine Kd.C_drew ?_))); (case side2 => exact HC472_0.out); (case side3 => repeat (first | exact HR473_0.out | (with_reducible refine Kd.C_alloc ?_ _) | (with_reducible refine Kd.C_drewN ?_ _) | (with_reducible refine Kd.C_drew ?_))); (case side4 => exact HC473_0.out); rintro e w' ⟨rfl, ⟨nd, rfl⟩⟩; (try first | exact ⟨rfl, _, World.drewN_drewN _ _ _⟩ | exact ⟨rfl, _, Eq.trans (World.drewN_drewN _ _ _) (congrArg (World.drewN _) (Nat.add_assoc _ _ _))⟩))))
   go_roundg k1
   case measure => have := HK1.out; omega
   case rel => exact ⟨(wrap64 (x5_1 + 1)), zr, H', ⟨by have := HK1.out; omega⟩, by repeat (first | exact Drawn0.refl _ | apply Drawn0.step)⟩
end Go.Proofs.Ytdcpahfpnjnmcaa.F
end
section
namespace Go.Proofs.Ytdcpahfpnjnmcaa.F
open Go.RowKit Go.Proofs.YtdcpahfpnjnmcaaW.PrintWords Go.Proofs.YtdcpahfpnjnmcaaW.PrintLast Go.Proofs.YtdcpahfpnjnmcaaW.PrintMore
attribute [local go_sem] max2_int min2_int max_two min_two max_three min_three max_four min_four
set_option linter.unusedVariables false
set_option linter.unusedSimpArgs false
attribute [local go_sem high] eqA47
mutual
def laws_FnLayers.j0 : Nat → List (S47) → List (List (S49)) → Int → Int → Bool → Option (Bool)
 | 0, _, _, _, _, _ => none
 | k + 1, x3, x4, x5, x8, x57 => if x57 = true then (some false) else (if x5 = 0 then (laws_FnLayers.l0 k x3 x4 x8 0 0) else (some true))
def laws_FnLayers.l0 : Nat → List (S47) → List (List (S49)) → Int → Int → Int → Option (Bool)
 | 0, _, _, _, _, _ => none
 | k + 1, x3, x4, x8, x12, x13 => if x13 < (x4.length : Int) then (laws_FnLayers.l1 k x3 x4 x8 x12 x13 0) else (if x12 = (x3.length : Int) then (some ((Int.tmod x8 2) == 0)) else (some false))
def laws_FnLayers.l1 : Nat → List (S47) → List (List (S49)) → Int → Int → Int → Int → Option (Bool)
 | 0, _, _, _, _, _, _ => none
 | k + 1, x3, x4, x8, x12, x13, x14 => if 0 ≤ x13 then (if x13 < (x4.length : Int) then (if x14 < ((rd_L2 x4 x13).length : Int) then (if x12 ≥ (x3.length : Int) then (some false) else (if 0 ≤ x12 then (if x12 < (x3.length : Int) then (if 0 ≤ x14 then (if 0 < (x3.length : Int) then (if (!(((rd_T47 x3 x12).f0) == ((rd_T49 (rd_L2 x4 x13) x14).f0)) || (!(((rd_T47 x3 x12).f1) == ((rd_T49 (rd_L2 x4 x13) x14).f1)) || (!(((rd_T47 x3 x12).f2) == (wrap64 (((rd_T47 x3 0).f2) + x13)))))) = true then (some false) else (laws_FnLayers.l1 k x3 x4 x8 (wrap64 (x12 + 1)) x13 (wrap64 (x14 + 1)))) else (none)) else (none)) else (none)) else (none))) else (laws_FnLayers.l0 k x3 x4 x8 x12 (wrap64 (x13 + 1)))) else (none)) else (none)
end
def laws_FnLayers.f (k : Nat) (l0 : List Int) : Option (Bool) := (laws_big.f l0).bind fun t475 => (if t475 = true then (some true) else ((spec_DrawLayersOf.f k l0).bind fun t476 => ((impl_LayersOf.f k t476).bind fun bt479 => ((spec_LayersOf.f k t476).bind fun bt483 => ((impl_FaceCount.f k t476).bind fun bt487 => ((spec_FaceCount.f k t476).bind fun bt489 => (if bt479.2 = bt483.2 then ((laws_likeShapes.f k bt479.1 bt483.1).bind fun t491 => (if t491 = true then (if bt487.2 = bt489.2 then (laws_FnLayers.j0 k t476 bt479.1 bt479.2 bt487.1 (bt487.1 != bt489.1)) else (laws_FnLayers.j0 k t476 bt479.1 bt479.2 bt487.1 true)) else (laws_FnLayers.j0 k t476 bt479.1 bt479.2 bt487.1 true))) else (laws_FnLayers.j0 k t476 bt479.1 bt479.2 bt487.1 true))))))))
end Go.Proofs.Ytdcpahfpnjnmcaa.F
end
