/- The row of FnExactHolesOf, with what it needs: text 4 of 9. -/
import Derived.Test.YtaecheolnpofeaaH2
set_option maxHeartbeats 8000000
set_option maxRecDepth 100000
section
namespace Go.Proofs.Ytaecheolnpofeaa.F
open Go.RowKit Go.Proofs.YtaecheolnpofeaaW.PrintWords Go.Proofs.YtaecheolnpofeaaW.PrintLast Go.Proofs.YtaecheolnpofeaaW.PrintMore
attribute [local go_sem] max2_int min2_int max_two min_two max_three min_three max_four min_four
set_option linter.unusedVariables false
set_option linter.unusedSimpArgs false
theorem impl_around.calls (a0_0 : Int) (a0_1 : Int) (r : List (S44)) (w : World) (h : impl_around.f a0_0 a0_1 = some r) :
  Calls Try.prog 59 #[.agg #[.int .i64 a0_0, .int .i64 a0_1]] w fun e w' => ∃ v0_ : Value, e = .returned (v0_) ∧ Kd.R k44 44 w' w.heap.size (fun _ => True) v0_ r ∧ Below w.heap.size w w' := by
 have hu44 := Try.underlying44
 have HB := aM (Below.refl w.heap.size w)
 have H : (some (([(⟨a0_0, wrap64 (a0_1 - 1)⟩ : S44), (⟨wrap64 (a0_0 - 1), a0_1⟩ : S44), (⟨wrap64 (a0_0 + 1), a0_1⟩ : S44), (⟨a0_0, wrap64 (a0_1 + 1)⟩ : S44)] : List (S44)))) = some r := h
 clear h
 obtain ⟨y369, hy369⟩ : ∃ y_ : List (S44), y_ = (([(⟨a0_0, wrap64 (a0_1 - 1)⟩ : S44), (⟨wrap64 (a0_0 - 1), a0_1⟩ : S44), (⟨wrap64 (a0_0 + 1), a0_1⟩ : S44), (⟨a0_0, wrap64 (a0_1 + 1)⟩ : S44)] : List (S44))) := ⟨_, rfl⟩
 replace H : (some y369) = some r := zy H hy369
 have Ny369 := aM hy369
 clear hy369
 obtain rfl := Option.some.inj H
 go_enter Try.func59, Try.ntmps59
 go_wp2_with (first | ((with_reducible refine gate_dst (N := 1) rfl ?_); refine zx 1 #[.int .i64 a0_0, .int .i64 a0_1] 44 ?_; intro gb368 hg w2 hbox hb; have n0_ := aM (below_step zb hb); have n1_ := aM (hbox); have n2_ := aM ((ze : w.heap.size ≤ gb368)); have n3_ := aM ((ze : w.heap.size ≤ gb368)); clear HB; have HB := n0_; have BK368 := n1_; have GW368 := n2_; have GE368 := n3_; clear n0_ n1_ n2_ n3_ hb hbox hg; have hcz3_0 : w2.cell? ⟨gb368, 0, none⟩ = some (.int .i64 a0_0) := (blk_cell BK368.out 0).trans rfl; have hcz3_1 : w2.cell? ⟨gb368, 1, none⟩ = some (.int .i64 a0_1) := (blk_cell BK368.out 1).trans rfl; have hfz3_0 := blk_frozen BK368.out 0; have hfz3_1 := blk_frozen BK368.out 1) | ((with_reducible refine gate_dst (N := 27) rfl ?_); refine Kd.R_lit k44 _ 44 ?hg (N := 27) ?hd (xs := ([(⟨a0_0, wrap64 (a0_1 - 1)⟩ : S44), (⟨wrap64 (a0_0 - 1), a0_1⟩ : S44), (⟨wrap64 (a0_0 + 1), a0_1⟩ : S44), (⟨a0_0, wrap64 (a0_1 + 1)⟩ : S44)] : List (S44))) (inner := [.int .i64 a0_0, .int .i64 (wrap64 (a0_1 - 1)), .int .i64 (wrap64 (a0_0 - 1)), .int .i64 a0_1, .int .i64 (wrap64 (a0_0 + 1)), .int .i64 a0_1, .int .i64 a0_0, .int .i64 (wrap64 (a0_1 + 1))]) (ok := fun _ => True) (okp := fun _ => True) ?hr ?hp (fun _ hk => hk) trivial (Below.refl _ _) (Nat.le_refl _) (by simp) ?_; (case hd => rfl); (case hg => rfl); (case hr => first | (go_simp; done) | (go_simp; rfl)); (case hp => exact (Reps.c2 (show Kd.M k44 _ _ _ (⟨a0_0, wrap64 (a0_1 - 1)⟩ : S44) [.int .i64 a0_0, .int .i64 (wrap64 (a0_1 - 1))] from (k44_mkM _ _ _ (⟨a0_0, wrap64 (a0_1 - 1)⟩ : S44) )) (Reps.c2 (show Kd.M k44 _ _ _ (⟨wrap64 (a0_0 - 1), a0_1⟩ : S44) [.int .i64 (wrap64 (a0_0 - 1)), .int .i64 a0_1] from (k44_mkM _ _ _ (⟨wrap64 (a0_0 - 1), a0_1⟩ : S44) )) (Reps.c2 (show Kd.M k44 _ _ _ (⟨wrap64 (a0_0 + 1), a0_1⟩ : S44) [.int .i64 (wrap64 (a0_0 + 1)), .int .i64 a0_1] from (k44_mkM _ _ _ (⟨wrap64 (a0_0 + 1), a0_1⟩ : S44) )) (Reps.c2 (show Kd.M k44 _ _ _ (⟨a0_0, wrap64 (a0_1 + 1)⟩ : S44) [.int .i64 a0_0, .int .i64 (wrap64 (a0_1 + 1))] from (k44_mkM _ _ _ (⟨a0_0, wrap64 (a0_1 + 1)⟩ : S44) )) (Reps.none _ _)))))); intro v370 w4 ho5 hb hg_ hnew_; clear hg_ hnew_; (first | rw [← Ny369.out] at ho5 | (simp only [Int.reduceToNat] at ho5; rw [← Ny369.out] at ho5)); have n0_ := aM (Kd.R_lower (Kd.R_newB ho5 (g := gb368) (o := .cells #[.int .i64 a0_0, .int .i64 a0_1] 44 (0, 0)) (mB_ BK368.out)) (below_size (zs GE368.out))); have n1_ := aM (blk_below (g := gb368) (o := .cells #[.int .i64 a0_0, .int .i64 a0_1] 44 (0, 0)) (mB_ BK368.out) hb); have n2_ := aM (below_step (zs GE368.out) hb); clear BK368 HB; have HO371 := n0_; have BK368 := n1_; have HB := n2_; clear n0_ n1_ n2_; clear hb ho5))
 go_ret
 exact ⟨_, zw, zd0 HO371.out, zs GE368.out⟩
def spec_l03Code.f (k : Nat) (l0 : List (S44)) : Option (Int) := (spec_IsShape.f k l0).bind fun t414 => (if t414 = true then ((spec_l02Normal.f k l0).bind fun t415 => ((spec_IsShape.f k t415).bind fun t418 => (if t418 = true then (some 0) else (some 3)))) else (some 1))
theorem spec_l03Code.calls (k : Nat) (A0 : Option Addr) (c0 : Nat) (l0 : List (S44)) (r : Int) (w : World) (hr0 : Kd.C k44 w A0 l0.length l0) (hc0 : l0.length ≤ c0) (h : spec_l03Code.f k l0 = some r) :
  Calls Try.prog 61 #[.slice A0 l0.length c0] w fun e w' => e = .returned (.int .i64 r) ∧ Below w.heap.size w w' := by
 have HR0 := aM hr0
 have HC0 := aM hc0
 clear hr0 hc0
 have HB := aM (Below.refl w.heap.size w)
 have H : ((spec_IsShape.f k l0).bind fun t414 => (if t414 = true then ((spec_l02Normal.f k l0).bind fun t415 => ((spec_IsShape.f k t415).bind fun t418 => (if t418 = true then (some 0) else (some 3)))) else (some 1))) = some r := h
 clear h
 replace H := Option.bind_eq_some_iff.mp H
 obtain ⟨t414, A20, H⟩ := H
 replace H : (if t414 = true then ((spec_l02Normal.f k l0).bind fun t415 => ((spec_IsShape.f k t415).bind fun t418 => (if t418 = true then (some 0) else (some 3)))) else (some 1)) = some r := H
 have A2 := aM A20
 clear A20
 by_cases c3 : t414 = true
 rotate_left
 ·replace c3 := Bool.eq_false_iff.mpr c3
  subst c3
  have H1 : (some 1) = some r := by rw [if_neg (show ¬ (false = true) by decide)] at H; exact H
  clear H
  have H := H1
  clear H1
  obtain rfl := Option.some.inj H
  go_enter Try.func61, Try.ntmps61
  go_wp2_with (first | ((with_reducible refine gate_callee (f := 32) rfl ?_); refine goesL_ (some 4) rfl rfl Try.func32 (by kernel_rfl) rfl #[.slice A0 l0.length c0] rfl zm ?_; (with_reducible refine (spec_IsShape.calls k _ _ l0 false _ ?side1 ?side2 A2.out).mono ?_); (case side1 => repeat (first | exact HR0.out | (with_reducible refine Kd.C_alloc ?_ _) | (with_reducible refine Kd.C_drewN ?_ _) | (with_reducible refine Kd.C_drew ?_))); (case side2 => exact HC0.out); rintro e w15 ⟨rfl, hb⟩; refine ⟨_, rfl, ?_⟩; have n0_ := aM (below_step zb hb); clear HB; have HB := n0_; clear n0_; (try clear hb); (try clear hb2); (try clear hk); (try clear hi)))
  go_ret
  exact ⟨zw, zb⟩
 subst c3
 have H1 : ((spec_l02Normal.f k l0).bind fun t415 => ((spec_IsShape.f k t415).bind fun t418 => (if t418 = true then (some 0) else (some 3)))) = some r := by rw [if_pos rfl] at H; exact H
 clear H
 have H := H1
 clear H1
 replace H := Option.bind_eq_some_iff.mp H
 obtain ⟨t415, A40, H⟩ := H
 replace H : ((spec_IsShape.f k t415).bind fun t418 => (if t418 = true then (some 0) else (some 3))) = some r := H
 have A4 := aM A40
 clear A40
 replace H := Option.bind_eq_some_iff.mp H
 obtain ⟨t418, A50, H⟩ := H
 replace H : (if t418 = true then (some 0) else (some 3)) = some r := H
 have A5 := aM A50
 clear A50
 by_cases c6 : t418 = true
 ·subst c6
  have H1 : (some 0) = some r := by rw [if_pos rfl] at H; exact H
  clear H
  have H := H1
  clear H1
  obtain rfl := Option.some.inj H
  go_enter Try.func61, Try.ntmps61
  go_wp2_with (first | ((with_reducible refine gate_callee (f := 32) rfl ?_); refine goesL_ (some 4) rfl rfl Try.func32 (by kernel_rfl) rfl #[.slice A0 l0.length c0] rfl zm ?_; (with_reducible refine (spec_IsShape.calls k _ _ l0 true _ ?side1 ?side2 A2.out).mono ?_); (case side1 => repeat (first | exact HR0.out | (with_reducible refine Kd.C_alloc ?_ _) | (with_reducible refine Kd.C_drewN ?_ _) | (with_reducible refine Kd.C_drew ?_))); (case side2 => exact HC0.out); rintro e w7 ⟨rfl, hb⟩; refine ⟨_, rfl, ?_⟩; have n0_ := aM (below_step zb hb); clear HB; have HB := n0_; clear n0_; (try clear hb); (try clear hb2); (try clear hk); (try clear hi)) | ((with_reducible refine gate_callee (f := 76) rfl ?_); refine goesL_ (some 7) rfl rfl Try.func76 (by kernel_rfl) rfl #[.slice A0 l0.length c0] rfl zm ?_; (with_reducible refine (spec_l02Normal.calls k _ _ l0 t415 _ ?side1 ?side2 A4.out).mono ?_); (case side1 => repeat (first | exact (Kd.C_below HR0.out HB.out) | (with_reducible refine Kd.C_alloc ?_ _) | (with_reducible refine Kd.C_drewN ?_ _) | (with_reducible refine Kd.C_drew ?_))); (case side2 => exact HC0.out); rintro e w8 ⟨v416, rfl, ho0, hb⟩; refine ⟨_, rfl, ?_⟩; have n0_ := aM (Kd.R_lower ho0 (below_size zb)); have n1_ := aM (below_step zb hb); clear HB; have HO417 := n0_; have HB := n1_; clear n0_ n1_; (try clear hb); (try clear hb2); (try clear hk); (try clear hi); (try clear ho0); obtain ⟨Ao9, co9, eo9⟩ := Kd.R_slice HO417.out; subst eo9) | ((with_reducible refine gate_callee (f := 32) rfl ?_); refine goesL_ (some 8) rfl rfl Try.func32 (by kernel_rfl) rfl #[.slice Ao9 t415.length co9] rfl zm ?_; (with_reducible refine (spec_IsShape.calls k _ _ t415 true _ ?side1 ?side2 A5.out).mono ?_); (case side1 => exact zc HO417.out); (case side2 => exact (Kd.R_reads' HO417.out).2.1); rintro e w10 ⟨rfl, hb⟩; refine ⟨_, rfl, ?_⟩; have n0_ := aM (Kd.R_below (mR_ HO417.out) hb); have n1_ := aM (below_step zb hb); clear HO417 HB; have HO417 := n0_; have HB := n1_; clear n0_ n1_; (try clear hb); (try clear hb2); (try clear hk); (try clear hi)))
  go_ret
  exact ⟨zw, zb⟩
 replace c6 := Bool.eq_false_iff.mpr c6
 subst c6
 have H1 : (some 3) = some r := by rw [if_neg (show ¬ (false = true) by decide)] at H; exact H
 clear H
 have H := H1
 clear H1
 obtain rfl := Option.some.inj H
 go_enter Try.func61, Try.ntmps61
 go_wp2_with (first | ((with_reducible refine gate_callee (f := 32) rfl ?_); refine goesL_ (some 4) rfl rfl Try.func32 (by kernel_rfl) rfl #[.slice A0 l0.length c0] rfl zm ?_; (with_reducible refine (spec_IsShape.calls k _ _ l0 true _ ?side1 ?side2 A2.out).mono ?_); (case side1 => repeat (first | exact HR0.out | (with_reducible refine Kd.C_alloc ?_ _) | (with_reducible refine Kd.C_drewN ?_ _) | (with_reducible refine Kd.C_drew ?_))); (case side2 => exact HC0.out); rintro e w11 ⟨rfl, hb⟩; refine ⟨_, rfl, ?_⟩; have n0_ := aM (below_step zb hb); clear HB; have HB := n0_; clear n0_; (try clear hb); (try clear hb2); (try clear hk); (try clear hi)) | ((with_reducible refine gate_callee (f := 76) rfl ?_); refine goesL_ (some 7) rfl rfl Try.func76 (by kernel_rfl) rfl #[.slice A0 l0.length c0] rfl zm ?_; (with_reducible refine (spec_l02Normal.calls k _ _ l0 t415 _ ?side1 ?side2 A4.out).mono ?_); (case side1 => repeat (first | exact (Kd.C_below HR0.out HB.out) | (with_reducible refine Kd.C_alloc ?_ _) | (with_reducible refine Kd.C_drewN ?_ _) | (with_reducible refine Kd.C_drew ?_))); (case side2 => exact HC0.out); rintro e w12 ⟨v416, rfl, ho0, hb⟩; refine ⟨_, rfl, ?_⟩; have n0_ := aM (Kd.R_lower ho0 (below_size zb)); have n1_ := aM (below_step zb hb); clear HB; have HO417 := n0_; have HB := n1_; clear n0_ n1_; (try clear hb); (try clear hb2); (try clear hk); (try clear hi); (try clear ho0); obtain ⟨Ao13, co13, eo13⟩ := Kd.R_slice HO417.out; subst eo13) | ((with_reducible refine gate_callee (f := 32) rfl ?_); refine goesL_ (some 8) rfl rfl Try.func32 (by kernel_rfl) rfl #[.slice Ao13 t415.length co13] rfl zm ?_; (with_reducible refine (spec_IsShape.calls k _ _ t415 false _ ?side1 ?side2 A5.out).mono ?_); (case side1 => exact zc HO417.out); (case side2 => exact (Kd.R_reads' HO417.out).2.1); rintro e w14 ⟨rfl, hb⟩; refine ⟨_, rfl, ?_⟩; have n0_ := aM (Kd.R_below (mR_ HO417.out) hb); have n1_ := aM (below_step zb hb); clear HO417 HB; have HO417 := n0_; have HB := n1_; clear n0_ n1_; (try clear hb); (try clear hb2); (try clear hk); (try clear hi)))
 go_ret
 exact ⟨zw, zb⟩
def spec_l06Code.f (k : Nat) (l0 : List (S44)) : Option (Int) := (spec_l03Code.f k l0).bind fun t419 => (some t419)
theorem spec_l06Code.calls (k : Nat) (A0 : Option Addr) (c0 : Nat) (l0 : List (S44)) (r : Int) (w : World) (hr0 : Kd.C k44 w A0 l0.length l0) (hc0 : l0.length ≤ c0) (h : spec_l06Code.f k l0 = some r) :
  Calls Try.prog 43 #[.slice A0 l0.length c0] w fun e w' => e = .returned (.int .i64 r) ∧ Below w.heap.size w w' := by
 have HR0 := aM hr0
 have HC0 := aM hc0
 clear hr0 hc0
 have HB := aM (Below.refl w.heap.size w)
 have H : ((spec_l03Code.f k l0).bind fun t419 => (some t419)) = some r := h
 clear h
 replace H := Option.bind_eq_some_iff.mp H
 obtain ⟨t419, A20, H⟩ := H
 replace H : (some t419) = some r := H
 have A2 := aM A20
 clear A20
 obtain rfl := Option.some.inj H
 go_enter Try.func43, Try.ntmps43
 go_wp2_with (first | ((with_reducible refine gate_callee (f := 61) rfl ?_); refine goesL_ (some 4) rfl rfl Try.func61 (by kernel_rfl) rfl #[.slice A0 l0.length c0] rfl zm ?_; (with_reducible refine (spec_l03Code.calls k _ _ l0 t419 _ ?side1 ?side2 A2.out).mono ?_); (case side1 => repeat (first | exact HR0.out | (with_reducible refine Kd.C_alloc ?_ _) | (with_reducible refine Kd.C_drewN ?_ _) | (with_reducible refine Kd.C_drew ?_))); (case side2 => exact HC0.out); rintro e w3 ⟨rfl, hb⟩; refine ⟨_, rfl, ?_⟩; have n0_ := aM (below_step zb hb); clear HB; have HB := n0_; clear n0_; (try clear hb); (try clear hb2); (try clear hk); (try clear hi)))
 go_ret
 exact ⟨zw, zb⟩
def spec_l04Size.l0 : Nat → List (S44) → Int → Int → Int → Int → Int → Option (Int × Int)
 | 0, _, _, _, _, _, _ => none
 | k + 1, x0, x4, x5, x6, x7, x8 => if x8 < (x0.length : Int) then (if 0 ≤ x8 then (spec_l04Size.l0 k x0 x4 x5 (mx x6 (wrap64 ((wrap64 (((rd_T44 x0 x8).f0) - x4)) + 1))) (mx x7 (wrap64 ((wrap64 (((rd_T44 x0 x8).f1) - x5)) + 1))) (wrap64 (x8 + 1))) else (none)) else (some (x6, x7))
def spec_l04Size.f (k : Nat) (l0 : List (S44)) : Option (Int × Int) := (spec_l02Least.f k l0).bind fun bt420 => (spec_l04Size.l0 k l0 bt420.1 bt420.2 0 0 0)
theorem spec_l04Size.calls (k : Nat) (A0 : Option Addr) (c0 : Nat) (l0 : List (S44)) (r1 : Int) (r2 : Int) (w : World) (hr0 : Kd.C k44 w A0 l0.length l0) (hc0 : l0.length ≤ c0) (h : spec_l04Size.f k l0 = some (r1, r2)) :
  Calls Try.prog 63 #[.slice A0 l0.length c0] w fun e w' => e = .returned (.tuple #[.int .i64 r1, .int .i64 r2]) ∧ Below w.heap.size w w' := by
 have HR0 := aM hr0
 have HC0 := aM hc0
 clear hr0 hc0
 have HB := aM (Below.refl w.heap.size w)
 have H : ((spec_l02Least.f k l0).bind fun bt420 => (spec_l04Size.l0 k l0 bt420.1 bt420.2 0 0 0)) = some (r1, r2) := h
 clear h
 replace H := Option.bind_eq_some_iff.mp H
 obtain ⟨⟨t420, t421⟩, A20, H⟩ := H
 replace H : (spec_l04Size.l0 k l0 t420 t421 0 0 0) = some (r1, r2) := H
 have A2 := aM A20
 clear A20
 have H' := aM H
 clear H
 go_enter Try.func63, Try.ntmps63
 go_wp2_with (first | ((with_reducible refine gate_callee (f := 62) rfl ?_); refine goesL_ (some 11) rfl rfl Try.func62 (by kernel_rfl) rfl #[.slice A0 l0.length c0] rfl zm ?_; (with_reducible refine (spec_l02Least.calls k _ _ l0 t420 t421 _ ?side1 ?side2 A2.out).mono ?_); (case side1 => repeat (first | exact HR0.out | (with_reducible refine Kd.C_alloc ?_ _) | (with_reducible refine Kd.C_drewN ?_ _) | (with_reducible refine Kd.C_drew ?_))); (case side2 => exact HC0.out); rintro e w3 ⟨rfl, hb⟩; refine ⟨_, rfl, ?_⟩; have n0_ := aM (below_step zb hb); clear HB; have HB := n0_; clear n0_; (try clear hb); (try clear hb2); (try clear hk); (try clear hi)))
 go_loopg [6, 7, 8] k (fun kq v6 v7 v8 w' => ∃ (x6_1 : Int) (x7_1 : Int) (x8_1 : Int), v6 = .int .i64 x6_1 ∧ v7 = .int .i64 x7_1 ∧ v8 = .int .i64 x8_1 ∧ Aside0 (spec_l04Size.l0 kq l0 t420 t421 x6_1 x7_1 x8_1 = some (r1, r2)) ∧ Aside0 (kq ≤ k) ∧ Aside0 (Below w.heap.size w w'))
 case atStart => exact ⟨(0), (0), (0), zr, zr, zr, H', ⟨Nat.le_refl _⟩, ⟨zb⟩⟩
 case round =>
  clear H'
  try clear p2
  obtain ⟨x6_1, x7_1, x8_1, rfl, rfl, rfl, HA, HK1, HB⟩ := hrel
  cases gk with
  | zero => exact absurd HA.out (by simp [spec_l04Size.l0])
  | succ k1 =>
   have H := HA.out
   clear HA
   simp only [spec_l04Size.l0] at H
   by_cases c4 : x8_1 < (l0.length : Int)
   rotate_left
   ·rw [if_neg c4] at H
    have c4b0 : decide (x8_1 < (l0.length : Int)) = false := decide_eq_false c4
    clear c4
    simp only [Option.some.injEq, Prod.mk.injEq] at H
    obtain ⟨rfl, rfl⟩ := H
    go_wp2
    go_ret2
    exact ⟨zw, zb⟩
   rw [if_pos c4] at H
   have c4b0 : decide (x8_1 < (l0.length : Int)) = true := decide_eq_true c4
   clear c4
   by_cases c5 : 0 ≤ x8_1
   rotate_left
   ·rw [if_neg c5] at H
    exact absurd H (by simp)
   rw [if_pos c5] at H
   have c5b0 : decide (0 ≤ x8_1) = true := decide_eq_true c5
   clear c5
   obtain ⟨ji6, hji6⟩ : ∃ j_ : Int, (mx x6_1 (wrap64 ((wrap64 (((rd_T44 l0 x8_1).f0) - t420)) + 1))) = j_ := ⟨_, rfl⟩
   replace H : (spec_l04Size.l0 k1 l0 t420 t421 ji6 (mx x7_1 (wrap64 ((wrap64 (((rd_T44 l0 x8_1).f1) - t421)) + 1))) (wrap64 (x8_1 + 1))) = some (r1, r2) := by first | (rw [hji6] at H; exact H) | (simp only [hji6] at H ⊢; exact H)
   have hji6_ : (if x6_1 < (wrap64 ((wrap64 (((rd_T44 l0 x8_1).f0) - t420)) + 1)) then (wrap64 ((wrap64 (((rd_T44 l0 x8_1).f0) - t420)) + 1)) else x6_1) = ji6 := hji6
   obtain ⟨ji7, hji7⟩ : ∃ j_ : Int, (mx x7_1 (wrap64 ((wrap64 (((rd_T44 l0 x8_1).f1) - t421)) + 1))) = j_ := ⟨_, rfl⟩
   replace H : (spec_l04Size.l0 k1 l0 t420 t421 ji6 ji7 (wrap64 (x8_1 + 1))) = some (r1, r2) := by first | (rw [hji7] at H; exact H) | (simp only [hji7] at H ⊢; exact H)
   have hji7_ : (if x7_1 < (wrap64 ((wrap64 (((rd_T44 l0 x8_1).f1) - t421)) + 1)) then (wrap64 ((wrap64 (((rd_T44 l0 x8_1).f1) - t421)) + 1)) else x7_1) = ji7 := hji7
   have H' := aM H
   clear H
   have p422 : 0 ≤ (x8_1 : Int) := of_decide_eq_true za
   have q422 : x8_1 < (l0.length : Int) := of_decide_eq_true za
   obtain ⟨ad422, e422, hx422_0, hx422_1⟩ := at_T44 HR0.out x8_1 p422 q422
   cases e422
   replace hx422_0 := zk HB.out hx422_0
   replace hx422_1 := zk HB.out hx422_1
   replace p422 := eq_true p422
   replace q422 := eq_true q422
   have p423 : 0 ≤ (x8_1 : Int) := of_decide_eq_true za
   have q423 : x8_1 < (l0.length : Int) := of_decide_eq_true za
   obtain ⟨ad423, e423, hx423_0, hx423_1⟩ := at_T44 HR0.out x8_1 p423 q423
   obtain rfl : ad422 = ad423 := (by injection e423)
   replace hx423_0 := zk HB.out hx423_0
   replace hx423_1 := zk HB.out hx423_1
   replace p423 := eq_true p423
   replace q423 := eq_true q423
   go_wp2
   go_roundg k1
   case measure => have := HK1.out; omega
   case rel => exact ⟨(ji6), (ji7), (wrap64 (x8_1 + 1)), (by first | rfl | (simp; done) | (simp only [← hji6] <;> (first | rfl | simp)) | (simp [*]; done)), (by first | rfl | (simp; done) | (simp only [← hji7] <;> (first | rfl | simp)) | (simp [*]; done)), zr, H', ⟨by have := HK1.out; omega⟩, ⟨zb⟩⟩
mutual
def spec_l02Parts.l0 : Nat → List (S44) → List Int → Int → Option (List Int)
 | 0, _, _, _ => none
 | k + 1, x0, x3, x4 => if x4 < (x0.length : Int) then (if x3.length < 17592186044416 then (spec_l02Parts.l0 k x0 (x3 ++ [(-1)]) (wrap64 (x4 + 1))) else (none)) else (spec_l02Parts.l1 k x0 x3 0)
def spec_l02Parts.l1 : Nat → List (S44) → List Int → Int → Option (List Int)
 | 0, _, _, _ => none
 | k + 1, x0, x3, x5 => if x5 < (x0.length : Int) then (if 0 ≤ x5 then (if x5 < (x3.length : Int) then (if (rd x3 x5) ≥ 0 then (spec_l02Parts.l1 k x0 x3 (wrap64 (x5 + 1))) else (spec_l02Parts.l2 k x0 (x3.set (x5 : Int).toNat x5) x5 (([x5] : List Int)))) else (none)) else (none)) else (some x3)
def spec_l02Parts.l2 : Nat → List (S44) → List Int → Int → List Int → Option (List Int)
 | 0, _, _, _, _ => none
 | k + 1, x0, x3, x5, x6 => if (x6.length : Int) > 0 then (if 0 < (x6.length : Int) then (if 0 ≤ (rd x6 0) then (if (rd x6 0) < (x0.length : Int) then ((spec_l02Around.f ((rd_T44 x0 (rd x6 0)).f0) ((rd_T44 x0 (rd x6 0)).f1)).bind fun t437 => (if 1 ≤ (x6.length : Int) then (spec_l02Parts.l3 k x0 x3 x5 (x6.drop (1 : Int).toNat) t437 0) else (none))) else (none)) else (none)) else (none)) else (spec_l02Parts.l1 k x0 x3 (wrap64 (x5 + 1)))
def spec_l02Parts.l3 : Nat → List (S44) → List Int → Int → List Int → List (S44) → Int → Option (List Int)
 | 0, _, _, _, _, _, _ => none
 | k + 1, x0, x3, x5, x6, x7, x8 => if x8 < 4 then (if 0 ≤ x8 then (if x8 < (x7.length : Int) then ((spec_l02Index.f k x0 ((rd_T44 x7 x8).f0) ((rd_T44 x7 x8).f1)).bind fun t444 => (if t444 ≥ 0 then (if 0 ≤ t444 then (if t444 < (x3.length : Int) then (if (rd x3 t444) < 0 then (if x6.length < 17592186044416 then (spec_l02Parts.l3 k x0 (x3.set (t444 : Int).toNat x5) x5 (x6 ++ [t444]) x7 (wrap64 (x8 + 1))) else (none)) else (spec_l02Parts.l3 k x0 x3 x5 x6 x7 (wrap64 (x8 + 1)))) else (none)) else (none)) else (spec_l02Parts.l3 k x0 x3 x5 x6 x7 (wrap64 (x8 + 1))))) else (none)) else (none)) else (spec_l02Parts.l2 k x0 x3 x5 x6)
end
def spec_l02Parts.f (k : Nat) (l0 : List (S44)) : Option (List Int) := spec_l02Parts.l0 k l0 (([] : List Int)) 0
theorem spec_l02Parts.calls (k : Nat) (A0 : Option Addr) (c0 : Nat) (l0 : List (S44)) (r : List Int) (w : World) (hr0 : Kd.C k44 w A0 l0.length l0) (hc0 : l0.length ≤ c0) (h : spec_l02Parts.f k l0 = some r) :
  Calls Try.prog 64 #[.slice A0 l0.length c0] w fun e w' => ∃ v0_ : Value, e = .returned (v0_) ∧ Kd.R (Kd.int .i64) 2 w' w.heap.size (fun _ => True) v0_ r ∧ Below w.heap.size w w' := by
 have hu44 := Try.underlying44
 have HR0 := aM hr0
 have HC0 := aM hc0
 clear hr0 hc0
 have HB := aM (Below.refl w.heap.size w)
 have H : (spec_l02Parts.l0 k l0 (([] : List Int)) 0) = some r := h
 clear h
 obtain ⟨y424, hy424⟩ : ∃ y_ : List Int, y_ = (([] : List Int)) := ⟨_, rfl⟩
 replace H : (spec_l02Parts.l0 k l0 y424 0) = some r := zy H hy424
 have Ny424 := aM hy424
 clear hy424
 have H' := aM H
 clear H
 go_enter Try.func64, Try.ntmps64
 go_wp2_with (first | ((with_reducible refine gate_dst (N := 10) rfl ?_); refine Kd.R_lit (Kd.int .i64) _ 2 ?hg (N := 10) ?hd (xs := ([] : List Int)) (inner := []) (ok := fun _ => True) (okp := fun _ => True) ?hr ?hp (fun _ hk => hk) trivial (Below.refl _ _) (Nat.le_refl _) (by simp) ?_; (case hd => rfl); (case hg => rfl); (case hr => first | (go_simp; done) | (go_simp; rfl)); (case hp => exact (Reps.none _ _)); intro v425 w2 ho3 hb hg_ hnew_; clear hg_ hnew_; (first | rw [← Ny424.out] at ho3 | (simp only [Int.reduceToNat] at ho3; rw [← Ny424.out] at ho3)); have n0_ := aM (Kd.R_lower ho3 (below_size zb)); have n1_ := aM (below_step zb hb); clear HB; have HO426 := n0_; have HB := n1_; clear n0_ n1_; clear hb ho3))
 go_loopg [3, 4] k (fun kq v3 v4 w' => ∃ (x3_1 : List Int) (x4_1 : Int), v4 = .int .i64 x4_1 ∧ Aside0 (spec_l02Parts.l0 kq l0 x3_1 x4_1 = some r) ∧ Aside0 (kq ≤ k) ∧ Aside0 (Kd.R (Kd.int .i64) 2 w' w.heap.size (fun _ => True) v3 x3_1) ∧ Aside0 (Below w.heap.size w w'))
 case atStart => exact ⟨(y424), (0), zr, H', ⟨Nat.le_refl _⟩, ⟨mR_ HO426.out⟩, ⟨zb⟩⟩
 case round =>
  clear H'
  try clear p2
  obtain ⟨x3_1, x4_1, rfl, HA, HK1, HO_3, HB⟩ := hrel
  cases gk with
  | zero => exact absurd HA.out (by simp [spec_l02Parts.l0])
  | succ k1 =>
   have H := HA.out
   clear HA
   simp only [spec_l02Parts.l0] at H
   by_cases c4 : x4_1 < (l0.length : Int)
   ·rw [if_pos c4] at H
    have c4b0 : decide (x4_1 < (l0.length : Int)) = true := decide_eq_true c4
    clear c4
    by_cases c5 : x3_1.length < 17592186044416
    rotate_left
    ·rw [if_neg c5] at H
     exact absurd H (by simp)
    rw [if_pos c5] at H
    have LMc5 := aM c5
    clear c5
    obtain ⟨y427, hy427⟩ : ∃ y_ : List Int, y_ = (x3_1 ++ [(-1)]) := ⟨_, rfl⟩
    replace H : (spec_l02Parts.l0 k1 l0 y427 (wrap64 (x4_1 + 1))) = some r := zy H hy427
    have Ny427 := aM hy427
    clear hy427
    have H' := aM H
    clear H
    go_wp2_with (first | ((with_reducible refine gate_builtin (b := .append) (xs := #[.tmp 17, .tmp 18]) rfl ?_); at_builtin; refine Kd.R_append (Kd.int .i64) (w0 := w) w.heap.size rfl (.tmp 17) (.tmp 18) 33 2 (.int .i64 0) 8 rfl Try.underlying33 info2 rfl (by decide) (by omega) u3 x3_1 (-1) [.int .i64 (-1)] (fun _ => True) (fun _ => False) rfl rfl ?aP (fun _ hk => hk.elim) ?aF ?aO ?aB ?aS ?aL ?_; (case aP => exact rfl); (case aB => exact zb); (case aF => exact (fun _ _ => trivial)); (case aO => exact (mR_ HO_3.out)); (case aS => exact (below_size zb)); (case aL => have := LMc5.out; omega); intro v428 w6 ho hb hg hat; rw [← Ny427.out] at ho; have n0_ := aM (hb); have n1_ := aM (ho); clear HB HO_3; have HB := n0_; have HO429 := n1_; clear n0_ n1_; clear ho hb hg hat))
    go_roundg k1
    case measure => have := HK1.out; omega
    case rel => exact ⟨(y427), (wrap64 (x4_1 + 1)), zr, H', ⟨by have := HK1.out; omega⟩, ⟨mR_ HO429.out⟩, ⟨zb⟩⟩
   rw [if_neg c4] at H
   have c4b0 : decide (x4_1 < (l0.length : Int)) = false := decide_eq_false c4
   clear c4
   have H' := aM H
   clear H
   go_wp2
   go_loopg [5] k1 (fun kq v5 w' => ∃ (x3_2 : List Int) (x5_2 : Int), v5 = .int .i64 x5_2 ∧ Aside0 (spec_l02Parts.l1 kq l0 x3_2 x5_2 = some r) ∧ Aside0 (kq ≤ k1) ∧ Aside0 (Kd.R (Kd.int .i64) 2 w' w.heap.size (fun _ => True) u3 x3_2) ∧ Aside0 (Below w.heap.size w w'))
   case atStart => exact ⟨(x3_1), (0), zr, H', ⟨Nat.le_refl _⟩, ⟨mR_ HO_3.out⟩, ⟨zb⟩⟩
   case round =>
    clear H'
    try clear p2
    try clear c4
    try clear c4b0
    try clear c5
    try clear c6
    try clear p6
    try clear p2
    obtain ⟨x3_2, x5_2, rfl, HA, HK2, HO_3, HB⟩ := hrel
    cases gk with
    | zero => exact absurd HA.out (by simp [spec_l02Parts.l1])
    | succ k2 =>
     have H := HA.out
     clear HA
     simp only [spec_l02Parts.l1] at H
     by_cases c7 : x5_2 < (l0.length : Int)
     rotate_left
     ·rw [if_neg c7] at H
      have c7b0 : decide (x5_2 < (l0.length : Int)) = false := decide_eq_false c7
      clear c7
      obtain rfl := Option.some.inj H
      go_wp2
      go_ret
      exact ⟨_, zw, mR_ HO_3.out, zb⟩
     rw [if_pos c7] at H
     have c7b0 : decide (x5_2 < (l0.length : Int)) = true := decide_eq_true c7
     clear c7
     by_cases c8 : 0 ≤ x5_2
     rotate_left
     ·rw [if_neg c8] at H
      exact absurd H (by simp)
     rw [if_pos c8] at H
     have c8b0 : decide (0 ≤ x5_2) = true := decide_eq_true c8
     clear c8
     by_cases c9 : x5_2 < (x3_2.length : Int)
     rotate_left
     ·rw [if_neg c9] at H
      exact absurd H (by simp)
     rw [if_pos c9] at H
     have c9b0 : decide (x5_2 < (x3_2.length : Int)) = true := decide_eq_true c9
     clear c9
     by_cases c10 : (rd x3_2 x5_2) ≥ 0
     ·rw [if_pos c10] at H
      have c10b0 : decide (0 ≤ (rd x3_2 x5_2)) = true := decide_eq_true c10
      clear c10
      have H' := aM H
      clear H
      obtain ⟨Ao11, co11, eo11⟩ := Kd.R_slice HO_3.out
      subst eo11
      have p430 : 0 ≤ (x5_2 : Int) := of_decide_eq_true za
      have q430 : x5_2 < (x3_2.length : Int) := of_decide_eq_true za
      obtain ⟨ad430, e430, hx430_0⟩ := Kd.at_int (Kd.R_reads' HO_3.out).2.2 x5_2 p430 q430
      cases e430
      replace p430 := eq_true p430
      replace q430 := eq_true q430
      go_wp2
      go_roundg k2
      case measure => have := HK1.out; have := HK2.out; omega
      case rel => exact ⟨(x3_2), (wrap64 (x5_2 + 1)), zr, H', ⟨by have := HK1.out; have := HK2.out; omega⟩, ⟨mR_ HO_3.out⟩, ⟨zb⟩⟩
     rw [if_neg c10] at H
     have c10b0 : decide (0 ≤ (rd x3_2 x5_2)) = false := decide_eq_false c10
     clear c10
     obtain ⟨y431, hy431⟩ : ∃ y_ : List Int, y_ = (x3_2.set (x5_2 : Int).toNat x5_2) := ⟨_, rfl⟩
     replace H : (spec_l02Parts.l2 k2 l0 y431 x5_2 (([x5_2] : List Int))) = some r := zy H hy431
     have Ny431 := aM hy431
     clear hy431
     obtain ⟨y432, hy432⟩ : ∃ y_ : List Int, y_ = (([x5_2] : List Int)) := ⟨_, rfl⟩
     replace H : (spec_l02Parts.l2 k2 l0 y431 x5_2 y432) = some r := zy H hy432
     have Ny432 := aM hy432
     clear hy432
     have H' := aM H
     clear H
     obtain ⟨Ao13, co13, eo13⟩ := Kd.R_slice HO_3.out
     subst eo13
     have p430 : 0 ≤ (x5_2 : Int) := of_decide_eq_true za
     have q430 : x5_2 < (x3_2.length : Int) := of_decide_eq_true za
     obtain ⟨ad430, e430, hx430_0⟩ := Kd.at_int (Kd.R_reads' HO_3.out).2.2 x5_2 p430 q430
     cases e430
     replace p430 := eq_true p430
     replace q430 := eq_true q430
     have p12 : 0 ≤ (x5_2 : Int) := of_decide_eq_true za
     have q12 : (x5_2 : Int) < ((x3_2.length : Int) : Int) := of_decide_eq_true za
     obtain ⟨go12, co12, eo12, gb12, gl12, cl12, HG12⟩ := Kd.R_form HO_3.out (by omega)
     (first | cases eo12 | (injection eo12 with ea_ en_ ec_; (first | subst ea_ | (injection ea_ with ea_; subst ea_)); subst ec_; clear en_))
     have GB12 := aM gb12
     have GG12 := aM HG12
     clear gb12 gl12 HG12
     (first | simp only [add_plain] at hx430_0 | skip)
     obtain ⟨hx12_0, hf12_0⟩ := Kd.R_celln 0 HO_3.out (x5_2 : Int) p12 q12
     replace p12 := eq_true p12
     replace q12 := eq_true q12
     have HP14 := Kd.R_putg HO_3.out (x5_2 : Int) x5_2
     go_wp2_with (first | ((with_reducible refine gate_store (t := 2) (p := 34) rfl ?_); refine store_event (t := 2) (p := 34) (v := ?vo_w15) (w1 := (wr.setCell ⟨go12, (x5_2 : Int).toNat, none⟩ (.int .i64 x5_2))) ?hg ?ho ?hn ?hr ?_; (case ho => rfl); (case hg => rfl); (case hn => rfl); (case hr => first | (go_simp; done) | (go_simp; rfl)); intro w15 hw; have hg : wr.grownBy w15 (some go12) := (by rw [hw]; exact HP14.2); have hp_ : Kd.R (Kd.int .i64) 2 w15 w.heap.size (fun _ => True) (.slice (some ⟨go12, 0, none⟩) x3_2.length co13) y431 := (by rw [hw, Ny431.out]; exact HP14.1); clear HP14; have n0_ := aM (hp_); have n1_ := aM ((by rw [hw]; exact below_set (HB.out) GB12.out : Below w.heap.size w w15)); clear HO_3 HB; have HO_3 := n0_; have HB := n1_; clear n0_ n1_; clear hg hw hp_) | ((with_reducible refine gate_dst (N := 36) rfl ?_); refine Kd.R_lit (Kd.int .i64) _ 2 ?hg (N := 36) ?hd (xs := ([x5_2] : List Int)) (inner := [.int .i64 x5_2]) (ok := fun _ => True) (okp := fun _ => True) ?hr ?hp (fun _ hk => hk) trivial (Below.refl _ _) (Nat.le_refl _) (by simp) ?_; (case hd => rfl); (case hg => rfl); (case hr => first | (go_simp; done) | (go_simp; rfl)); (case hp => exact (Reps.one (show Kd.M (Kd.int .i64) _ _ _ x5_2 [.int .i64 x5_2] from rfl) (Reps.none _ _))); intro v433 w16 ho17 hb hg_ hnew_; clear hg_ hnew_; (first | rw [← Ny432.out] at ho17 | (simp only [Int.reduceToNat] at ho17; rw [← Ny432.out] at ho17)); have n0_ := aM (Kd.R_elder' (mR_ HO_3.out) (Kd.R_base ho17) hb); have n1_ := aM (Kd.R_lower (Kd.R_new' ho17 (Kd.R_lt (mR_ HO_3.out))) (below_size zb)); have n2_ := aM (below_step zb hb); clear HO_3 HB; have HO_3 := n0_; have HO434 := n1_; have HB := n2_; clear n0_ n1_ n2_; clear hb ho17))
     go_loopg [6] k2 (fun kq v6 w' => ∃ (x3_3 : List Int) (x6_3 : List Int), Aside0 (spec_l02Parts.l2 kq l0 x3_3 x5_2 x6_3 = some r) ∧ Aside0 (kq ≤ k2) ∧ Aside0 (Kd.R (Kd.int .i64) 2 w' w.heap.size (fun k_ => some k_ ≠ (v6 : Value).ownBlock) (.slice (some ⟨go12, 0, none⟩) x3_2.length co13) x3_3) ∧ Aside0 (Kd.Q (Kd.int .i64) 2 w' w.heap.size (fun k_ => some k_ ≠ ((.slice (some ⟨go12, 0, none⟩) x3_2.length co13) : Value).ownBlock) v6 x6_3) ∧ Aside0 (Below w.heap.size w w'))
     case atStart => exact ⟨(y431), (y432), H', ⟨Nat.le_refl _⟩, ⟨zd1 HO_3.out⟩, ⟨Kd.Q_of_R (zd1 HO434.out)⟩, ⟨zb⟩⟩
     case round =>
      clear H'
      try clear c1
      try clear p1
      try clear q1
      try clear hx1
      try clear hf1
      try clear p2
      try clear c4
      try clear c4b0
      try clear p4
      try clear q4
      try clear hx4
      try clear c5
      try clear c6
      try clear p6
      try clear c7
      try clear c7b0
      try clear c8
      try clear c8b0
      try clear c9
      try clear c9b0
      try clear c10
      try clear c10b0
      try clear p12
      try clear q12
      try clear hx12
      try clear hf12
      try clear hx12_0
      try clear hx430_0
      try clear p12
      try clear p2
      try clear p430
      try clear p6
      try clear q12
      try clear q430
      obtain ⟨x3_3, x6_3, HA, HK3, HO_3, HO_6, HB⟩ := hrel
      have hl3_3 := (Kd.R_reads' HO_3.out).1
      rw [hl3_3] at HO_3
      (try simp only [hl3_3])
      (try simp only [hl3_3] at HO_6)
      cases gk with
      | zero => exact absurd HA.out (by simp [spec_l02Parts.l2])
      | succ k3 =>
       have H := HA.out
       clear HA
       simp only [spec_l02Parts.l2] at H
       by_cases c18 : (x6_3.length : Int) > 0
       rotate_left
       ·rw [if_neg c18] at H
        have c18b0 : decide (0 < (x6_3.length : Int)) = false := decide_eq_false c18
        have c18b1 : decide (0 < x6_3.length) = false := decide_eq_false (by omega)
        clear c18
        have H' := aM H
        clear H
        obtain ⟨Ao46, co46, eo46, _⟩ := Kd.Q_slice HO_6.out
        subst eo46
        go_wp2
        (try simp only [← hl3_3])
        go_roundg k3
        case measure => have := HK1.out; have := HK2.out; have := HK3.out; omega
        case rel => exact ⟨(x3_3), (wrap64 (x5_2 + 1)), zr, H', ⟨by have := HK1.out; have := HK2.out; have := HK3.out; omega⟩, ⟨by (try simp only [hl3_3]); (with_reducible repeat (first | apply Kd.R_alloc | apply Kd.R_drewN | apply Kd.R_drew)); exact Kd.R_mono HO_3.out (fun _ hk => trivial)⟩, ⟨zb⟩⟩
       rw [if_pos c18] at H
       have c18b0 : decide (0 < (x6_3.length : Int)) = true := decide_eq_true c18
       have c18b1 : decide (0 < x6_3.length) = true := decide_eq_true (by omega)
       clear c18
       by_cases c19 : 0 < (x6_3.length : Int)
       rotate_left
       ·rw [if_neg c19] at H
        exact absurd H (by simp)
       rw [if_pos c19] at H
       have c19b0 : decide (0 < (x6_3.length : Int)) = true := decide_eq_true c19
       have c19b1 : decide (0 < x6_3.length) = true := decide_eq_true (by omega)
       clear c19
       by_cases c20 : 0 ≤ (rd x6_3 0)
       rotate_left
       ·rw [if_neg c20] at H
        exact absurd H (by simp)
       rw [if_pos c20] at H
       have c20b0 : decide (0 ≤ (rd x6_3 0)) = true := decide_eq_true c20
       clear c20
       by_cases c21 : (rd x6_3 0) < (l0.length : Int)
       rotate_left
       ·rw [if_neg c21] at H
        exact absurd H (by simp)
       rw [if_pos c21] at H
       have c21b0 : decide ((rd x6_3 0) < (l0.length : Int)) = true := decide_eq_true c21
       clear c21
       replace H := Option.bind_eq_some_iff.mp H
       obtain ⟨t437, A220, H⟩ := H
       replace H : (if 1 ≤ (x6_3.length : Int) then (spec_l02Parts.l3 k3 l0 x3_3 x5_2 (x6_3.drop (1 : Int).toNat) t437 0) else (none)) = some r := H
       have A22 := aM A220
       clear A220
       by_cases c23 : 1 ≤ (x6_3.length : Int)
       rotate_left
       ·rw [if_neg c23] at H
        exact absurd H (by simp)
       rw [if_pos c23] at H
       have c23b0 := eq_true c23
       have c23b1 : decide (1 ≤ (x6_3.length : Int)) = true := decide_eq_true c23
       clear c23
       obtain ⟨y440, hy440⟩ : ∃ y_ : List Int, y_ = (x6_3.drop (1 : Int).toNat) := ⟨_, rfl⟩
       replace H : (spec_l02Parts.l3 k3 l0 x3_3 x5_2 y440 t437 0) = some r := zy H hy440
       have Ny440 := aM hy440
       clear hy440
       have H' := aM H
       clear H
       obtain ⟨Ao24, co24, eo24, _⟩ := Kd.Q_slice HO_6.out
       subst eo24
       have p435 : 0 ≤ (0 : Int) := (by omega)
       have q435 : 0 < (x6_3.length : Int) := of_decide_eq_true za
       obtain ⟨ad435, e435, hx435_0⟩ := Kd.at_int (Kd.Q_reads' HO_6.out).2.2 0 p435 q435
       cases e435
       have qi435 : (0 < x6_3.length) = True := eq_true (by omega)
       (try rw [show ((0 : Int)).toNat = 0 from rfl] at hx435_0)
       (try rw [Addr.add_zero'] at hx435_0)
       replace p435 := eq_true p435
       replace q435 := eq_true q435
       have p436 : 0 ≤ ((rd x6_3 0) : Int) := of_decide_eq_true za
       have q436 : (rd x6_3 0) < (l0.length : Int) := of_decide_eq_true za
       obtain ⟨ad436, e436, hx436_0, hx436_1⟩ := at_T44 HR0.out (rd x6_3 0) p436 q436
       cases e436
       replace hx436_0 := zk HB.out hx436_0
       replace hx436_1 := zk HB.out hx436_1
       replace p436 := eq_true p436
       replace q436 := eq_true q436
       go_wp2_with (first | ((with_reducible refine gate_callee (f := 60) rfl ?_); refine goesL_ (some 46) rfl rfl Try.func60 (by kernel_rfl) rfl #[.agg #[.int .i64 ((rd_T44 l0 (rd x6_3 0)).f0), .int .i64 ((rd_T44 l0 (rd x6_3 0)).f1)]] rfl zm ?_; (with_reducible refine (spec_l02Around.calls ((rd_T44 l0 (rd x6_3 0)).f0) ((rd_T44 l0 (rd x6_3 0)).f1) t437 _ A22.out).mono ?_); rintro e w25 ⟨v438, rfl, ho0, hb⟩; refine ⟨_, rfl, ?_⟩; have n0_ := aM (Kd.R_below (mR_ HO_3.out) hb); have n1_ := aM (Kd.Q_below (by (with_reducible repeat (first | apply Kd.Q_alloc | apply Kd.Q_drewN | apply Kd.Q_drew)); exact HO_6.out) hb); have n2_ := aM (Kd.R_lower ho0 (below_size zb)); have n3_ := aM (below_step zb hb); clear HO_3 HO_6 HB; have HO_3 := n0_; have HO_6 := n1_; have HO439 := n2_; have HB := n3_; clear n0_ n1_ n2_ n3_; (try clear hb); (try clear hb2); (try clear hk); (try clear hi); (try clear ho0); have q26 : (1 : Int) ≤ ((x6_3.length : Int) : Int) := of_decide_eq_true za; obtain ⟨i026, hi026, _, hsz26, _⟩ := info_parts info2; have hcut26 := cut_from (P := Try.prog) 33 2 .i64 Try.underlying33 hi026 1 hsz26 (some ad435) x6_3.length co24 1 (by omega) q26; have hr26 := Kd.Q_drop (k := (1 : Int).toNat) HO_6.out (by omega); obtain ⟨A26, hA26⟩ : ∃ A1, A1 = (if co24 = (1 : Int).toNat then (some ad435) else ((some ad435) : Option Addr).map (·.add ((1 : Int).toNat * 1))) := ⟨_, rfl⟩; obtain ⟨c26, hc26⟩ : ∃ c1, c1 = co24 - (1 : Int).toNat := ⟨_, rfl⟩; have hy26 : y440.length = x6_3.length - (1 : Int).toNat := (by rw [Ny440.out, List.length_drop]); rw [← Ny440.out] at hr26; rw [← hy26, ← hA26, ← hc26] at hcut26; replace hr26 : Kd.Q (Kd.int .i64) 2 w25 w.heap.size (fun k_ => some k_ ≠ (.slice (some ⟨go12, 0, none⟩) x3_3.length co13 : Value).ownBlock) (.slice A26 y440.length c26) y440 := (by rw [hA26, hc26, hy26]; exact hr26); have HE26 : Aside0 ((Value.slice A26 y440.length c26).ownBlock = (.slice (some ad435) x6_3.length co24 : Value).ownBlock) := ⟨by rw [hA26]; split <;> (cases ((some ad435) : Option Addr) <;> rfl)⟩; clear hy26 hi026 hsz26 HO_6 hA26 hc26; have HO442 := aM hr26; clear hr26; replace q26 := eq_true q26; have n_ := aM (Kd.R_mono (ok' := fun k_ => some k_ ≠ (.slice A26 y440.length c26 : Value).ownBlock) HO_3.out (fun k_ hk => (by rw [HE26.out]; exact hk))); clear HO_3; have HO_3 := n_; clear n_))
       go_loopg [6, 8] k3 (fun kq v6 v8 w' => ∃ (x3_4 : List Int) (x6_4 : List Int) (x8_4 : Int), v8 = .int .i64 x8_4 ∧ Aside0 (spec_l02Parts.l3 kq l0 x3_4 x5_2 x6_4 t437 x8_4 = some r) ∧ Aside0 (kq ≤ k3) ∧ Aside0 (Kd.R (Kd.int .i64) 2 w' w.heap.size (fun k_ => some k_ ≠ (v6 : Value).ownBlock) (.slice (some ⟨go12, 0, none⟩) x3_3.length co13) x3_4) ∧ Aside0 (Kd.Q (Kd.int .i64) 2 w' w.heap.size (fun k_ => some k_ ≠ ((.slice (some ⟨go12, 0, none⟩) x3_3.length co13) : Value).ownBlock) v6 x6_4) ∧ Aside0 (Kd.R k44 44 w' w.heap.size (fun _ => True) v438 t437) ∧ Aside0 (Below w.heap.size w w'))
       case atStart => exact ⟨(x3_3), (y440), (0), zr, H', ⟨Nat.le_refl _⟩, ⟨by (try simp only [hl3_3]); (with_reducible repeat (first | apply Kd.R_alloc | apply Kd.R_drewN | apply Kd.R_drew)); exact HO_3.out⟩, ⟨by (try simp only [hl3_3]); (with_reducible repeat (first | apply Kd.Q_alloc | apply Kd.Q_drewN | apply Kd.Q_drew)); exact HO442.out⟩, ⟨by (try simp only [hl3_3]); (with_reducible repeat (first | apply Kd.R_alloc | apply Kd.R_drewN | apply Kd.R_drew)); exact HO439.out⟩, ⟨zb⟩⟩
       case round =>
        clear H'
        try clear c1
        try clear p1
        try clear q1
        try clear hx1
        try clear hf1
        try clear c2
        try clear p2
        try clear q2
        try clear c4
        try clear c4b0
        try clear p4
        try clear q4
        try clear hx4
        try clear qi4
        try clear c5
        try clear c6
        try clear p6
        try clear c7
        try clear c7b0
        try clear c8
        try clear c8b0
        try clear c9
        try clear c9b0
        try clear c10
        try clear c10b0
        try clear p12
        try clear q12
        try clear hx12
        try clear hf12
        try clear c18
        try clear c18b0
        try clear c18b1
        try clear c19
        try clear c19b0
        try clear c19b1
        try clear c20
        try clear c20b0
        try clear c21
        try clear c21b0
        try clear c23
        try clear c23b0
        try clear c23b1
        try clear c26
        try clear q26
        try clear hx12_0
        try clear hx430_0
        try clear hx435_0
        try clear hx436_0
        try clear hx436_1
        try clear p1
        try clear p12
        try clear p2
        try clear p4
        try clear p430
        try clear p435
        try clear p436
        try clear p6
        try clear q1
        try clear q12
        try clear q26
        try clear q4
        try clear q430
        try clear q435
        try clear q436
        obtain ⟨x3_4, x6_4, x8_4, rfl, HA, HK4, HO_3, HO_6, HO_7, HB⟩ := hrel
        have hl3_4 := (Kd.R_reads' HO_3.out).1
        rw [hl3_4] at HO_3
        (try simp only [hl3_4])
        (try simp only [hl3_4] at HO_6)
        (try simp only [hl3_4] at HO_7)
        cases gk with
        | zero => exact absurd HA.out (by simp [spec_l02Parts.l3])
        | succ k4 =>
         have H := HA.out
         clear HA
         simp only [spec_l02Parts.l3] at H
         by_cases c27 : x8_4 < 4
         rotate_left
         ·rw [if_neg c27] at H
          have c27b0 : decide (x8_4 < 4) = false := decide_eq_false c27
          clear c27
          have H' := aM H
          clear H
          go_wp2
          (try simp only [← hl3_3, ← hl3_4])
          go_roundg k4
          case measure => have := HK1.out; have := HK2.out; have := HK3.out; have := HK4.out; omega
          case rel => exact ⟨(x3_4), (x6_4), H', ⟨by have := HK1.out; have := HK2.out; have := HK3.out; have := HK4.out; omega⟩, ⟨by (try simp only [hl3_3]); (try simp only [hl3_4]); (with_reducible repeat (first | apply Kd.R_alloc | apply Kd.R_drewN | apply Kd.R_drew)); exact HO_3.out⟩, ⟨by (try simp only [hl3_3]); (try simp only [hl3_4]); (with_reducible repeat (first | apply Kd.Q_alloc | apply Kd.Q_drewN | apply Kd.Q_drew)); exact HO_6.out⟩, ⟨zb⟩⟩
         rw [if_pos c27] at H
         have c27b0 : decide (x8_4 < 4) = true := decide_eq_true c27
         clear c27
         by_cases c28 : 0 ≤ x8_4
         rotate_left
         ·rw [if_neg c28] at H
          exact absurd H (by simp)
         rw [if_pos c28] at H
         have c28b0 : decide (0 ≤ x8_4) = true := decide_eq_true c28
         clear c28
         by_cases c29 : x8_4 < (t437.length : Int)
         rotate_left
         ·rw [if_neg c29] at H
          exact absurd H (by simp)
         rw [if_pos c29] at H
         have c29b0 : decide (x8_4 < (t437.length : Int)) = true := decide_eq_true c29
         clear c29
         replace H := Option.bind_eq_some_iff.mp H
         obtain ⟨t444, A300, H⟩ := H
         replace H : (if t444 ≥ 0 then (if 0 ≤ t444 then (if t444 < (x3_4.length : Int) then (if (rd x3_4 t444) < 0 then (if x6_4.length < 17592186044416 then (spec_l02Parts.l3 k4 l0 (x3_4.set (t444 : Int).toNat x5_2) x5_2 (x6_4 ++ [t444]) t437 (wrap64 (x8_4 + 1))) else (none)) else (spec_l02Parts.l3 k4 l0 x3_4 x5_2 x6_4 t437 (wrap64 (x8_4 + 1)))) else (none)) else (none)) else (spec_l02Parts.l3 k4 l0 x3_4 x5_2 x6_4 t437 (wrap64 (x8_4 + 1)))) = some r := H
         have A30 := aM A300
         clear A300
         by_cases c31 : t444 ≥ 0
         rotate_left
         ·rw [if_neg c31] at H
          have c31b0 : decide (0 ≤ t444) = false := decide_eq_false c31
          clear c31
          have H' := aM H
          clear H
          obtain ⟨Ao44, co44, eo44⟩ := Kd.R_slice HO_7.out
          subst eo44
          have p443 : 0 ≤ (x8_4 : Int) := of_decide_eq_true za
          have q443 : x8_4 < (t437.length : Int) := of_decide_eq_true za
          obtain ⟨ad443, e443, hx443_0, hx443_1⟩ := at_T44 (Kd.R_reads' HO_7.out).2.2 x8_4 p443 q443
          cases e443
          replace p443 := eq_true p443
          replace q443 := eq_true q443
          go_wp2_with (first | ((with_reducible refine gate_callee (f := 33) rfl ?_); refine goesL_ (some 58) rfl rfl Try.func33 (by kernel_rfl) rfl #[.slice (some ad436) l0.length c0, .agg #[.int .i64 ((rd_T44 t437 x8_4).f0), .int .i64 ((rd_T44 t437 x8_4).f1)]] rfl zm ?_; (with_reducible refine (spec_l02Index.calls k4 _ _ l0 ((rd_T44 t437 x8_4).f0) ((rd_T44 t437 x8_4).f1) t444 _ ?side1 ?side2 A30.out).mono ?_); (case side1 => repeat (first | exact (Kd.C_below HR0.out HB.out) | (with_reducible refine Kd.C_alloc ?_ _) | (with_reducible refine Kd.C_drewN ?_ _) | (with_reducible refine Kd.C_drew ?_))); (case side2 => exact HC0.out); rintro e w45 ⟨rfl, hb⟩; refine ⟨_, rfl, ?_⟩; have n0_ := aM (Kd.R_below (mR_ HO_3.out) hb); have n1_ := aM (Kd.Q_below (by (with_reducible repeat (first | apply Kd.Q_alloc | apply Kd.Q_drewN | apply Kd.Q_drew)); exact HO_6.out) hb); have n2_ := aM (Kd.R_below (mR_ HO_7.out) hb); have n3_ := aM (below_step zb hb); clear HO_3 HO_6 HO_7 HB; have HO_3 := n0_; have HO_6 := n1_; have HO_7 := n2_; have HB := n3_; clear n0_ n1_ n2_ n3_; (try clear hb); (try clear hb2); (try clear hk); (try clear hi)))
          (try simp only [← hl3_4])
          go_roundg k4
          case measure => have := HK1.out; have := HK2.out; have := HK3.out; have := HK4.out; omega
          case rel => exact ⟨(x3_4), (x6_4), (wrap64 (x8_4 + 1)), zr, H', ⟨by have := HK1.out; have := HK2.out; have := HK3.out; have := HK4.out; omega⟩, ⟨by (try simp only [hl3_3]); (try simp only [hl3_4]); (with_reducible repeat (first | apply Kd.R_alloc | apply Kd.R_drewN | apply Kd.R_drew)); exact HO_3.out⟩, ⟨by (try simp only [hl3_3]); (try simp only [hl3_4]); (with_reducible repeat (first | apply Kd.Q_alloc | apply Kd.Q_drewN | apply Kd.Q_drew)); exact HO_6.out⟩, ⟨by (try simp only [hl3_3]); (try simp only [hl3_4]); (with_reducible repeat (first | apply Kd.R_alloc | apply Kd.R_drewN | apply Kd.R_drew)); exact HO_7.out⟩, ⟨zb⟩⟩
         rw [if_pos c31] at H
         have c31b0 : decide (0 ≤ t444) = true := decide_eq_true c31
         clear c31
         by_cases c32 : 0 ≤ t444
         rotate_left
         ·rw [if_neg c32] at H
          exact absurd H (by simp)
         rw [if_pos c32] at H
         have c32b0 : decide (0 ≤ t444) = true := decide_eq_true c32
         clear c32
         by_cases c33 : t444 < (x3_4.length : Int)
         rotate_left
         ·rw [if_neg c33] at H
          exact absurd H (by simp)
         rw [if_pos c33] at H
         have c33b0 : decide (t444 < (x3_4.length : Int)) = true := decide_eq_true c33
         clear c33
         by_cases c34 : (rd x3_4 t444) < 0
         rotate_left
         ·rw [if_neg c34] at H
          have c34b0 : decide ((rd x3_4 t444) < 0) = false := decide_eq_false c34
          clear c34
          have H' := aM H
          clear H
          obtain ⟨Ao42, co42, eo42⟩ := Kd.R_slice HO_7.out
          subst eo42
          have p443 : 0 ≤ (x8_4 : Int) := of_decide_eq_true za
          have q443 : x8_4 < (t437.length : Int) := of_decide_eq_true za
          obtain ⟨ad443, e443, hx443_0, hx443_1⟩ := at_T44 (Kd.R_reads' HO_7.out).2.2 x8_4 p443 q443
          cases e443
          replace p443 := eq_true p443
          replace q443 := eq_true q443
          go_wp2_with (first | ((with_reducible refine gate_callee (f := 33) rfl ?_); refine goesL_ (some 58) rfl rfl Try.func33 (by kernel_rfl) rfl #[.slice (some ad436) l0.length c0, .agg #[.int .i64 ((rd_T44 t437 x8_4).f0), .int .i64 ((rd_T44 t437 x8_4).f1)]] rfl zm ?_; (with_reducible refine (spec_l02Index.calls k4 _ _ l0 ((rd_T44 t437 x8_4).f0) ((rd_T44 t437 x8_4).f1) t444 _ ?side1 ?side2 A30.out).mono ?_); (case side1 => repeat (first | exact (Kd.C_below HR0.out HB.out) | (with_reducible refine Kd.C_alloc ?_ _) | (with_reducible refine Kd.C_drewN ?_ _) | (with_reducible refine Kd.C_drew ?_))); (case side2 => exact HC0.out); rintro e w43 ⟨rfl, hb⟩; refine ⟨_, rfl, ?_⟩; have n0_ := aM (Kd.R_below (mR_ HO_3.out) hb); have n1_ := aM (Kd.Q_below (by (with_reducible repeat (first | apply Kd.Q_alloc | apply Kd.Q_drewN | apply Kd.Q_drew)); exact HO_6.out) hb); have n2_ := aM (Kd.R_below (mR_ HO_7.out) hb); have n3_ := aM (below_step zb hb); clear HO_3 HO_6 HO_7 HB; have HO_3 := n0_; have HO_6 := n1_; have HO_7 := n2_; have HB := n3_; clear n0_ n1_ n2_ n3_; (try clear hb); (try clear hb2); (try clear hk); (try clear hi); have p445 : 0 ≤ (t444 : Int) := of_decide_eq_true za; have q445 : t444 < (x3_4.length : Int) := of_decide_eq_true za; obtain ⟨ad445, e445, hx445_0⟩ := Kd.at_int (Kd.R_reads' HO_3.out).2.2 t444 p445 q445; obtain rfl : (⟨go12, 0, none⟩ : Addr) = ad445 := (by injection e445); (first | simp only [add_plain] at hx445_0 | simp only [add_at] at hx445_0 | simp only [Addr.add, Nat.zero_add] at hx445_0 | skip); replace p445 := eq_true p445; replace q445 := eq_true q445))
          (try simp only [← hl3_4])
          go_roundg k4
          case measure => have := HK1.out; have := HK2.out; have := HK3.out; have := HK4.out; omega
          case rel => exact ⟨(x3_4), (x6_4), (wrap64 (x8_4 + 1)), zr, H', ⟨by have := HK1.out; have := HK2.out; have := HK3.out; have := HK4.out; omega⟩, ⟨by (try simp only [hl3_3]); (try simp only [hl3_4]); (with_reducible repeat (first | apply Kd.R_alloc | apply Kd.R_drewN | apply Kd.R_drew)); exact HO_3.out⟩, ⟨by (try simp only [hl3_3]); (try simp only [hl3_4]); (with_reducible repeat (first | apply Kd.Q_alloc | apply Kd.Q_drewN | apply Kd.Q_drew)); exact HO_6.out⟩, ⟨by (try simp only [hl3_3]); (try simp only [hl3_4]); (with_reducible repeat (first | apply Kd.R_alloc | apply Kd.R_drewN | apply Kd.R_drew)); exact HO_7.out⟩, ⟨zb⟩⟩
         rw [if_pos c34] at H
         have c34b0 : decide ((rd x3_4 t444) < 0) = true := decide_eq_true c34
         clear c34
         obtain ⟨y446, hy446⟩ : ∃ y_ : List Int, y_ = (x3_4.set (t444 : Int).toNat x5_2) := ⟨_, rfl⟩
         replace H : (if x6_4.length < 17592186044416 then (spec_l02Parts.l3 k4 l0 y446 x5_2 (x6_4 ++ [t444]) t437 (wrap64 (x8_4 + 1))) else (none)) = some r := zy H hy446
         have Ny446 := aM hy446
         clear hy446
         by_cases c36 : x6_4.length < 17592186044416
         rotate_left
         ·rw [if_neg c36] at H
          exact absurd H (by simp)
         rw [if_pos c36] at H
         have LMc36 := aM c36
         clear c36
         obtain ⟨y447, hy447⟩ : ∃ y_ : List Int, y_ = (x6_4 ++ [t444]) := ⟨_, rfl⟩
         replace H : (spec_l02Parts.l3 k4 l0 y446 x5_2 y447 t437 (wrap64 (x8_4 + 1))) = some r := zy H hy447
         have Ny447 := aM hy447
         clear hy447
         have H' := aM H
         clear H
         obtain ⟨Ao37, co37, eo37⟩ := Kd.R_slice HO_7.out
         subst eo37
         have p443 : 0 ≤ (x8_4 : Int) := of_decide_eq_true za
         have q443 : x8_4 < (t437.length : Int) := of_decide_eq_true za
         obtain ⟨ad443, e443, hx443_0, hx443_1⟩ := at_T44 (Kd.R_reads' HO_7.out).2.2 x8_4 p443 q443
         cases e443
         replace p443 := eq_true p443
         replace q443 := eq_true q443
         go_wp2_with (first | ((with_reducible refine gate_callee (f := 33) rfl ?_); refine goesL_ (some 58) rfl rfl Try.func33 (by kernel_rfl) rfl #[.slice (some ad436) l0.length c0, .agg #[.int .i64 ((rd_T44 t437 x8_4).f0), .int .i64 ((rd_T44 t437 x8_4).f1)]] rfl zm ?_; (with_reducible refine (spec_l02Index.calls k4 _ _ l0 ((rd_T44 t437 x8_4).f0) ((rd_T44 t437 x8_4).f1) t444 _ ?side1 ?side2 A30.out).mono ?_); (case side1 => repeat (first | exact (Kd.C_below HR0.out HB.out) | (with_reducible refine Kd.C_alloc ?_ _) | (with_reducible refine Kd.C_drewN ?_ _) | (with_reducible refine Kd.C_drew ?_))); (case side2 => exact HC0.out); rintro e w38 ⟨rfl, hb⟩; refine ⟨_, rfl, ?_⟩; have n0_ := aM (Kd.R_below (mR_ HO_3.out) hb); have n1_ := aM (Kd.Q_below (by (with_reducible repeat (first | apply Kd.Q_alloc | apply Kd.Q_drewN | apply Kd.Q_drew)); exact HO_6.out) hb); have n2_ := aM (Kd.R_below (mR_ HO_7.out) hb); have n3_ := aM (below_step zb hb); clear HO_3 HO_6 HO_7 HB; have HO_3 := n0_; have HO_6 := n1_; have HO_7 := n2_; have HB := n3_; clear n0_ n1_ n2_ n3_; (try clear hb); (try clear hb2); (try clear hk); (try clear hi); have p445 : 0 ≤ (t444 : Int) := of_decide_eq_true za; have q445 : t444 < (x3_4.length : Int) := of_decide_eq_true za; obtain ⟨ad445, e445, hx445_0⟩ := Kd.at_int (Kd.R_reads' HO_3.out).2.2 t444 p445 q445; obtain rfl : (⟨go12, 0, none⟩ : Addr) = ad445 := (by injection e445); (first | simp only [add_plain] at hx445_0 | simp only [add_at] at hx445_0 | simp only [Addr.add, Nat.zero_add] at hx445_0 | skip); replace p445 := eq_true p445; replace q445 := eq_true q445; have p35 : 0 ≤ (t444 : Int) := of_decide_eq_true za; have q35 : (t444 : Int) < ((x3_4.length : Int) : Int) := of_decide_eq_true za; obtain ⟨hx35_0, hf35_0⟩ := Kd.R_celln 0 HO_3.out (t444 : Int) p35 q35; replace p35 := eq_true p35; replace q35 := eq_true q35; obtain ⟨hy39_, hz39_⟩ := Kd.R_celln 0 HO_3.out (t444 : Int) (of_decide_eq_true za) (of_decide_eq_true za); have HP39 := Kd.R_putg HO_3.out (t444 : Int) x5_2) | ((with_reducible refine gate_store (t := 2) (p := 71) rfl ?_); refine store_event (t := 2) (p := 71) (v := ?vo_w40) (w1 := (w38.setCell ⟨go12, (t444 : Int).toNat, none⟩ (.int .i64 x5_2))) ?hg ?ho ?hn ?hr ?_; (case ho => rfl); (case hg => rfl); (case hn => rfl); (case hr => first | (go_simp; done) | (go_simp; rfl)); intro w40 hw; have hg : w38.grownBy w40 (some go12) := (by rw [hw]; exact HP39.2); have hp_ : Kd.R (Kd.int .i64) 2 w40 w.heap.size (fun k_ => some k_ ≠ (u6 : Value).ownBlock) (.slice (some ⟨go12, 0, none⟩) x3_4.length co13) y446 := (by rw [hw, Ny446.out]; exact HP39.1); clear HP39; have n0_ := aM (hp_); have n1_ := aM (Kd.Q_after (v := (.slice (some ⟨go12, 0, none⟩) x3_4.length co13)) (v1 := (.slice (some ⟨go12, 0, none⟩) x3_4.length co13)) (ok := (fun _ => True)) (by (with_reducible repeat (first | apply Kd.Q_alloc | apply Kd.Q_drewN | apply Kd.Q_drew)); exact Kd.Q_mono HO_6.out (fun _ hk => ⟨trivial, hk⟩)) hg (.inl rfl)); have n2_ := aM (Kd.R_over' (v := (.slice (some ⟨go12, 0, none⟩) x3_4.length co13)) (mR_ HO_7.out) (Kd.R_typed HO_3.out) (by decide) hg); have n3_ := aM ((by rw [hw]; exact below_set (HB.out) GB12.out : Below w.heap.size w w40)); clear HO_3 HO_6 HO_7 HB; have HO_3 := n0_; have HO_6 := n1_; have HO_7 := n2_; have HB := n3_; clear n0_ n1_ n2_ n3_; clear hg hw hp_) | ((with_reducible refine gate_builtin (b := .append) (xs := #[.tmp 72, .tmp 74]) rfl ?_); at_builtin; refine Kd.Q_append (Kd.int .i64) (w0 := w) w.heap.size rfl (.tmp 72) (.tmp 74) 33 2 (.int .i64 0) 8 rfl Try.underlying33 info2 rfl (by decide) (by omega) u6 x6_4 t444 [.int .i64 t444] (fun k_ => some k_ ≠ (.slice (some ⟨go12, 0, none⟩) x3_4.length co13 : Value).ownBlock) (fun _ => False) rfl rfl ?aP (fun _ hk => hk.elim) ?aF ?aO ?aB ?aS ?aL ?_; (case aP => exact rfl); (case aB => exact zb); (case aF => exact (fun k_ hk => Kd.fresh' (Kd.R_lt (mR_ HO_3.out)) k_ hk)); (case aO => exact (by (with_reducible repeat (first | apply Kd.Q_alloc | apply Kd.Q_drewN | apply Kd.Q_drew)); exact Kd.Q_mono HO_6.out (fun _ hk => hk.2))); (case aS => exact (below_size zb)); (case aL => have := LMc36.out; omega); intro v448 w41 ho hb hg hat; rw [← Ny447.out] at ho; have n0_ := aM (Kd.R_after (ok := (fun _ => True)) (zd2 HO_3.out) hg hat); have n1_ := aM (Kd.R_over' (mR_ HO_7.out) (Kd.Q_typed (by (with_reducible repeat (first | apply Kd.Q_alloc | apply Kd.Q_drewN | apply Kd.Q_drew)); exact HO_6.out)) (by decide) hg); have n2_ := aM (hb); have n3_ := aM (ho); clear HO_3 HO_7 HB HO_6; have HO_3 := n0_; have HO_7 := n1_; have HB := n2_; have HO449 := n3_; clear n0_ n1_ n2_ n3_; clear ho hb hg hat))
         (try simp only [← hl3_4])
         go_roundg k4
         case measure => have := HK1.out; have := HK2.out; have := HK3.out; have := HK4.out; omega
         case rel => exact ⟨(y446), (y447), (wrap64 (x8_4 + 1)), zr, H', ⟨by have := HK1.out; have := HK2.out; have := HK3.out; have := HK4.out; omega⟩, ⟨by (try simp only [hl3_3]); (try simp only [hl3_4]); (with_reducible repeat (first | apply Kd.R_alloc | apply Kd.R_drewN | apply Kd.R_drew)); exact Kd.R_mono HO_3.out (fun _ hk => hk.2)⟩, ⟨by (try simp only [hl3_3]); (try simp only [hl3_4]); (with_reducible repeat (first | apply Kd.Q_alloc | apply Kd.Q_drewN | apply Kd.Q_drew)); exact HO449.out⟩, ⟨by (try simp only [hl3_3]); (try simp only [hl3_4]); (with_reducible repeat (first | apply Kd.R_alloc | apply Kd.R_drewN | apply Kd.R_drew)); exact HO_7.out⟩, ⟨zb⟩⟩
def impl_IsShape.l0 : Nat → List (S44) → List (S44) → Int → Int → Option (Bool)
 | 0, _, _, _, _ => none
 | k + 1, x0, x5, x6, x7 => if x7 < x6 then (if 0 ≤ x7 then (if x7 < (x5.length : Int) then ((impl_isCoordinate.f ((rd_T44 x5 x7).f0)).bind fun t163 => (if t163 = true then ((impl_isCoordinate.f ((rd_T44 x5 x7).f1)).bind fun t164 => (if t164 = true then (if x7 > 0 then (if 0 ≤ (wrap64 (x7 - 1)) then (if (wrap64 (x7 - 1)) < (x0.length : Int) then ((impl_compareCells.f ((rd_T44 x0 (wrap64 (x7 - 1))).f0) ((rd_T44 x0 (wrap64 (x7 - 1))).f1) ((rd_T44 x5 x7).f0) ((rd_T44 x5 x7).f1)).bind fun t166 => (if t166 ≥ 0 then (some false) else (impl_IsShape.l0 k x0 x5 x6 (wrap64 (x7 + 1))))) else (none)) else (none)) else (impl_IsShape.l0 k x0 x5 x6 (wrap64 (x7 + 1)))) else (some false))) else (some false))) else (none)) else (none)) else (if (x0.length : Int) ≥ 1 then (some (decide ((x0.length : Int) ≤ 40))) else (some false))
def impl_IsShape.f (k : Nat) (l0 : List (S44)) : Option (Bool) := impl_IsShape.l0 k l0 l0 (l0.length : Int) 0
def impl_IsShape.T4 : Bool × List (List Nat × List Nat) := (true, [([], []), ([0], [0]), ([1], [1]), ([2], [2]), ([3, 2], [3]), ([4], [4]), ([5, 4], [4, 5]), ([6, 4, 4], [4, 6]), ([7, 4], [4, 7]), ([4, 8], [4, 8]), ([9, 7], [9]), ([10], [10]), ([11, 10], [10, 11]), ([12, 10, 10], [10, 12]), ([13], [13]), ([13], [13]), ([15, 13], [13, 15]), ([14, 16, 13], [13, 14, 16]), ([17, 13], [13, 17]), ([13], [13]), ([18, 19, 13, 13], [13, 18, 19]), ([20, 13], [13, 20]), ([13, 21, 10], [10, 13, 21]), ([10, 22], [10, 22])])
def impl_IsShape.B4 : List Nat := [0, 1, 3, 7, 15, 31, 63, 127, 255, 511, 1023, 2047, 4095, 8191, 16383, 16383, 49151, 131071, 262143, 16383, 1048575, 2097151, 4194303, 8388607]
theorem impl_IsShape.tab4 : rtab .any (opsOf Try.f35 4) = impl_IsShape.T4 := by kernel_rfl
theorem impl_IsShape.bits4 : waitsOk impl_IsShape.T4.2 impl_IsShape.B4 = true := by kernel_rfl
theorem impl_IsShape.calls (k : Nat) (A0 : Option Addr) (c0 : Nat) (l0 : List (S44)) (r : Bool) (w : World) (hr0 : Kd.C k44 w A0 l0.length l0) (hc0 : l0.length ≤ c0) (h : impl_IsShape.f k l0 = some r) :
  Calls Try.prog 35 #[.slice A0 l0.length c0] w fun e w' => e = .returned (.bool r) ∧ Below w.heap.size w w' := by
 have hu44 := Try.underlying44
 have HR0 := aM hr0
 have HC0 := aM hc0
 clear hr0 hc0
 have HB := aM (Below.refl w.heap.size w)
 have H : (impl_IsShape.l0 k l0 l0 (l0.length : Int) 0) = some r := h
 clear h
 have H' := aM H
 clear H
 go_enter Try.func35, Try.ntmps35
 go_wp2
 go_loopg [7] k (fun kq v7 w' => ∃ (x7_1 : Int), v7 = .int .i64 x7_1 ∧ Aside0 (impl_IsShape.l0 kq l0 l0 (l0.length : Int) x7_1 = some r) ∧ Aside0 (kq ≤ k) ∧ Aside0 (Below w.heap.size w w'))
 case atStart => exact ⟨(0), zr, H', ⟨Nat.le_refl _⟩, ⟨zb⟩⟩
 case round =>
  clear H'
  obtain ⟨x7_1, rfl, HA, HK1, HB⟩ := hrel
  cases gk with
  | zero => exact absurd HA.out (by simp [impl_IsShape.l0])
  | succ k1 =>
   have H := HA.out
   clear HA
   simp only [impl_IsShape.l0] at H
   by_cases c2 : x7_1 < (l0.length : Int)
   rotate_left
   ·rw [if_neg c2] at H
    have c2b0 : decide (x7_1 < (l0.length : Int)) = false := decide_eq_false c2
    clear c2
    by_cases c37 : (l0.length : Int) ≥ 1
    ·rw [if_pos c37] at H
     have c37b0 : decide (1 ≤ (l0.length : Int)) = true := decide_eq_true c37
     have c37b1 : decide (1 ≤ l0.length) = true := decide_eq_true (by omega)
     clear c37
     obtain rfl := Option.some.inj H
     go_wp2
     go_ret
     exact ⟨zw, zb⟩
    rw [if_neg c37] at H
    have c37b0 : decide (1 ≤ (l0.length : Int)) = false := decide_eq_false c37
    have c37b1 : decide (1 ≤ l0.length) = false := decide_eq_false (by omega)
    clear c37
    obtain rfl := Option.some.inj H
    go_wp2
    go_ret
    exact ⟨zw, zb⟩
   rw [if_pos c2] at H
   have c2b0 : decide (x7_1 < (l0.length : Int)) = true := decide_eq_true c2
   clear c2
   by_cases c3 : 0 ≤ x7_1
   rotate_left
   ·rw [if_neg c3] at H
    exact absurd H (by simp)
   rw [if_pos c3] at H
   have c3b0 : decide (0 ≤ x7_1) = true := decide_eq_true c3
   clear c3
   by_cases c4 : x7_1 < (l0.length : Int)
   rotate_left
   ·rw [if_neg c4] at H
    exact absurd H (by simp)
   rw [if_pos c4] at H
   have c4b0 : decide (x7_1 < (l0.length : Int)) = true := decide_eq_true c4
   clear c4
   replace H := Option.bind_eq_some_iff.mp H
   obtain ⟨t163, A50, H⟩ := H
   replace H : (if t163 = true then ((impl_isCoordinate.f ((rd_T44 l0 x7_1).f1)).bind fun t164 => (if t164 = true then (if x7_1 > 0 then (if 0 ≤ (wrap64 (x7_1 - 1)) then (if (wrap64 (x7_1 - 1)) < (l0.length : Int) then ((impl_compareCells.f ((rd_T44 l0 (wrap64 (x7_1 - 1))).f0) ((rd_T44 l0 (wrap64 (x7_1 - 1))).f1) ((rd_T44 l0 x7_1).f0) ((rd_T44 l0 x7_1).f1)).bind fun t166 => (if t166 ≥ 0 then (some false) else (impl_IsShape.l0 k1 l0 l0 (l0.length : Int) (wrap64 (x7_1 + 1))))) else (none)) else (none)) else (impl_IsShape.l0 k1 l0 l0 (l0.length : Int) (wrap64 (x7_1 + 1)))) else (some false))) else (some false)) = some r := H
   have A5 := aM A50
   clear A50
   by_cases c6 : t163 = true
   rotate_left
   ·replace c6 := Bool.eq_false_iff.mpr c6
    subst c6
    have H1 : (some false) = some r := by rw [if_neg (show ¬ (false = true) by decide)] at H; exact H
    clear H
    have H := H1
    clear H1
    obtain rfl := Option.some.inj H
    have p161 : 0 ≤ (x7_1 : Int) := of_decide_eq_true za
    have q161 : x7_1 < (l0.length : Int) := of_decide_eq_true za
    obtain ⟨ad161, e161, hx161_0, hx161_1⟩ := at_T44 HR0.out x7_1 p161 q161
    cases e161
    replace hx161_0 := zk HB.out hx161_0
    replace hx161_1 := zk HB.out hx161_1
    replace p161 := eq_true p161
    replace q161 := eq_true q161
    try go_wp2_with (first | ((with_reducible refine gate_dst (N := 4) rfl ?_); (try (refine gate_guard (by rfl) ?_; dsimp only)); refine zx 4 #[.int .i64 0, .int .i64 0] 44 ?_; intro gb162 hg w33 hbox hb; have n0_ := aM (below_step zb hb); have n1_ := aM (hbox); have n2_ := aM ((ze : w.heap.size ≤ gb162)); have n3_ := aM ((ze : w.heap.size ≤ gb162)); clear HB; have HB := n0_; have BK162 := n1_; have GW162 := n2_; have GE162 := n3_; clear n0_ n1_ n2_ n3_ hb hbox hg; have hcz34_0 : w33.cell? ⟨gb162, 0, none⟩ = some (.int .i64 0) := (blk_cell BK162.out 0).trans rfl; have hcz34_1 : w33.cell? ⟨gb162, 1, none⟩ = some (.int .i64 0) := (blk_cell BK162.out 1).trans rfl; have hfz34_0 := blk_frozen BK162.out 0; have hfz34_1 := blk_frozen BK162.out 1))
    have n0_ : Aside0 (((w33.setCell ⟨gb162, 0, none⟩ (.int .i64 ((rd_T44 l0 x7_1).f0))).setCell ⟨gb162, 1, none⟩ (.int .i64 ((rd_T44 l0 x7_1).f1))).heap[gb162]? = some (.cells #[.int .i64 ((rd_T44 l0 x7_1).f0), .int .i64 ((rd_T44 l0 x7_1).f1)] 44 (0, 0))) := ⟨by (with_reducible repeat (first | refine blk_drewN ?_ _ | refine blk_drew ?_ | refine blk_alloc ?_ _)); refine blk_put (cs := #[.int .i64 ((rd_T44 l0 x7_1).f0), .int .i64 0]) ?_ 1 _ rfl; (with_reducible repeat (first | refine blk_drewN ?_ _ | refine blk_drew ?_ | refine blk_alloc ?_ _)); refine blk_put (cs := #[.int .i64 0, .int .i64 0]) ?_ 0 _ rfl; (with_reducible repeat (first | refine blk_drewN ?_ _ | refine blk_drew ?_ | refine blk_alloc ?_ _)); exact BK162.out⟩
    have n1_ : Aside0 (Below w.heap.size w ((w33.setCell ⟨gb162, 0, none⟩ (.int .i64 ((rd_T44 l0 x7_1).f0))).setCell ⟨gb162, 1, none⟩ (.int .i64 ((rd_T44 l0 x7_1).f1)))) := ⟨zs GE162.out⟩
    (try clear BK162)
    (try clear HB)
    generalize ((w33.setCell ⟨gb162, 0, none⟩ (.int .i64 ((rd_T44 l0 x7_1).f0))).setCell ⟨gb162, 1, none⟩ (.int .i64 ((rd_T44 l0 x7_1).f1))) = w35 at n0_ n1_ ⊢
    have BK162 := n0_
    have HB := n1_
    clear n0_ n1_
    have n0_ := aM (blk_drew BK162.out)
    have n1_ := aM (below_drew1 HB.out)
    clear BK162
    clear HB
    have BK162 := n0_
    have HB := n1_
    clear n0_ n1_
    refine start_ (n := 24) (S := fun w' => w'.cell? ⟨gb162, 0, none⟩ = some (.int .i64 ((rd_T44 l0 x7_1).f0)) ∧ w'.cell? ⟨gb162, 1, none⟩ = some (.int .i64 ((rd_T44 l0 x7_1).f1))) (ds := []) zA58 (by kernel_rfl) rfl rfl ⟨(blk_cell BK162.out 0).trans rfl, (blk_cell BK162.out 1).trans rfl⟩ (fun hHeld => ?_); refine with_tabW impl_IsShape.tab4 impl_IsShape.bits4 (fun HT_ HW_ => ?_)
    generalize w35.drew = w36 at BK162 HB hHeld ⊢
    refine zp 0 (some 12) ?_ zA59 rfl rfl (Or.inl ⟨by rfl, ?_⟩) ?_ ?_ ?_
    rotate_left
    ·intro w'
     go_simp
     with_reducible rfl
    rotate_left
    ·simp only [Act.put, xA, xB, xC, i64_w, i32_w]
     rfl
    refine zu 1 (some 13) ?_ zA60 rfl rfl (Or.inl ⟨by rfl, ?_⟩) hHeld ?_ ?_ ?_
    rotate_left
    ·rintro w' ⟨s0, s1⟩
     go_simp
     with_reducible rfl
    rotate_left
    ·simp only [Act.put, xA, xB, xC, i64_w, i32_w]
     rfl
    refine one_ (i := 2) (N := some 14) zA61 rfl rfl (one_of HT_.out (by kernel_rfl)) (by decide) (fun K hK => ?_)
    refine goes_ Try.func55 (by kernel_rfl) rfl #[.int .i64 ((rd_T44 l0 x7_1).f0)] (by rfl) rfl rfl zm ?_
    with_reducible refine (impl_isCoordinate.calls ((rd_T44 l0 x7_1).f0) false _ A5.out).mono ?_
    rintro e w' ⟨rfl, ⟨nd, rfl⟩⟩
    refine ⟨_, rfl, ?_⟩
    refine hK.out _ _ ⟨(blk_cell BK162.out 0).trans rfl, (blk_cell BK162.out 1).trans rfl⟩ (fun hHeld => ?_)
    clear hK K
    refine norm_ (a' := ?_) ?_ ?_
    rotate_left
    ·show Act.put _ (some 14) _ = _
     simp only [Act.put, xA, xB, xC, i64_w, i32_w]
     rfl
    refine zp 3 (some 15) ?_ zA62 rfl rfl (Or.inl ⟨by rfl, ?_⟩) ?_ ?_ ?_
    rotate_left
    ·intro w'
     go_simp
     with_reducible rfl
    rotate_left
    ·simp only [Act.put, xA, xB, xC, i64_w, i32_w]
     rfl
    refine zp 4 (some 16) ?_ zA63 rfl rfl (Or.inl ⟨by rfl, ?_⟩) ?_ ?_ ?_
    rotate_left
    ·intro w'
     go_simp
     with_reducible rfl
    rotate_left
    ·simp only [Act.put, xA, xB, xC, i64_w, i32_w]
     rfl
    refine zp 5 (some 17) undef zA64 rfl rfl (Or.inr ⟨by rfl, rfl⟩) ?_ ?_ ?_
    rotate_left
    ·simp only [Act.put, xA, xB, xC, i64_w, i32_w]
     rfl
    refine zp 6 (some 18) undef zA65 rfl rfl (Or.inr ⟨by rfl, rfl⟩) ?_ ?_ ?_
    rotate_left
    ·simp only [Act.put, xA, xB, xC, i64_w, i32_w]
     rfl
    refine zp 7 (some 19) undef zA66 rfl rfl (Or.inr ⟨by rfl, rfl⟩) ?_ ?_ ?_
    rotate_left
    ·simp only [Act.put, xA, xB, xC, i64_w, i32_w]
     rfl
    refine zp 8 (some 20) undef zA67 rfl rfl (Or.inr ⟨by rfl, rfl⟩) ?_ ?_ ?_
    rotate_left
    ·simp only [Act.put, xA, xB, xC, i64_w, i32_w]
     rfl
    refine zp 9 (some 21) ?_ zA68 rfl rfl (Or.inl ⟨by rfl, ?_⟩) ?_ ?_ ?_
    rotate_left
    ·intro w'
     go_simp
     with_reducible rfl
    rotate_left
    ·simp only [Act.put, xA, xB, xC, i64_w, i32_w]
     rfl
    refine zp 10 (some 22) ?_ zA69 rfl rfl (Or.inl ⟨by rfl, ?_⟩) ?_ ?_ ?_
    rotate_left
    ·intro w'
     go_simp
     with_reducible rfl
    rotate_left
    ·simp only [Act.put, xA, xB, xC, i64_w, i32_w]
     rfl
    refine zp 11 (some 23) undef zA70 rfl rfl (Or.inr ⟨by rfl, rfl⟩) ?_ ?_ ?_
    rotate_left
    ·simp only [Act.put, xA, xB, xC, i64_w, i32_w]
     rfl
    refine zp 12 (some 24) undef zA71 rfl rfl (Or.inr ⟨by rfl, rfl⟩) ?_ ?_ ?_
    rotate_left
    ·simp only [Act.put, xA, xB, xC, i64_w, i32_w]
     rfl
    refine zp 13 (some 25) undef zA72 rfl rfl (Or.inr ⟨by rfl, rfl⟩) ?_ ?_ ?_
    rotate_left
    ·simp only [Act.put, xA, xB, xC, i64_w, i32_w]
     rfl
    refine zp 14 (some 26) undef zA73 rfl rfl (Or.inr ⟨by rfl, rfl⟩) ?_ ?_ ?_
    rotate_left
    ·simp only [Act.put, xA, xB, xC, i64_w, i32_w]
     rfl
    refine zp 15 (some 27) undef zA74 rfl rfl (Or.inr ⟨by rfl, rfl⟩) ?_ ?_ ?_
    rotate_left
    ·simp only [Act.put, xA, xB, xC, i64_w, i32_w]
     rfl
    refine zp 16 (some 28) undef zA75 rfl rfl (Or.inr ⟨by rfl, rfl⟩) ?_ ?_ ?_
    rotate_left
    ·simp only [Act.put, xA, xB, xC, i64_w, i32_w]
     rfl
    refine zp 17 (some 29) undef zA76 rfl rfl (Or.inr ⟨by rfl, rfl⟩) ?_ ?_ ?_
    rotate_left
    ·simp only [Act.put, xA, xB, xC, i64_w, i32_w]
     rfl
    refine zp 18 (some 30) undef zA77 rfl rfl (Or.inr ⟨by rfl, rfl⟩) ?_ ?_ ?_
    rotate_left
    ·simp only [Act.put, xA, xB, xC, i64_w, i32_w]
     rfl
    refine zp 19 (some 31) undef zA78 rfl rfl (Or.inr ⟨by rfl, rfl⟩) ?_ ?_ ?_
    rotate_left
    ·simp only [Act.put, xA, xB, xC, i64_w, i32_w]
     rfl
    refine zp 20 (some 32) undef zA79 rfl rfl (Or.inr ⟨by rfl, rfl⟩) ?_ ?_ ?_
    rotate_left
    ·simp only [Act.put, xA, xB, xC, i64_w, i32_w]
     rfl
    refine zp 21 (some 33) undef zA80 rfl rfl (Or.inr ⟨by rfl, rfl⟩) ?_ ?_ ?_
    rotate_left
    ·simp only [Act.put, xA, xB, xC, i64_w, i32_w]
     rfl
    refine zp 22 (some 34) undef zA81 rfl rfl (Or.inr ⟨by rfl, rfl⟩) ?_ ?_ ?_
    rotate_left
    ·simp only [Act.put, xA, xB, xC, i64_w, i32_w]
     rfl
    refine zp 23 (some 35) ?_ zA82 rfl rfl (Or.inl ⟨by rfl, ?_⟩) ?_ ?_ ?_
    rotate_left
    ·intro w'
     go_simp
     with_reducible rfl
    rotate_left
    ·simp only [Act.put, xA, xB, xC, i64_w, i32_w]
     rfl
    refine done_ (done_of HT_.out (by kernel_rfl)) ?_
    try go_wp2
    go_ret
    exact ⟨zw, zs GE162.out⟩
   subst c6
   have H1 : ((impl_isCoordinate.f ((rd_T44 l0 x7_1).f1)).bind fun t164 => (if t164 = true then (if x7_1 > 0 then (if 0 ≤ (wrap64 (x7_1 - 1)) then (if (wrap64 (x7_1 - 1)) < (l0.length : Int) then ((impl_compareCells.f ((rd_T44 l0 (wrap64 (x7_1 - 1))).f0) ((rd_T44 l0 (wrap64 (x7_1 - 1))).f1) ((rd_T44 l0 x7_1).f0) ((rd_T44 l0 x7_1).f1)).bind fun t166 => (if t166 ≥ 0 then (some false) else (impl_IsShape.l0 k1 l0 l0 (l0.length : Int) (wrap64 (x7_1 + 1))))) else (none)) else (none)) else (impl_IsShape.l0 k1 l0 l0 (l0.length : Int) (wrap64 (x7_1 + 1)))) else (some false))) = some r := by rw [if_pos rfl] at H; exact H
   clear H
   have H := H1
   clear H1
   replace H := Option.bind_eq_some_iff.mp H
   obtain ⟨t164, A70, H⟩ := H
   replace H : (if t164 = true then (if x7_1 > 0 then (if 0 ≤ (wrap64 (x7_1 - 1)) then (if (wrap64 (x7_1 - 1)) < (l0.length : Int) then ((impl_compareCells.f ((rd_T44 l0 (wrap64 (x7_1 - 1))).f0) ((rd_T44 l0 (wrap64 (x7_1 - 1))).f1) ((rd_T44 l0 x7_1).f0) ((rd_T44 l0 x7_1).f1)).bind fun t166 => (if t166 ≥ 0 then (some false) else (impl_IsShape.l0 k1 l0 l0 (l0.length : Int) (wrap64 (x7_1 + 1))))) else (none)) else (none)) else (impl_IsShape.l0 k1 l0 l0 (l0.length : Int) (wrap64 (x7_1 + 1)))) else (some false)) = some r := H
   have A7 := aM A70
   clear A70
   by_cases c8 : t164 = true
   rotate_left
   ·replace c8 := Bool.eq_false_iff.mpr c8
    subst c8
    have H1 : (some false) = some r := by rw [if_neg (show ¬ (false = true) by decide)] at H; exact H
    clear H
    have H := H1
    clear H1
    obtain rfl := Option.some.inj H
    have p161 : 0 ≤ (x7_1 : Int) := of_decide_eq_true za
    have q161 : x7_1 < (l0.length : Int) := of_decide_eq_true za
    obtain ⟨ad161, e161, hx161_0, hx161_1⟩ := at_T44 HR0.out x7_1 p161 q161
    cases e161
    replace hx161_0 := zk HB.out hx161_0
    replace hx161_1 := zk HB.out hx161_1
    replace p161 := eq_true p161
    replace q161 := eq_true q161
    try go_wp2_with (first | ((with_reducible refine gate_dst (N := 4) rfl ?_); (try (refine gate_guard (by rfl) ?_; dsimp only)); refine zx 4 #[.int .i64 0, .int .i64 0] 44 ?_; intro gb162 hg w29 hbox hb; have n0_ := aM (below_step zb hb); have n1_ := aM (hbox); have n2_ := aM ((ze : w.heap.size ≤ gb162)); have n3_ := aM ((ze : w.heap.size ≤ gb162)); clear HB; have HB := n0_; have BK162 := n1_; have GW162 := n2_; have GE162 := n3_; clear n0_ n1_ n2_ n3_ hb hbox hg; have hcz30_0 : w29.cell? ⟨gb162, 0, none⟩ = some (.int .i64 0) := (blk_cell BK162.out 0).trans rfl; have hcz30_1 : w29.cell? ⟨gb162, 1, none⟩ = some (.int .i64 0) := (blk_cell BK162.out 1).trans rfl; have hfz30_0 := blk_frozen BK162.out 0; have hfz30_1 := blk_frozen BK162.out 1))
    have n0_ : Aside0 (((w29.setCell ⟨gb162, 0, none⟩ (.int .i64 ((rd_T44 l0 x7_1).f0))).setCell ⟨gb162, 1, none⟩ (.int .i64 ((rd_T44 l0 x7_1).f1))).heap[gb162]? = some (.cells #[.int .i64 ((rd_T44 l0 x7_1).f0), .int .i64 ((rd_T44 l0 x7_1).f1)] 44 (0, 0))) := ⟨by (with_reducible repeat (first | refine blk_drewN ?_ _ | refine blk_drew ?_ | refine blk_alloc ?_ _)); refine blk_put (cs := #[.int .i64 ((rd_T44 l0 x7_1).f0), .int .i64 0]) ?_ 1 _ rfl; (with_reducible repeat (first | refine blk_drewN ?_ _ | refine blk_drew ?_ | refine blk_alloc ?_ _)); refine blk_put (cs := #[.int .i64 0, .int .i64 0]) ?_ 0 _ rfl; (with_reducible repeat (first | refine blk_drewN ?_ _ | refine blk_drew ?_ | refine blk_alloc ?_ _)); exact BK162.out⟩
    have n1_ : Aside0 (Below w.heap.size w ((w29.setCell ⟨gb162, 0, none⟩ (.int .i64 ((rd_T44 l0 x7_1).f0))).setCell ⟨gb162, 1, none⟩ (.int .i64 ((rd_T44 l0 x7_1).f1)))) := ⟨zs GE162.out⟩
    (try clear BK162)
    (try clear HB)
    generalize ((w29.setCell ⟨gb162, 0, none⟩ (.int .i64 ((rd_T44 l0 x7_1).f0))).setCell ⟨gb162, 1, none⟩ (.int .i64 ((rd_T44 l0 x7_1).f1))) = w31 at n0_ n1_ ⊢
    have BK162 := n0_
    have HB := n1_
    clear n0_ n1_
    have n0_ := aM (blk_drew BK162.out)
    have n1_ := aM (below_drew1 HB.out)
    clear BK162
    clear HB
    have BK162 := n0_
    have HB := n1_
    clear n0_ n1_
    refine start_ (n := 24) (S := fun w' => w'.cell? ⟨gb162, 0, none⟩ = some (.int .i64 ((rd_T44 l0 x7_1).f0)) ∧ w'.cell? ⟨gb162, 1, none⟩ = some (.int .i64 ((rd_T44 l0 x7_1).f1))) (ds := []) zA58 (by kernel_rfl) rfl rfl ⟨(blk_cell BK162.out 0).trans rfl, (blk_cell BK162.out 1).trans rfl⟩ (fun hHeld => ?_); refine with_tabW impl_IsShape.tab4 impl_IsShape.bits4 (fun HT_ HW_ => ?_)
    generalize w31.drew = w32 at BK162 HB hHeld ⊢
    refine zp 0 (some 12) ?_ zA59 rfl rfl (Or.inl ⟨by rfl, ?_⟩) ?_ ?_ ?_
    rotate_left
    ·intro w'
     go_simp
     with_reducible rfl
    rotate_left
    ·simp only [Act.put, xA, xB, xC, i64_w, i32_w]
     rfl
    refine zu 1 (some 13) ?_ zA60 rfl rfl (Or.inl ⟨by rfl, ?_⟩) hHeld ?_ ?_ ?_
    rotate_left
    ·rintro w' ⟨s0, s1⟩
     go_simp
     with_reducible rfl
    rotate_left
    ·simp only [Act.put, xA, xB, xC, i64_w, i32_w]
     rfl
    refine one_ (i := 2) (N := some 14) zA61 rfl rfl (one_of HT_.out (by kernel_rfl)) (by decide) (fun K hK => ?_)
    refine goes_ Try.func55 (by kernel_rfl) rfl #[.int .i64 ((rd_T44 l0 x7_1).f0)] (by rfl) rfl rfl zm ?_
    with_reducible refine (impl_isCoordinate.calls ((rd_T44 l0 x7_1).f0) true _ A5.out).mono ?_
    rintro e w' ⟨rfl, ⟨nd, rfl⟩⟩
    refine ⟨_, rfl, ?_⟩
    refine hK.out _ _ ⟨(blk_cell BK162.out 0).trans rfl, (blk_cell BK162.out 1).trans rfl⟩ (fun hHeld => ?_)
    clear hK K
    refine norm_ (a' := ?_) ?_ ?_
    rotate_left
    ·show Act.put _ (some 14) _ = _
     simp only [Act.put, xA, xB, xC, i64_w, i32_w]
     rfl
    refine zp 3 (some 15) ?_ zA62 rfl rfl (Or.inl ⟨by rfl, ?_⟩) ?_ ?_ ?_
    rotate_left
    ·intro w'
     go_simp
     with_reducible rfl
    rotate_left
    ·simp only [Act.put, xA, xB, xC, i64_w, i32_w]
     rfl
    refine zp 4 (some 16) ?_ zA63 rfl rfl (Or.inl ⟨by rfl, ?_⟩) ?_ ?_ ?_
    rotate_left
    ·intro w'
     go_simp
     with_reducible rfl
    rotate_left
    ·simp only [Act.put, xA, xB, xC, i64_w, i32_w]
     rfl
    refine zp 5 (some 17) ?_ zA64 rfl rfl (Or.inl ⟨by rfl, ?_⟩) ?_ ?_ ?_
    rotate_left
    ·intro w'
     go_simp
     with_reducible rfl
    rotate_left
    ·simp only [Act.put, xA, xB, xC, i64_w, i32_w]
     rfl
    refine zu 6 (some 18) ?_ zA65 rfl rfl (Or.inl ⟨by rfl, ?_⟩) hHeld ?_ ?_ ?_
    rotate_left
    ·rintro w' ⟨s0, s1⟩
     go_simp
     with_reducible rfl
    rotate_left
    ·simp only [Act.put, xA, xB, xC, i64_w, i32_w]
     rfl
    refine one_ (i := 7) (N := some 19) zA66 rfl rfl (one_of HT_.out (by kernel_rfl)) (by decide) (fun K hK => ?_)
    refine goes_ Try.func55 (by kernel_rfl) rfl #[.int .i64 ((rd_T44 l0 x7_1).f1)] (by rfl) rfl rfl zm ?_
    with_reducible refine (impl_isCoordinate.calls ((rd_T44 l0 x7_1).f1) false _ A7.out).mono ?_
    rintro e w' ⟨rfl, ⟨nd, rfl⟩⟩
    refine ⟨_, rfl, ?_⟩
    refine hK.out _ _ ⟨(blk_cell BK162.out 0).trans rfl, (blk_cell BK162.out 1).trans rfl⟩ (fun hHeld => ?_)
    clear hK K
    refine norm_ (a' := ?_) ?_ ?_
    rotate_left
    ·show Act.put _ (some 19) _ = _
     simp only [Act.put, xA, xB, xC, i64_w, i32_w]
     rfl
    refine zp 8 (some 20) ?_ zA67 rfl rfl (Or.inl ⟨by rfl, ?_⟩) ?_ ?_ ?_
    rotate_left
    ·intro w'
     go_simp
     with_reducible rfl
    rotate_left
    ·simp only [Act.put, xA, xB, xC, i64_w, i32_w]
     rfl
    refine zp 9 (some 21) ?_ zA68 rfl rfl (Or.inl ⟨by rfl, ?_⟩) ?_ ?_ ?_
    rotate_left
    ·intro w'
     go_simp
     with_reducible rfl
    rotate_left
    ·simp only [Act.put, xA, xB, xC, i64_w, i32_w]
     rfl
    refine zp 10 (some 22) ?_ zA69 rfl rfl (Or.inl ⟨by rfl, ?_⟩) ?_ ?_ ?_
    rotate_left
    ·intro w'
     go_simp
     with_reducible rfl
    rotate_left
    ·simp only [Act.put, xA, xB, xC, i64_w, i32_w]
     rfl
    refine zp 11 (some 23) undef zA70 rfl rfl (Or.inr ⟨by rfl, rfl⟩) ?_ ?_ ?_
    rotate_left
    ·simp only [Act.put, xA, xB, xC, i64_w, i32_w]
     rfl
    refine zp 12 (some 24) undef zA71 rfl rfl (Or.inr ⟨by rfl, rfl⟩) ?_ ?_ ?_
    rotate_left
    ·simp only [Act.put, xA, xB, xC, i64_w, i32_w]
     rfl
    refine zp 13 (some 25) undef zA72 rfl rfl (Or.inr ⟨by rfl, rfl⟩) ?_ ?_ ?_
    rotate_left
    ·simp only [Act.put, xA, xB, xC, i64_w, i32_w]
     rfl
    refine zp 14 (some 26) undef zA73 rfl rfl (Or.inr ⟨by rfl, rfl⟩) ?_ ?_ ?_
    rotate_left
    ·simp only [Act.put, xA, xB, xC, i64_w, i32_w]
     rfl
    refine zp 15 (some 27) undef zA74 rfl rfl (Or.inr ⟨by rfl, rfl⟩) ?_ ?_ ?_
    rotate_left
    ·simp only [Act.put, xA, xB, xC, i64_w, i32_w]
     rfl
    refine zp 16 (some 28) undef zA75 rfl rfl (Or.inr ⟨by rfl, rfl⟩) ?_ ?_ ?_
    rotate_left
    ·simp only [Act.put, xA, xB, xC, i64_w, i32_w]
     rfl
    refine zp 17 (some 29) undef zA76 rfl rfl (Or.inr ⟨by rfl, rfl⟩) ?_ ?_ ?_
    rotate_left
    ·simp only [Act.put, xA, xB, xC, i64_w, i32_w]
     rfl
    refine zp 18 (some 30) undef zA77 rfl rfl (Or.inr ⟨by rfl, rfl⟩) ?_ ?_ ?_
    rotate_left
    ·simp only [Act.put, xA, xB, xC, i64_w, i32_w]
     rfl
    refine zp 19 (some 31) undef zA78 rfl rfl (Or.inr ⟨by rfl, rfl⟩) ?_ ?_ ?_
    rotate_left
    ·simp only [Act.put, xA, xB, xC, i64_w, i32_w]
     rfl
    refine zp 20 (some 32) undef zA79 rfl rfl (Or.inr ⟨by rfl, rfl⟩) ?_ ?_ ?_
    rotate_left
    ·simp only [Act.put, xA, xB, xC, i64_w, i32_w]
     rfl
    refine zp 21 (some 33) undef zA80 rfl rfl (Or.inr ⟨by rfl, rfl⟩) ?_ ?_ ?_
    rotate_left
    ·simp only [Act.put, xA, xB, xC, i64_w, i32_w]
     rfl
    refine zp 22 (some 34) undef zA81 rfl rfl (Or.inr ⟨by rfl, rfl⟩) ?_ ?_ ?_
    rotate_left
    ·simp only [Act.put, xA, xB, xC, i64_w, i32_w]
     rfl
    refine zp 23 (some 35) ?_ zA82 rfl rfl (Or.inl ⟨by rfl, ?_⟩) ?_ ?_ ?_
    rotate_left
    ·intro w'
     go_simp
     with_reducible rfl
    rotate_left
    ·simp only [Act.put, xA, xB, xC, i64_w, i32_w]
     rfl
    refine done_ (done_of HT_.out (by kernel_rfl)) ?_
    try go_wp2
    go_ret
    exact ⟨zw, zs GE162.out⟩
   subst c8
   have H1 : (if x7_1 > 0 then (if 0 ≤ (wrap64 (x7_1 - 1)) then (if (wrap64 (x7_1 - 1)) < (l0.length : Int) then ((impl_compareCells.f ((rd_T44 l0 (wrap64 (x7_1 - 1))).f0) ((rd_T44 l0 (wrap64 (x7_1 - 1))).f1) ((rd_T44 l0 x7_1).f0) ((rd_T44 l0 x7_1).f1)).bind fun t166 => (if t166 ≥ 0 then (some false) else (impl_IsShape.l0 k1 l0 l0 (l0.length : Int) (wrap64 (x7_1 + 1))))) else (none)) else (none)) else (impl_IsShape.l0 k1 l0 l0 (l0.length : Int) (wrap64 (x7_1 + 1)))) = some r := by rw [if_pos rfl] at H; exact H
   clear H
   have H := H1
   clear H1
   by_cases c9 : x7_1 > 0
   rotate_left
   ·rw [if_neg c9] at H
    have c9b0 : decide (0 < x7_1) = false := decide_eq_false c9
    clear c9
    have H' := aM H
    clear H
    have p161 : 0 ≤ (x7_1 : Int) := of_decide_eq_true za
    have q161 : x7_1 < (l0.length : Int) := of_decide_eq_true za
    obtain ⟨ad161, e161, hx161_0, hx161_1⟩ := at_T44 HR0.out x7_1 p161 q161
    cases e161
    replace hx161_0 := zk HB.out hx161_0
    replace hx161_1 := zk HB.out hx161_1
    replace p161 := eq_true p161
    replace q161 := eq_true q161
    try go_wp2_with (first | ((with_reducible refine gate_dst (N := 4) rfl ?_); (try (refine gate_guard (by rfl) ?_; dsimp only)); refine zx 4 #[.int .i64 0, .int .i64 0] 44 ?_; intro gb162 hg w25 hbox hb; have n0_ := aM (below_step zb hb); have n1_ := aM (hbox); have n2_ := aM ((ze : w.heap.size ≤ gb162)); have n3_ := aM ((ze : w.heap.size ≤ gb162)); clear HB; have HB := n0_; have BK162 := n1_; have GW162 := n2_; have GE162 := n3_; clear n0_ n1_ n2_ n3_ hb hbox hg; have hcz26_0 : w25.cell? ⟨gb162, 0, none⟩ = some (.int .i64 0) := (blk_cell BK162.out 0).trans rfl; have hcz26_1 : w25.cell? ⟨gb162, 1, none⟩ = some (.int .i64 0) := (blk_cell BK162.out 1).trans rfl; have hfz26_0 := blk_frozen BK162.out 0; have hfz26_1 := blk_frozen BK162.out 1))
    have n0_ : Aside0 (((w25.setCell ⟨gb162, 0, none⟩ (.int .i64 ((rd_T44 l0 x7_1).f0))).setCell ⟨gb162, 1, none⟩ (.int .i64 ((rd_T44 l0 x7_1).f1))).heap[gb162]? = some (.cells #[.int .i64 ((rd_T44 l0 x7_1).f0), .int .i64 ((rd_T44 l0 x7_1).f1)] 44 (0, 0))) := ⟨by (with_reducible repeat (first | refine blk_drewN ?_ _ | refine blk_drew ?_ | refine blk_alloc ?_ _)); refine blk_put (cs := #[.int .i64 ((rd_T44 l0 x7_1).f0), .int .i64 0]) ?_ 1 _ rfl; (with_reducible repeat (first | refine blk_drewN ?_ _ | refine blk_drew ?_ | refine blk_alloc ?_ _)); refine blk_put (cs := #[.int .i64 0, .int .i64 0]) ?_ 0 _ rfl; (with_reducible repeat (first | refine blk_drewN ?_ _ | refine blk_drew ?_ | refine blk_alloc ?_ _)); exact BK162.out⟩
    have n1_ : Aside0 (Below w.heap.size w ((w25.setCell ⟨gb162, 0, none⟩ (.int .i64 ((rd_T44 l0 x7_1).f0))).setCell ⟨gb162, 1, none⟩ (.int .i64 ((rd_T44 l0 x7_1).f1)))) := ⟨zs GE162.out⟩
    (try clear BK162)
    (try clear HB)
    generalize ((w25.setCell ⟨gb162, 0, none⟩ (.int .i64 ((rd_T44 l0 x7_1).f0))).setCell ⟨gb162, 1, none⟩ (.int .i64 ((rd_T44 l0 x7_1).f1))) = w27 at n0_ n1_ ⊢
    have BK162 := n0_
    have HB := n1_
    clear n0_ n1_
    have n0_ := aM (blk_drew BK162.out)
    have n1_ := aM (below_drew1 HB.out)
    clear BK162
    clear HB
    have BK162 := n0_
    have HB := n1_
    clear n0_ n1_
    refine start_ (n := 24) (S := fun w' => w'.cell? ⟨gb162, 0, none⟩ = some (.int .i64 ((rd_T44 l0 x7_1).f0)) ∧ w'.cell? ⟨gb162, 1, none⟩ = some (.int .i64 ((rd_T44 l0 x7_1).f1))) (ds := []) zA58 (by kernel_rfl) rfl rfl ⟨(blk_cell BK162.out 0).trans rfl, (blk_cell BK162.out 1).trans rfl⟩ (fun hHeld => ?_); refine with_tabW impl_IsShape.tab4 impl_IsShape.bits4 (fun HT_ HW_ => ?_)
    generalize w27.drew = w28 at BK162 HB hHeld ⊢
    refine zp 0 (some 12) ?_ zA59 rfl rfl (Or.inl ⟨by rfl, ?_⟩) ?_ ?_ ?_
    rotate_left
    ·intro w'
     go_simp
     with_reducible rfl
    rotate_left
    ·simp only [Act.put, xA, xB, xC, i64_w, i32_w]
     rfl
    refine zu 1 (some 13) ?_ zA60 rfl rfl (Or.inl ⟨by rfl, ?_⟩) hHeld ?_ ?_ ?_
    rotate_left
    ·rintro w' ⟨s0, s1⟩
     go_simp
     with_reducible rfl
    rotate_left
    ·simp only [Act.put, xA, xB, xC, i64_w, i32_w]
     rfl
    refine one_ (i := 2) (N := some 14) zA61 rfl rfl (one_of HT_.out (by kernel_rfl)) (by decide) (fun K hK => ?_)
    refine goes_ Try.func55 (by kernel_rfl) rfl #[.int .i64 ((rd_T44 l0 x7_1).f0)] (by rfl) rfl rfl zm ?_
    with_reducible refine (impl_isCoordinate.calls ((rd_T44 l0 x7_1).f0) true _ A5.out).mono ?_
    rintro e w' ⟨rfl, ⟨nd, rfl⟩⟩
    refine ⟨_, rfl, ?_⟩
    refine hK.out _ _ ⟨(blk_cell BK162.out 0).trans rfl, (blk_cell BK162.out 1).trans rfl⟩ (fun hHeld => ?_)
    clear hK K
    refine norm_ (a' := ?_) ?_ ?_
    rotate_left
    ·show Act.put _ (some 14) _ = _
     simp only [Act.put, xA, xB, xC, i64_w, i32_w]
     rfl
    refine zp 3 (some 15) ?_ zA62 rfl rfl (Or.inl ⟨by rfl, ?_⟩) ?_ ?_ ?_
    rotate_left
    ·intro w'
     go_simp
     with_reducible rfl
    rotate_left
    ·simp only [Act.put, xA, xB, xC, i64_w, i32_w]
     rfl
    refine zp 4 (some 16) ?_ zA63 rfl rfl (Or.inl ⟨by rfl, ?_⟩) ?_ ?_ ?_
    rotate_left
    ·intro w'
     go_simp
     with_reducible rfl
    rotate_left
    ·simp only [Act.put, xA, xB, xC, i64_w, i32_w]
     rfl
    refine zp 5 (some 17) ?_ zA64 rfl rfl (Or.inl ⟨by rfl, ?_⟩) ?_ ?_ ?_
    rotate_left
    ·intro w'
     go_simp
     with_reducible rfl
    rotate_left
    ·simp only [Act.put, xA, xB, xC, i64_w, i32_w]
     rfl
    refine zu 6 (some 18) ?_ zA65 rfl rfl (Or.inl ⟨by rfl, ?_⟩) hHeld ?_ ?_ ?_
    rotate_left
    ·rintro w' ⟨s0, s1⟩
     go_simp
     with_reducible rfl
    rotate_left
    ·simp only [Act.put, xA, xB, xC, i64_w, i32_w]
     rfl
    refine one_ (i := 7) (N := some 19) zA66 rfl rfl (one_of HT_.out (by kernel_rfl)) (by decide) (fun K hK => ?_)
    refine goes_ Try.func55 (by kernel_rfl) rfl #[.int .i64 ((rd_T44 l0 x7_1).f1)] (by rfl) rfl rfl zm ?_
    with_reducible refine (impl_isCoordinate.calls ((rd_T44 l0 x7_1).f1) true _ A7.out).mono ?_
    rintro e w' ⟨rfl, ⟨nd, rfl⟩⟩
    refine ⟨_, rfl, ?_⟩
    refine hK.out _ _ ⟨(blk_cell BK162.out 0).trans rfl, (blk_cell BK162.out 1).trans rfl⟩ (fun hHeld => ?_)
    clear hK K
    refine norm_ (a' := ?_) ?_ ?_
    rotate_left
    ·show Act.put _ (some 19) _ = _
     simp only [Act.put, xA, xB, xC, i64_w, i32_w]
     rfl
    refine zp 8 (some 20) ?_ zA67 rfl rfl (Or.inl ⟨by rfl, ?_⟩) ?_ ?_ ?_
    rotate_left
    ·intro w'
     go_simp
     with_reducible rfl
    rotate_left
    ·simp only [Act.put, xA, xB, xC, i64_w, i32_w]
     rfl
    refine zp 9 (some 21) ?_ zA68 rfl rfl (Or.inl ⟨by rfl, ?_⟩) ?_ ?_ ?_
    rotate_left
    ·intro w'
     go_simp
     with_reducible rfl
    rotate_left
    ·simp only [Act.put, xA, xB, xC, i64_w, i32_w]
     rfl
    refine zp 10 (some 22) ?_ zA69 rfl rfl (Or.inl ⟨by rfl, ?_⟩) ?_ ?_ ?_
    rotate_left
    ·intro w'
     go_simp
     with_reducible rfl
    rotate_left
    ·simp only [Act.put, xA, xB, xC, i64_w, i32_w]
     rfl
    refine zp 11 (some 23) ?_ zA70 rfl rfl (Or.inl ⟨by rfl, ?_⟩) ?_ ?_ ?_
    rotate_left
    ·intro w'
     go_simp
     with_reducible rfl
    rotate_left
    ·simp only [Act.put, xA, xB, xC, i64_w, i32_w]
     rfl
    refine zp 12 (some 24) ?_ zA71 rfl rfl (Or.inl ⟨by rfl, ?_⟩) ?_ ?_ ?_
    rotate_left
    ·intro w'
     go_simp
     with_reducible rfl
    rotate_left
    ·simp only [Act.put, xA, xB, xC, i64_w, i32_w]
     rfl
    refine zp 13 (some 25) ?_ zA72 rfl rfl (Or.inl ⟨by rfl, ?_⟩) ?_ ?_ ?_
    rotate_left
    ·intro w'
     go_simp
     with_reducible rfl
    rotate_left
    ·simp only [Act.put, xA, xB, xC, i64_w, i32_w]
     rfl
    refine zp 14 (some 26) undef zA73 rfl rfl (Or.inr ⟨by rfl, rfl⟩) ?_ ?_ ?_
    rotate_left
    ·simp only [Act.put, xA, xB, xC, i64_w, i32_w]
     rfl
    refine zp 15 (some 27) undef zA74 rfl rfl (Or.inr ⟨by rfl, rfl⟩) ?_ ?_ ?_
    rotate_left
    ·simp only [Act.put, xA, xB, xC, i64_w, i32_w]
     rfl
    refine zp 16 (some 28) undef zA75 rfl rfl (Or.inr ⟨by rfl, rfl⟩) ?_ ?_ ?_
    rotate_left
    ·simp only [Act.put, xA, xB, xC, i64_w, i32_w]
     rfl
    refine zp 17 (some 29) undef zA76 rfl rfl (Or.inr ⟨by rfl, rfl⟩) ?_ ?_ ?_
    rotate_left
    ·simp only [Act.put, xA, xB, xC, i64_w, i32_w]
     rfl
    refine zp 18 (some 30) undef zA77 rfl rfl (Or.inr ⟨by rfl, rfl⟩) ?_ ?_ ?_
    rotate_left
    ·simp only [Act.put, xA, xB, xC, i64_w, i32_w]
     rfl
    refine zp 19 (some 31) undef zA78 rfl rfl (Or.inr ⟨by rfl, rfl⟩) ?_ ?_ ?_
    rotate_left
    ·simp only [Act.put, xA, xB, xC, i64_w, i32_w]
     rfl
    refine zp 20 (some 32) undef zA79 rfl rfl (Or.inr ⟨by rfl, rfl⟩) ?_ ?_ ?_
    rotate_left
    ·simp only [Act.put, xA, xB, xC, i64_w, i32_w]
     rfl
    refine zp 21 (some 33) undef zA80 rfl rfl (Or.inr ⟨by rfl, rfl⟩) ?_ ?_ ?_
    rotate_left
    ·simp only [Act.put, xA, xB, xC, i64_w, i32_w]
     rfl
    refine zp 22 (some 34) ?_ zA81 rfl rfl (Or.inl ⟨by rfl, ?_⟩) ?_ ?_ ?_
    rotate_left
    ·intro w'
     go_simp
     with_reducible rfl
    rotate_left
    ·simp only [Act.put, xA, xB, xC, i64_w, i32_w]
     rfl
    refine zp 23 (some 35) ?_ zA82 rfl rfl (Or.inl ⟨by rfl, ?_⟩) ?_ ?_ ?_
    rotate_left
    ·intro w'
     go_simp
     with_reducible rfl
    rotate_left
    ·simp only [Act.put, xA, xB, xC, i64_w, i32_w]
     rfl
    refine done_ (done_of HT_.out (by kernel_rfl)) ?_
    try go_wp2
    go_roundg k1
    case measure => have := HK1.out; omega
    case rel => exact ⟨(wrap64 (x7_1 + 1)), zr, H', ⟨by have := HK1.out; omega⟩, ⟨zs GE162.out⟩⟩
   rw [if_pos c9] at H
   have c9b0 : decide (0 < x7_1) = true := decide_eq_true c9
   clear c9
   obtain ⟨ji10, hji10⟩ : ∃ j_ : Int, (wrap64 (x7_1 - 1)) = j_ := ⟨_, rfl⟩
   replace H : (if 0 ≤ (ji10) then (if (ji10) < (l0.length : Int) then ((impl_compareCells.f ((rd_T44 l0 (ji10)).f0) ((rd_T44 l0 (ji10)).f1) ((rd_T44 l0 x7_1).f0) ((rd_T44 l0 x7_1).f1)).bind fun t166 => (if t166 ≥ 0 then (some false) else (impl_IsShape.l0 k1 l0 l0 (l0.length : Int) (wrap64 (x7_1 + 1))))) else (none)) else (none)) = some r := by first | (rw [hji10] at H; exact H) | (simp only [hji10] at H ⊢; exact H)
   (try rw [hji10] at A5)
   (try rw [hji10] at A7)
   have hji10w : (IntKind.i64.wrap (x7_1 - 1)) = ji10 := (i64_w _).trans hji10
   by_cases c11 : 0 ≤ (ji10)
   rotate_left
   ·rw [if_neg c11] at H
    exact absurd H (by simp)
   rw [if_pos c11] at H
   have c11b0 : decide (0 ≤ (ji10)) = true := decide_eq_true c11
   clear c11
   by_cases c12 : (ji10) < (l0.length : Int)
   rotate_left
   ·rw [if_neg c12] at H
    exact absurd H (by simp)
   rw [if_pos c12] at H
   have c12b0 : decide ((ji10) < (l0.length : Int)) = true := decide_eq_true c12
   clear c12
   replace H := Option.bind_eq_some_iff.mp H
   obtain ⟨t166, A130, H⟩ := H
   replace H : (if t166 ≥ 0 then (some false) else (impl_IsShape.l0 k1 l0 l0 (l0.length : Int) (wrap64 (x7_1 + 1)))) = some r := H
   have A13 := aM A130
   clear A130
   by_cases c14 : t166 ≥ 0
   ·rw [if_pos c14] at H
    have c14b0 : decide (0 ≤ t166) = true := decide_eq_true c14
    clear c14
    obtain rfl := Option.some.inj H
    have p161 : 0 ≤ (x7_1 : Int) := of_decide_eq_true za
    have q161 : x7_1 < (l0.length : Int) := of_decide_eq_true za
    obtain ⟨ad161, e161, hx161_0, hx161_1⟩ := at_T44 HR0.out x7_1 p161 q161
    cases e161
    replace hx161_0 := zk HB.out hx161_0
    replace hx161_1 := zk HB.out hx161_1
    replace p161 := eq_true p161
    replace q161 := eq_true q161
    try go_wp2_with (first | ((with_reducible refine gate_dst (N := 4) rfl ?_); (try (refine gate_guard (by rfl) ?_; dsimp only)); refine zx 4 #[.int .i64 0, .int .i64 0] 44 ?_; intro gb162 hg w15 hbox hb; have n0_ := aM (below_step zb hb); have n1_ := aM (hbox); have n2_ := aM ((ze : w.heap.size ≤ gb162)); have n3_ := aM ((ze : w.heap.size ≤ gb162)); clear HB; have HB := n0_; have BK162 := n1_; have GW162 := n2_; have GE162 := n3_; clear n0_ n1_ n2_ n3_ hb hbox hg; have hcz16_0 : w15.cell? ⟨gb162, 0, none⟩ = some (.int .i64 0) := (blk_cell BK162.out 0).trans rfl; have hcz16_1 : w15.cell? ⟨gb162, 1, none⟩ = some (.int .i64 0) := (blk_cell BK162.out 1).trans rfl; have hfz16_0 := blk_frozen BK162.out 0; have hfz16_1 := blk_frozen BK162.out 1))
    have n0_ : Aside0 (((w15.setCell ⟨gb162, 0, none⟩ (.int .i64 ((rd_T44 l0 x7_1).f0))).setCell ⟨gb162, 1, none⟩ (.int .i64 ((rd_T44 l0 x7_1).f1))).heap[gb162]? = some (.cells #[.int .i64 ((rd_T44 l0 x7_1).f0), .int .i64 ((rd_T44 l0 x7_1).f1)] 44 (0, 0))) := ⟨by (with_reducible repeat (first | refine blk_drewN ?_ _ | refine blk_drew ?_ | refine blk_alloc ?_ _)); refine blk_put (cs := #[.int .i64 ((rd_T44 l0 x7_1).f0), .int .i64 0]) ?_ 1 _ rfl; (with_reducible repeat (first | refine blk_drewN ?_ _ | refine blk_drew ?_ | refine blk_alloc ?_ _)); refine blk_put (cs := #[.int .i64 0, .int .i64 0]) ?_ 0 _ rfl; (with_reducible repeat (first | refine blk_drewN ?_ _ | refine blk_drew ?_ | refine blk_alloc ?_ _)); exact BK162.out⟩
    have n1_ : Aside0 (Below w.heap.size w ((w15.setCell ⟨gb162, 0, none⟩ (.int .i64 ((rd_T44 l0 x7_1).f0))).setCell ⟨gb162, 1, none⟩ (.int .i64 ((rd_T44 l0 x7_1).f1)))) := ⟨zs GE162.out⟩
    (try clear BK162)
    (try clear HB)
    generalize ((w15.setCell ⟨gb162, 0, none⟩ (.int .i64 ((rd_T44 l0 x7_1).f0))).setCell ⟨gb162, 1, none⟩ (.int .i64 ((rd_T44 l0 x7_1).f1))) = w17 at n0_ n1_ ⊢
    have BK162 := n0_
    have HB := n1_
    clear n0_ n1_
    have n0_ := aM (blk_drew BK162.out)
    have n1_ := aM (below_drew1 HB.out)
    clear BK162
    clear HB
    have BK162 := n0_
    have HB := n1_
    clear n0_ n1_
    have p165 : 0 ≤ ((ji10) : Int) := of_decide_eq_true za
    have q165 : (ji10) < (l0.length : Int) := of_decide_eq_true za
    obtain ⟨ad165, e165, hx165_0, hx165_1⟩ := at_T44 HR0.out (ji10) p165 q165
    have hw165_1 := hx165_1
    have hw165_0 := hx165_0
    obtain rfl : ad161 = ad165 := (by injection e165)
    replace hx165_0 := zk HB.out hx165_0
    replace hx165_1 := zk HB.out hx165_1
    replace p165 := eq_true p165
    replace q165 := eq_true q165
    refine start_ (n := 24) (S := fun w' => w'.cell? ⟨gb162, 0, none⟩ = some (.int .i64 ((rd_T44 l0 x7_1).f0)) ∧ w'.cell? ⟨gb162, 1, none⟩ = some (.int .i64 ((rd_T44 l0 x7_1).f1)) ∧ w'.cell? (ad161.add (((ji10)).toNat * 2)) = some (.int .i64 ((rd_T44 l0 (ji10)).f0)) ∧ w'.cell? ⟨(ad161.add (((ji10)).toNat * 2)).block, (ad161.add (((ji10)).toNat * 2)).off + 1, none⟩ = some (.int .i64 ((rd_T44 l0 (ji10)).f1))) (ds := []) zA58 (by kernel_rfl) rfl rfl ⟨(blk_cell BK162.out 0).trans rfl, (blk_cell BK162.out 1).trans rfl, (zk HB.out hw165_0), (zk HB.out hw165_1)⟩ (fun hHeld => ?_); refine with_tabW impl_IsShape.tab4 impl_IsShape.bits4 (fun HT_ HW_ => ?_)
    generalize w17.drew = w18 at BK162 HB hx165_0 hx165_1 hHeld ⊢
    refine zp 0 (some 12) ?_ zA59 rfl rfl (Or.inl ⟨by rfl, ?_⟩) ?_ ?_ ?_
    rotate_left
    ·intro w'
     go_simp
     with_reducible rfl
    rotate_left
    ·simp only [Act.put, xA, xB, xC, i64_w, i32_w]
     rfl
    refine zu 1 (some 13) ?_ zA60 rfl rfl (Or.inl ⟨by rfl, ?_⟩) hHeld ?_ ?_ ?_
    rotate_left
    ·rintro w' ⟨s0, s1, s2, s3⟩
     go_simp
     with_reducible rfl
    rotate_left
    ·simp only [Act.put, xA, xB, xC, i64_w, i32_w]
     rfl
    refine one_ (i := 2) (N := some 14) zA61 rfl rfl (one_of HT_.out (by kernel_rfl)) (by decide) (fun K hK => ?_)
    refine goes_ Try.func55 (by kernel_rfl) rfl #[.int .i64 ((rd_T44 l0 x7_1).f0)] (by rfl) rfl rfl zm ?_
    with_reducible refine (impl_isCoordinate.calls ((rd_T44 l0 x7_1).f0) true _ A5.out).mono ?_
    rintro e w' ⟨rfl, ⟨nd, rfl⟩⟩
    refine ⟨_, rfl, ?_⟩
    refine hK.out _ _ ⟨(blk_cell BK162.out 0).trans rfl, (blk_cell BK162.out 1).trans rfl, (zk HB.out hw165_0), (zk HB.out hw165_1)⟩ (fun hHeld => ?_)
    clear hK K
    refine norm_ (a' := ?_) ?_ ?_
    rotate_left
    ·show Act.put _ (some 14) _ = _
     simp only [Act.put, xA, xB, xC, i64_w, i32_w]
     rfl
    refine zp 3 (some 15) ?_ zA62 rfl rfl (Or.inl ⟨by rfl, ?_⟩) ?_ ?_ ?_
    rotate_left
    ·intro w'
     go_simp
     with_reducible rfl
    rotate_left
    ·simp only [Act.put, xA, xB, xC, i64_w, i32_w]
     rfl
    refine zp 4 (some 16) ?_ zA63 rfl rfl (Or.inl ⟨by rfl, ?_⟩) ?_ ?_ ?_
    rotate_left
    ·intro w'
     go_simp
     with_reducible rfl
    rotate_left
    ·simp only [Act.put, xA, xB, xC, i64_w, i32_w]
     rfl
    refine zp 5 (some 17) ?_ zA64 rfl rfl (Or.inl ⟨by rfl, ?_⟩) ?_ ?_ ?_
    rotate_left
    ·intro w'
     go_simp
     with_reducible rfl
    rotate_left
    ·simp only [Act.put, xA, xB, xC, i64_w, i32_w]
     rfl
    refine zu 6 (some 18) ?_ zA65 rfl rfl (Or.inl ⟨by rfl, ?_⟩) hHeld ?_ ?_ ?_
    rotate_left
    ·rintro w' ⟨s0, s1, s2, s3⟩
     go_simp
     with_reducible rfl
    rotate_left
    ·simp only [Act.put, xA, xB, xC, i64_w, i32_w]
     rfl
    refine one_ (i := 7) (N := some 19) zA66 rfl rfl (one_of HT_.out (by kernel_rfl)) (by decide) (fun K hK => ?_)
    refine goes_ Try.func55 (by kernel_rfl) rfl #[.int .i64 ((rd_T44 l0 x7_1).f1)] (by rfl) rfl rfl zm ?_
    with_reducible refine (impl_isCoordinate.calls ((rd_T44 l0 x7_1).f1) true _ A7.out).mono ?_
    rintro e w' ⟨rfl, ⟨nd, rfl⟩⟩
    refine ⟨_, rfl, ?_⟩
    refine hK.out _ _ ⟨(blk_cell BK162.out 0).trans rfl, (blk_cell BK162.out 1).trans rfl, (zk HB.out hw165_0), (zk HB.out hw165_1)⟩ (fun hHeld => ?_)
    clear hK K
    refine norm_ (a' := ?_) ?_ ?_
    rotate_left
    ·show Act.put _ (some 19) _ = _
     simp only [Act.put, xA, xB, xC, i64_w, i32_w]
     rfl
    refine zp 8 (some 20) ?_ zA67 rfl rfl (Or.inl ⟨by rfl, ?_⟩) ?_ ?_ ?_
    rotate_left
    ·intro w'
     go_simp
     with_reducible rfl
    rotate_left
    ·simp only [Act.put, xA, xB, xC, i64_w, i32_w]
     rfl
    refine zp 9 (some 21) ?_ zA68 rfl rfl (Or.inl ⟨by rfl, ?_⟩) ?_ ?_ ?_
    rotate_left
    ·intro w'
     go_simp
     with_reducible rfl
    rotate_left
    ·simp only [Act.put, xA, xB, xC, i64_w, i32_w]
     rfl
    refine zp 10 (some 22) ?_ zA69 rfl rfl (Or.inl ⟨by rfl, ?_⟩) ?_ ?_ ?_
    rotate_left
    ·intro w'
     go_simp
     with_reducible rfl
    rotate_left
    ·simp only [Act.put, xA, xB, xC, i64_w, i32_w]
     rfl
    refine zp 11 (some 23) ?_ zA70 rfl rfl (Or.inl ⟨by rfl, ?_⟩) ?_ ?_ ?_
    rotate_left
    ·intro w'
     go_simp
     with_reducible rfl
    rotate_left
    ·simp only [Act.put, xA, xB, xC, i64_w, i32_w]
     rfl
    refine zp 12 (some 24) ?_ zA71 rfl rfl (Or.inl ⟨by rfl, ?_⟩) ?_ ?_ ?_
    rotate_left
    ·intro w'
     go_simp
     with_reducible rfl
    rotate_left
    ·simp only [Act.put, xA, xB, xC, i64_w, i32_w]
     rfl
    refine zp 13 (some 25) ?_ zA72 rfl rfl (Or.inl ⟨by rfl, ?_⟩) ?_ ?_ ?_
    rotate_left
    ·intro w'
     go_simp
     with_reducible rfl
    rotate_left
    ·simp only [Act.put, xA, xB, xC, i64_w, i32_w]
     rfl
    refine zp 14 (some 26) ?_ zA73 rfl rfl (Or.inl ⟨by rfl, ?_⟩) ?_ ?_ ?_
    rotate_left
    ·intro w'
     go_simp
     with_reducible rfl
    rotate_left
    ·simp only [Act.put, xA, xB, xC, i64_w, i32_w]
     rfl
    refine zp 15 (some 27) ?_ zA74 rfl rfl (Or.inl ⟨by rfl, ?_⟩) ?_ ?_ ?_
    rotate_left
    ·intro w'
     go_simp
     with_reducible rfl
    rotate_left
    ·simp only [Act.put, xA, xB, xC, i64_w, i32_w]
     rfl
    refine zp 16 (some 28) ?_ zA75 rfl rfl (Or.inl ⟨by rfl, ?_⟩) ?_ ?_ ?_
    rotate_left
    ·intro w'
     go_simp
     with_reducible rfl
    rotate_left
    ·simp only [Act.put, xA, xB, xC, i64_w, i32_w]
     rfl
    refine zp 17 (some 29) ?_ zA76 rfl rfl (Or.inl ⟨by rfl, ?_⟩) ?_ ?_ ?_
    rotate_left
    ·intro w'
     go_simp
     with_reducible rfl
    rotate_left
    ·simp only [Act.put, xA, xB, xC, i64_w, i32_w]
     rfl
    refine zu 18 (some 30) ?_ zA77 rfl rfl (Or.inl ⟨by rfl, ?_⟩) hHeld ?_ ?_ ?_
    rotate_left
    ·rintro w' ⟨s0, s1, s2, s3⟩
     go_simp
     with_reducible rfl
    rotate_left
    ·simp only [Act.put, xA, xB, xC, i64_w, i32_w]
     rfl
    refine zu 19 (some 31) ?_ zA78 rfl rfl (Or.inl ⟨by rfl, ?_⟩) hHeld ?_ ?_ ?_
    rotate_left
    ·rintro w' ⟨s0, s1, s2, s3⟩
     go_simp
     with_reducible rfl
    rotate_left
    ·simp only [Act.put, xA, xB, xC, i64_w, i32_w]
     rfl
    refine one_ (i := 20) (N := some 32) zA79 rfl rfl (one_of HT_.out (by kernel_rfl)) (by decide) (fun K hK => ?_)
    refine goes_ Try.func56 (by kernel_rfl) rfl #[.agg #[.int .i64 ((rd_T44 l0 (ji10)).f0), .int .i64 ((rd_T44 l0 (ji10)).f1)], .agg #[.int .i64 ((rd_T44 l0 x7_1).f0), .int .i64 ((rd_T44 l0 x7_1).f1)]] (by rfl) rfl rfl (by (try simp only [mA, mB, mC]); first | done | (simp only [hji10]; rfl) | rfl | (simp only [lD, lT]; rfl)) ?_
    with_reducible refine (impl_compareCells.calls ((rd_T44 l0 (ji10)).f0) ((rd_T44 l0 (ji10)).f1) ((rd_T44 l0 x7_1).f0) ((rd_T44 l0 x7_1).f1) t166 _ A13.out).mono ?_
    rintro e w19 ⟨rfl, hb⟩
    refine ⟨_, rfl, ?_⟩
    have n0_ := aM (blk_below (g := gb162) (o := .cells #[.int .i64 ((rd_T44 l0 x7_1).f0), .int .i64 ((rd_T44 l0 x7_1).f1)] 44 (0, 0)) (mB_ BK162.out) hb)
    have n1_ := aM (below_step (zs GE162.out) hb)
    clear BK162
    clear HB
    have BK162 := n0_
    have HB := n1_
    clear n0_ n1_
    (try clear hb)
    (try clear hb2)
    (try clear hk)
    (try clear hi)
    refine hK.out _ _ ⟨(blk_cell BK162.out 0).trans rfl, (blk_cell BK162.out 1).trans rfl, (zk HB.out hw165_0), (zk HB.out hw165_1)⟩ (fun hHeld => ?_)
    clear hK K
    refine norm_ (a' := ?_) ?_ ?_
    rotate_left
    ·show Act.put _ (some 32) _ = _
     simp only [Act.put, xA, xB, xC, i64_w, i32_w]
     rfl
    refine zp 21 (some 33) ?_ zA80 rfl rfl (Or.inl ⟨by rfl, ?_⟩) ?_ ?_ ?_
    rotate_left
    ·intro w'
     go_simp
     with_reducible rfl
    rotate_left
    ·simp only [Act.put, xA, xB, xC, i64_w, i32_w]
     rfl
    refine zp 22 (some 34) ?_ zA81 rfl rfl (Or.inl ⟨by rfl, ?_⟩) ?_ ?_ ?_
    rotate_left
    ·intro w'
     go_simp
     with_reducible rfl
    rotate_left
    ·simp only [Act.put, xA, xB, xC, i64_w, i32_w]
     rfl
    refine zp 23 (some 35) ?_ zA82 rfl rfl (Or.inl ⟨by rfl, ?_⟩) ?_ ?_ ?_
    rotate_left
    ·intro w'
     go_simp
     with_reducible rfl
    rotate_left
    ·simp only [Act.put, xA, xB, xC, i64_w, i32_w]
     rfl
    refine done_ (done_of HT_.out (by kernel_rfl)) ?_
    try go_wp2
    go_ret
    exact ⟨by first | rfl | (simp [errW_none, errW_some] <;> rfl) | (simp only [← hji10]; first | rfl | (simp [errW_none, errW_some] <;> rfl)) | (simp [*, errW_none, errW_some] <;> rfl), zs GE162.out⟩
   rw [if_neg c14] at H
   have c14b0 : decide (0 ≤ t166) = false := decide_eq_false c14
   clear c14
   have H' := aM H
   clear H
   have p161 : 0 ≤ (x7_1 : Int) := of_decide_eq_true za
   have q161 : x7_1 < (l0.length : Int) := of_decide_eq_true za
   obtain ⟨ad161, e161, hx161_0, hx161_1⟩ := at_T44 HR0.out x7_1 p161 q161
   cases e161
   replace hx161_0 := zk HB.out hx161_0
   replace hx161_1 := zk HB.out hx161_1
   replace p161 := eq_true p161
   replace q161 := eq_true q161
   try go_wp2_with (first | ((with_reducible refine gate_dst (N := 4) rfl ?_); (try (refine gate_guard (by rfl) ?_; dsimp only)); refine zx 4 #[.int .i64 0, .int .i64 0] 44 ?_; intro gb162 hg w20 hbox hb; have n0_ := aM (below_step zb hb); have n1_ := aM (hbox); have n2_ := aM ((ze : w.heap.size ≤ gb162)); have n3_ := aM ((ze : w.heap.size ≤ gb162)); clear HB; have HB := n0_; have BK162 := n1_; have GW162 := n2_; have GE162 := n3_; clear n0_ n1_ n2_ n3_ hb hbox hg; have hcz21_0 : w20.cell? ⟨gb162, 0, none⟩ = some (.int .i64 0) := (blk_cell BK162.out 0).trans rfl; have hcz21_1 : w20.cell? ⟨gb162, 1, none⟩ = some (.int .i64 0) := (blk_cell BK162.out 1).trans rfl; have hfz21_0 := blk_frozen BK162.out 0; have hfz21_1 := blk_frozen BK162.out 1))
   have n0_ : Aside0 (((w20.setCell ⟨gb162, 0, none⟩ (.int .i64 ((rd_T44 l0 x7_1).f0))).setCell ⟨gb162, 1, none⟩ (.int .i64 ((rd_T44 l0 x7_1).f1))).heap[gb162]? = some (.cells #[.int .i64 ((rd_T44 l0 x7_1).f0), .int .i64 ((rd_T44 l0 x7_1).f1)] 44 (0, 0))) := ⟨by (with_reducible repeat (first | refine blk_drewN ?_ _ | refine blk_drew ?_ | refine blk_alloc ?_ _)); refine blk_put (cs := #[.int .i64 ((rd_T44 l0 x7_1).f0), .int .i64 0]) ?_ 1 _ rfl; (with_reducible repeat (first | refine blk_drewN ?_ _ | refine blk_drew ?_ | refine blk_alloc ?_ _)); refine blk_put (cs := #[.int .i64 0, .int .i64 0]) ?_ 0 _ rfl; (with_reducible repeat (first | refine blk_drewN ?_ _ | refine blk_drew ?_ | refine blk_alloc ?_ _)); exact BK162.out⟩
   have n1_ : Aside0 (Below w.heap.size w ((w20.setCell ⟨gb162, 0, none⟩ (.int .i64 ((rd_T44 l0 x7_1).f0))).setCell ⟨gb162, 1, none⟩ (.int .i64 ((rd_T44 l0 x7_1).f1)))) := ⟨zs GE162.out⟩
   (try clear BK162)
   (try clear HB)
   generalize ((w20.setCell ⟨gb162, 0, none⟩ (.int .i64 ((rd_T44 l0 x7_1).f0))).setCell ⟨gb162, 1, none⟩ (.int .i64 ((rd_T44 l0 x7_1).f1))) = w22 at n0_ n1_ ⊢
   have BK162 := n0_
   have HB := n1_
   clear n0_ n1_
   have n0_ := aM (blk_drew BK162.out)
   have n1_ := aM (below_drew1 HB.out)
   clear BK162
   clear HB
   have BK162 := n0_
   have HB := n1_
   clear n0_ n1_
   have p165 : 0 ≤ ((ji10) : Int) := of_decide_eq_true za
   have q165 : (ji10) < (l0.length : Int) := of_decide_eq_true za
   obtain ⟨ad165, e165, hx165_0, hx165_1⟩ := at_T44 HR0.out (ji10) p165 q165
   have hw165_1 := hx165_1
   have hw165_0 := hx165_0
   obtain rfl : ad161 = ad165 := (by injection e165)
   replace hx165_0 := zk HB.out hx165_0
   replace hx165_1 := zk HB.out hx165_1
   replace p165 := eq_true p165
   replace q165 := eq_true q165
   refine start_ (n := 24) (S := fun w' => w'.cell? ⟨gb162, 0, none⟩ = some (.int .i64 ((rd_T44 l0 x7_1).f0)) ∧ w'.cell? ⟨gb162, 1, none⟩ = some (.int .i64 ((rd_T44 l0 x7_1).f1)) ∧ w'.cell? (ad161.add (((ji10)).toNat * 2)) = some (.int .i64 ((rd_T44 l0 (ji10)).f0)) ∧ w'.cell? ⟨(ad161.add (((ji10)).toNat * 2)).block, (ad161.add (((ji10)).toNat * 2)).off + 1, none⟩ = some (.int .i64 ((rd_T44 l0 (ji10)).f1))) (ds := []) zA58 (by kernel_rfl) rfl rfl ⟨(blk_cell BK162.out 0).trans rfl, (blk_cell BK162.out 1).trans rfl, (zk HB.out hw165_0), (zk HB.out hw165_1)⟩ (fun hHeld => ?_); refine with_tabW impl_IsShape.tab4 impl_IsShape.bits4 (fun HT_ HW_ => ?_)
   generalize w22.drew = w23 at BK162 HB hx165_0 hx165_1 hHeld ⊢
   refine zp 0 (some 12) ?_ zA59 rfl rfl (Or.inl ⟨by rfl, ?_⟩) ?_ ?_ ?_
   rotate_left
   ·intro w'
    go_simp
    with_reducible rfl
   rotate_left
   ·simp only [Act.put, xA, xB, xC, i64_w, i32_w]
    rfl
   refine zu 1 (some 13) ?_ zA60 rfl rfl (Or.inl ⟨by rfl, ?_⟩) hHeld ?_ ?_ ?_
   rotate_left
   ·rintro w' ⟨s0, s1, s2, s3⟩
    go_simp
    with_reducible rfl
   rotate_left
   ·simp only [Act.put, xA, xB, xC, i64_w, i32_w]
    rfl
   refine one_ (i := 2) (N := some 14) zA61 rfl rfl (one_of HT_.out (by kernel_rfl)) (by decide) (fun K hK => ?_)
   refine goes_ Try.func55 (by kernel_rfl) rfl #[.int .i64 ((rd_T44 l0 x7_1).f0)] (by rfl) rfl rfl zm ?_
   with_reducible refine (impl_isCoordinate.calls ((rd_T44 l0 x7_1).f0) true _ A5.out).mono ?_
   rintro e w' ⟨rfl, ⟨nd, rfl⟩⟩
   refine ⟨_, rfl, ?_⟩
   refine hK.out _ _ ⟨(blk_cell BK162.out 0).trans rfl, (blk_cell BK162.out 1).trans rfl, (zk HB.out hw165_0), (zk HB.out hw165_1)⟩ (fun hHeld => ?_)
   clear hK K
   refine norm_ (a' := ?_) ?_ ?_
   rotate_left
   ·show Act.put _ (some 14) _ = _
    simp only [Act.put, xA, xB, xC, i64_w, i32_w]
    rfl
   refine zp 3 (some 15) ?_ zA62 rfl rfl (Or.inl ⟨by rfl, ?_⟩) ?_ ?_ ?_
   rotate_left
   ·intro w'
    go_simp
    with_reducible rfl
   rotate_left
   ·simp only [Act.put, xA, xB, xC, i64_w, i32_w]
    rfl
   refine zp 4 (some 16) ?_ zA63 rfl rfl (Or.inl ⟨by rfl, ?_⟩) ?_ ?_ ?_
   rotate_left
   ·intro w'
    go_simp
    with_reducible rfl
   rotate_left
   ·simp only [Act.put, xA, xB, xC, i64_w, i32_w]
    rfl
   refine zp 5 (some 17) ?_ zA64 rfl rfl (Or.inl ⟨by rfl, ?_⟩) ?_ ?_ ?_
   rotate_left
   ·intro w'
    go_simp
    with_reducible rfl
   rotate_left
   ·simp only [Act.put, xA, xB, xC, i64_w, i32_w]
    rfl
   refine zu 6 (some 18) ?_ zA65 rfl rfl (Or.inl ⟨by rfl, ?_⟩) hHeld ?_ ?_ ?_
   rotate_left
   ·rintro w' ⟨s0, s1, s2, s3⟩
    go_simp
    with_reducible rfl
   rotate_left
   ·simp only [Act.put, xA, xB, xC, i64_w, i32_w]
    rfl
   refine one_ (i := 7) (N := some 19) zA66 rfl rfl (one_of HT_.out (by kernel_rfl)) (by decide) (fun K hK => ?_)
   refine goes_ Try.func55 (by kernel_rfl) rfl #[.int .i64 ((rd_T44 l0 x7_1).f1)] (by rfl) rfl rfl zm ?_
   with_reducible refine (impl_isCoordinate.calls ((rd_T44 l0 x7_1).f1) true _ A7.out).mono ?_
   rintro e w' ⟨rfl, ⟨nd, rfl⟩⟩
   refine ⟨_, rfl, ?_⟩
   refine hK.out _ _ ⟨(blk_cell BK162.out 0).trans rfl, (blk_cell BK162.out 1).trans rfl, (zk HB.out hw165_0), (zk HB.out hw165_1)⟩ (fun hHeld => ?_)
   clear hK K
   refine norm_ (a' := ?_) ?_ ?_
   rotate_left
   ·show Act.put _ (some 19) _ = _
    simp only [Act.put, xA, xB, xC, i64_w, i32_w]
    rfl
   refine zp 8 (some 20) ?_ zA67 rfl rfl (Or.inl ⟨by rfl, ?_⟩) ?_ ?_ ?_
   rotate_left
   ·intro w'
    go_simp
    with_reducible rfl
   rotate_left
   ·simp only [Act.put, xA, xB, xC, i64_w, i32_w]
    rfl
   refine zp 9 (some 21) ?_ zA68 rfl rfl (Or.inl ⟨by rfl, ?_⟩) ?_ ?_ ?_
   rotate_left
   ·intro w'
    go_simp
    with_reducible rfl
   rotate_left
   ·simp only [Act.put, xA, xB, xC, i64_w, i32_w]
    rfl
   refine zp 10 (some 22) ?_ zA69 rfl rfl (Or.inl ⟨by rfl, ?_⟩) ?_ ?_ ?_
   rotate_left
   ·intro w'
    go_simp
    with_reducible rfl
   rotate_left
   ·simp only [Act.put, xA, xB, xC, i64_w, i32_w]
    rfl
   refine zp 11 (some 23) ?_ zA70 rfl rfl (Or.inl ⟨by rfl, ?_⟩) ?_ ?_ ?_
   rotate_left
   ·intro w'
    go_simp
    with_reducible rfl
   rotate_left
   ·simp only [Act.put, xA, xB, xC, i64_w, i32_w]
    rfl
   refine zp 12 (some 24) ?_ zA71 rfl rfl (Or.inl ⟨by rfl, ?_⟩) ?_ ?_ ?_
   rotate_left
   ·intro w'
    go_simp
    with_reducible rfl
   rotate_left
   ·simp only [Act.put, xA, xB, xC, i64_w, i32_w]
    rfl
   refine zp 13 (some 25) ?_ zA72 rfl rfl (Or.inl ⟨by rfl, ?_⟩) ?_ ?_ ?_
   rotate_left
   ·intro w'
    go_simp
    with_reducible rfl
   rotate_left
   ·simp only [Act.put, xA, xB, xC, i64_w, i32_w]
    rfl
   refine zp 14 (some 26) ?_ zA73 rfl rfl (Or.inl ⟨by rfl, ?_⟩) ?_ ?_ ?_
   rotate_left
   ·intro w'
    go_simp
    with_reducible rfl
   rotate_left
   ·simp only [Act.put, xA, xB, xC, i64_w, i32_w]
    rfl
   refine zp 15 (some 27) ?_ zA74 rfl rfl (Or.inl ⟨by rfl, ?_⟩) ?_ ?_ ?_
   rotate_left
   ·intro w'
    go_simp
    with_reducible rfl
   rotate_left
   ·simp only [Act.put, xA, xB, xC, i64_w, i32_w]
    rfl
   refine zp 16 (some 28) ?_ zA75 rfl rfl (Or.inl ⟨by rfl, ?_⟩) ?_ ?_ ?_
   rotate_left
   ·intro w'
    go_simp
    with_reducible rfl
   rotate_left
   ·simp only [Act.put, xA, xB, xC, i64_w, i32_w]
    rfl
   refine zp 17 (some 29) ?_ zA76 rfl rfl (Or.inl ⟨by rfl, ?_⟩) ?_ ?_ ?_
   rotate_left
   ·intro w'
    go_simp
    with_reducible rfl
   rotate_left
   ·simp only [Act.put, xA, xB, xC, i64_w, i32_w]
    rfl
   refine zu 18 (some 30) ?_ zA77 rfl rfl (Or.inl ⟨by rfl, ?_⟩) hHeld ?_ ?_ ?_
   rotate_left
   ·rintro w' ⟨s0, s1, s2, s3⟩
    go_simp
    with_reducible rfl
   rotate_left
   ·simp only [Act.put, xA, xB, xC, i64_w, i32_w]
    rfl
   refine zu 19 (some 31) ?_ zA78 rfl rfl (Or.inl ⟨by rfl, ?_⟩) hHeld ?_ ?_ ?_
   rotate_left
   ·rintro w' ⟨s0, s1, s2, s3⟩
    go_simp
    with_reducible rfl
   rotate_left
   ·simp only [Act.put, xA, xB, xC, i64_w, i32_w]
    rfl
   refine one_ (i := 20) (N := some 32) zA79 rfl rfl (one_of HT_.out (by kernel_rfl)) (by decide) (fun K hK => ?_)
   refine goes_ Try.func56 (by kernel_rfl) rfl #[.agg #[.int .i64 ((rd_T44 l0 (ji10)).f0), .int .i64 ((rd_T44 l0 (ji10)).f1)], .agg #[.int .i64 ((rd_T44 l0 x7_1).f0), .int .i64 ((rd_T44 l0 x7_1).f1)]] (by rfl) rfl rfl (by (try simp only [mA, mB, mC]); first | done | (simp only [hji10]; rfl) | rfl | (simp only [lD, lT]; rfl)) ?_
   with_reducible refine (impl_compareCells.calls ((rd_T44 l0 (ji10)).f0) ((rd_T44 l0 (ji10)).f1) ((rd_T44 l0 x7_1).f0) ((rd_T44 l0 x7_1).f1) t166 _ A13.out).mono ?_
   rintro e w24 ⟨rfl, hb⟩
   refine ⟨_, rfl, ?_⟩
   have n0_ := aM (blk_below (g := gb162) (o := .cells #[.int .i64 ((rd_T44 l0 x7_1).f0), .int .i64 ((rd_T44 l0 x7_1).f1)] 44 (0, 0)) (mB_ BK162.out) hb)
   have n1_ := aM (below_step (zs GE162.out) hb)
   clear BK162
   clear HB
   have BK162 := n0_
   have HB := n1_
   clear n0_ n1_
   (try clear hb)
   (try clear hb2)
   (try clear hk)
   (try clear hi)
   refine hK.out _ _ ⟨(blk_cell BK162.out 0).trans rfl, (blk_cell BK162.out 1).trans rfl, (zk HB.out hw165_0), (zk HB.out hw165_1)⟩ (fun hHeld => ?_)
   clear hK K
   refine norm_ (a' := ?_) ?_ ?_
   rotate_left
   ·show Act.put _ (some 32) _ = _
    simp only [Act.put, xA, xB, xC, i64_w, i32_w]
    rfl
   refine zp 21 (some 33) ?_ zA80 rfl rfl (Or.inl ⟨by rfl, ?_⟩) ?_ ?_ ?_
   rotate_left
   ·intro w'
    go_simp
    with_reducible rfl
   rotate_left
   ·simp only [Act.put, xA, xB, xC, i64_w, i32_w]
    rfl
   refine zp 22 (some 34) ?_ zA81 rfl rfl (Or.inl ⟨by rfl, ?_⟩) ?_ ?_ ?_
   rotate_left
   ·intro w'
    go_simp
    with_reducible rfl
   rotate_left
   ·simp only [Act.put, xA, xB, xC, i64_w, i32_w]
    rfl
   refine zp 23 (some 35) ?_ zA82 rfl rfl (Or.inl ⟨by rfl, ?_⟩) ?_ ?_ ?_
   rotate_left
   ·intro w'
    go_simp
    with_reducible rfl
   rotate_left
   ·simp only [Act.put, xA, xB, xC, i64_w, i32_w]
    rfl
   refine done_ (done_of HT_.out (by kernel_rfl)) ?_
   try go_wp2
   go_roundg k1
   case measure => have := HK1.out; omega
   case rel => exact ⟨(wrap64 (x7_1 + 1)), zr, H', ⟨by have := HK1.out; omega⟩, ⟨zs GE162.out⟩⟩
end Go.Proofs.Ytaecheolnpofeaa.F
end
section
namespace Go.Proofs.Ytaecheolnpofeaa.F
open Go.RowKit Go.Proofs.YtaecheolnpofeaaW.PrintWords Go.Proofs.YtaecheolnpofeaaW.PrintLast Go.Proofs.YtaecheolnpofeaaW.PrintMore
attribute [local go_sem] max2_int min2_int max_two min_two max_three min_three max_four min_four
set_option linter.unusedVariables false
set_option linter.unusedSimpArgs false
mutual
def spec_l06Holes.l0 : Nat → List (S44) → Int → Int → Int → Int → List (S44) → Int → Option ((List (List (S44))))
 | 0, _, _, _, _, _, _, _ => none
 | k + 1, x0, x3, x4, x5, x6, x7, x8 => if x8 ≤ (wrap64 (x4 + x6)) then (spec_l06Holes.l1 k x0 x3 x4 x5 x6 x7 x8 (wrap64 (x3 - 1))) else ((spec_l02Parts.f k x7).bind fun t461 => (spec_l06Holes.l2 k x7 t461 (([] : List (List (S44)))) 1))
def spec_l06Holes.l1 : Nat → List (S44) → Int → Int → Int → Int → List (S44) → Int → Int → Option ((List (List (S44))))
 | 0, _, _, _, _, _, _, _, _ => none
 | k + 1, x0, x3, x4, x5, x6, x7, x8, x9 => if x9 ≤ (wrap64 (x3 + x5)) then ((spec_l02Index.f k x0 x9 x8).bind fun t457 => (if t457 < 0 then (if x7.length < 8796093022208 then (spec_l06Holes.l1 k x0 x3 x4 x5 x6 (x7 ++ [(⟨x9, x8⟩ : S44)]) x8 (wrap64 (x9 + 1))) else (none)) else (spec_l06Holes.l1 k x0 x3 x4 x5 x6 x7 x8 (wrap64 (x9 + 1))))) else (spec_l06Holes.l0 k x0 x3 x4 x5 x6 x7 (wrap64 (x8 + 1)))
def spec_l06Holes.l2 : Nat → List (S44) → List Int → List (List (S44)) → Int → Option ((List (List (S44))))
 | 0, _, _, _, _ => none
 | k + 1, x7, x10, x11, x12 => if x12 < (x7.length : Int) then (if 0 ≤ x12 then (if x12 < (x10.length : Int) then (if (rd x10 x12) = x12 then (spec_l06Holes.l3 k x7 x10 x11 x12 (([] : List (S44))) x12) else (spec_l06Holes.l2 k x7 x10 x11 (wrap64 (x12 + 1)))) else (none)) else (none)) else (some x11)
def spec_l06Holes.l3 : Nat → List (S44) → List Int → List (List (S44)) → Int → List (S44) → Int → Option ((List (List (S44))))
 | 0, _, _, _, _, _, _ => none
 | k + 1, x7, x10, x11, x12, x13, x14 => if x14 < (x7.length : Int) then (if 0 ≤ x14 then (if x14 < (x10.length : Int) then (if (rd x10 x14) = x12 then (if x13.length < 8796093022208 then (spec_l06Holes.l3 k x7 x10 x11 x12 (x13 ++ [(⟨(rd_T44 x7 x14).f0, (rd_T44 x7 x14).f1⟩ : S44)]) (wrap64 (x14 + 1))) else (none)) else (spec_l06Holes.l3 k x7 x10 x11 x12 x13 (wrap64 (x14 + 1)))) else (none)) else (none)) else (if x11.length < 5864062014805 then (spec_l06Holes.l2 k x7 x10 (x11 ++ [x13]) (wrap64 (x12 + 1))) else (none))
end
def spec_l06Holes.f (k : Nat) (l0 : List (S44)) : Option ((List (List (S44)))) := (spec_l02Least.f k l0).bind fun bt450 => ((spec_l04Size.f k l0).bind fun bt452 => (spec_l06Holes.l0 k l0 bt450.1 bt450.2 bt452.1 bt452.2 (([] : List (S44))) (wrap64 (bt450.2 - 1))))
theorem spec_l06Holes.calls (k : Nat) (A0 : Option Addr) (c0 : Nat) (l0 : List (S44)) (r : List (List (S44))) (w : World) (hr0 : Kd.C k44 w A0 l0.length l0) (hc0 : l0.length ≤ c0) (h : spec_l06Holes.f k l0 = some r) :
  Calls Try.prog 44 #[.slice A0 l0.length c0] w fun e w' => ∃ v0_ : Value, e = .returned (v0_) ∧ Kd.S (Kd.slice 44 k44) 26 w' w.heap.size (fun _ => True) v0_ r ∧ Below w.heap.size w w' := by
 have hu44 := Try.underlying44
 have HR0 := aM hr0
 have HC0 := aM hc0
 clear hr0 hc0
 have HB := aM (Below.refl w.heap.size w)
 have H : ((spec_l02Least.f k l0).bind fun bt450 => ((spec_l04Size.f k l0).bind fun bt452 => (spec_l06Holes.l0 k l0 bt450.1 bt450.2 bt452.1 bt452.2 (([] : List (S44))) (wrap64 (bt450.2 - 1))))) = some r := h
 clear h
 replace H := Option.bind_eq_some_iff.mp H
 obtain ⟨⟨t450, t451⟩, A20, H⟩ := H
 replace H : ((spec_l04Size.f k l0).bind fun bt452 => (spec_l06Holes.l0 k l0 t450 t451 bt452.1 bt452.2 (([] : List (S44))) (wrap64 (t451 - 1)))) = some r := H
 have A2 := aM A20
 clear A20
 replace H := Option.bind_eq_some_iff.mp H
 obtain ⟨⟨t452, t453⟩, A30, H⟩ := H
 replace H : (spec_l06Holes.l0 k l0 t450 t451 t452 t453 (([] : List (S44))) (wrap64 (t451 - 1))) = some r := H
 have A3 := aM A30
 clear A30
 obtain ⟨y454, hy454⟩ : ∃ y_ : List (S44), y_ = (([] : List (S44))) := ⟨_, rfl⟩
 replace H : (spec_l06Holes.l0 k l0 t450 t451 t452 t453 y454 (wrap64 (t451 - 1))) = some r := zy H hy454
 have Ny454 := aM hy454
 clear hy454
 have H' := aM H
 clear H
 go_enter Try.func44, Try.ntmps44
 go_wp2_with (first | ((with_reducible refine gate_callee (f := 62) rfl ?_); refine goesL_ (some 17) rfl rfl Try.func62 (by kernel_rfl) rfl #[.slice A0 l0.length c0] rfl zm ?_; (with_reducible refine (spec_l02Least.calls k _ _ l0 t450 t451 _ ?side1 ?side2 A2.out).mono ?_); (case side1 => repeat (first | exact HR0.out | (with_reducible refine Kd.C_alloc ?_ _) | (with_reducible refine Kd.C_drewN ?_ _) | (with_reducible refine Kd.C_drew ?_))); (case side2 => exact HC0.out); rintro e w4 ⟨rfl, hb⟩; refine ⟨_, rfl, ?_⟩; have n0_ := aM (below_step zb hb); clear HB; have HB := n0_; clear n0_; (try clear hb); (try clear hb2); (try clear hk); (try clear hi)) | ((with_reducible refine gate_callee (f := 63) rfl ?_); refine goesL_ (some 22) rfl rfl Try.func63 (by kernel_rfl) rfl #[.slice A0 l0.length c0] rfl zm ?_; (with_reducible refine (spec_l04Size.calls k _ _ l0 t452 t453 _ ?side1 ?side2 A3.out).mono ?_); (case side1 => repeat (first | exact (Kd.C_below HR0.out HB.out) | (with_reducible refine Kd.C_alloc ?_ _) | (with_reducible refine Kd.C_drewN ?_ _) | (with_reducible refine Kd.C_drew ?_))); (case side2 => exact HC0.out); rintro e w5 ⟨rfl, hb⟩; refine ⟨_, rfl, ?_⟩; have n0_ := aM (below_step zb hb); clear HB; have HB := n0_; clear n0_; (try clear hb); (try clear hb2); (try clear hk); (try clear hi)) | ((with_reducible refine gate_dst (N := 25) rfl ?_); refine Kd.R_lit k44 _ 44 ?hg (N := 25) ?hd (xs := ([] : List (S44))) (inner := []) (ok := fun _ => True) (okp := fun _ => True) ?hr ?hp (fun _ hk => hk) trivial (Below.refl _ _) (Nat.le_refl _) (by simp) ?_; (case hd => rfl); (case hg => rfl); (case hr => first | (go_simp; done) | (go_simp; rfl)); (case hp => exact (Reps.none _ _)); intro v455 w6 ho7 hb hg_ hnew_; clear hg_ hnew_; (first | rw [← Ny454.out] at ho7 | (simp only [Int.reduceToNat] at ho7; rw [← Ny454.out] at ho7)); have n0_ := aM (Kd.R_lower ho7 (below_size zb)); have n1_ := aM (below_step zb hb); clear HB; have HO456 := n0_; have HB := n1_; clear n0_ n1_; clear hb ho7))
 go_loopg [7, 8] k (fun kq v7 v8 w' => ∃ (x7_1 : List (S44)) (x8_1 : Int), v8 = .int .i64 x8_1 ∧ Aside0 (spec_l06Holes.l0 kq l0 t450 t451 t452 t453 x7_1 x8_1 = some r) ∧ Aside0 (kq ≤ k) ∧ Aside0 (Kd.R k44 44 w' w.heap.size (fun _ => True) v7 x7_1) ∧ Aside0 (Below w.heap.size w w'))
 case atStart => exact ⟨(y454), (wrap64 (t451 - 1)), zr, H', ⟨Nat.le_refl _⟩, ⟨mR_ HO456.out⟩, ⟨zb⟩⟩
 case round =>
  clear H'
  try clear p2
  try clear c4
  try clear c6
  try clear p6
  obtain ⟨x7_1, x8_1, rfl, HA, HK1, HO_7, HB⟩ := hrel
  cases gk with
  | zero => exact absurd HA.out (by simp [spec_l06Holes.l0])
  | succ k1 =>
   have H := HA.out
   clear HA
   simp only [spec_l06Holes.l0] at H
   by_cases c8 : x8_1 ≤ (wrap64 (t451 + t453))
   ·rw [if_pos c8] at H
    have c8b0 : decide (x8_1 ≤ (wrap64 (t451 + t453))) = true := decide_eq_true c8
    clear c8
    have H' := aM H
    clear H
    go_wp2
    go_loopg [7, 9] k1 (fun kq v7 v9 w' => ∃ (x7_2 : List (S44)) (x9_2 : Int), v9 = .int .i64 x9_2 ∧ Aside0 (spec_l06Holes.l1 kq l0 t450 t451 t452 t453 x7_2 x8_1 x9_2 = some r) ∧ Aside0 (kq ≤ k1) ∧ Aside0 (Kd.R k44 44 w' w.heap.size (fun _ => True) v7 x7_2) ∧ Aside0 (Below w.heap.size w w'))
    case atStart => exact ⟨(x7_1), (wrap64 (t450 - 1)), zr, H', ⟨Nat.le_refl _⟩, ⟨mR_ HO_7.out⟩, ⟨zb⟩⟩
    case round =>
     clear H'
     try clear p2
     try clear c4
     try clear c6
     try clear p6
     try clear c8
     try clear c8b0
     try clear p2
     try clear p6
     obtain ⟨x7_2, x9_2, rfl, HA, HK2, HO_7, HB⟩ := hrel
     cases gk with
     | zero => exact absurd HA.out (by simp [spec_l06Holes.l1])
     | succ k2 =>
      have H := HA.out
      clear HA
      simp only [spec_l06Holes.l1] at H
      by_cases c9 : x9_2 ≤ (wrap64 (t450 + t452))
      rotate_left
      ·rw [if_neg c9] at H
       have c9b0 : decide (x9_2 ≤ (wrap64 (t450 + t452))) = false := decide_eq_false c9
       clear c9
       have H' := aM H
       clear H
       go_wp2
       go_roundg k2
       case measure => have := HK1.out; have := HK2.out; omega
       case rel => exact ⟨(x7_2), (wrap64 (x8_1 + 1)), zr, H', ⟨by have := HK1.out; have := HK2.out; omega⟩, ⟨mR_ HO_7.out⟩, ⟨zb⟩⟩
      rw [if_pos c9] at H
      have c9b0 : decide (x9_2 ≤ (wrap64 (t450 + t452))) = true := decide_eq_true c9
      clear c9
      replace H := Option.bind_eq_some_iff.mp H
      obtain ⟨t457, A100, H⟩ := H
      replace H : (if t457 < 0 then (if x7_2.length < 8796093022208 then (spec_l06Holes.l1 k2 l0 t450 t451 t452 t453 (x7_2 ++ [(⟨x9_2, x8_1⟩ : S44)]) x8_1 (wrap64 (x9_2 + 1))) else (none)) else (spec_l06Holes.l1 k2 l0 t450 t451 t452 t453 x7_2 x8_1 (wrap64 (x9_2 + 1)))) = some r := H
      have A10 := aM A100
      clear A100
      by_cases c11 : t457 < 0
      rotate_left
      ·rw [if_neg c11] at H
       have c11b0 : decide (t457 < 0) = false := decide_eq_false c11
       clear c11
       have H' := aM H
       clear H
       go_wp2_with (first | ((with_reducible refine gate_callee (f := 33) rfl ?_); refine goesL_ (some 48) rfl rfl Try.func33 (by kernel_rfl) rfl #[.slice A0 l0.length c0, .agg #[.int .i64 x9_2, .int .i64 x8_1]] rfl zm ?_; (with_reducible refine (spec_l02Index.calls k2 _ _ l0 x9_2 x8_1 t457 _ ?side1 ?side2 A10.out).mono ?_); (case side1 => repeat (first | exact (Kd.C_below HR0.out HB.out) | (with_reducible refine Kd.C_alloc ?_ _) | (with_reducible refine Kd.C_drewN ?_ _) | (with_reducible refine Kd.C_drew ?_))); (case side2 => exact HC0.out); rintro e w15 ⟨rfl, hb⟩; refine ⟨_, rfl, ?_⟩; have n0_ := aM (Kd.R_below (mR_ HO_7.out) hb); have n1_ := aM (below_step zb hb); clear HO_7 HB; have HO_7 := n0_; have HB := n1_; clear n0_ n1_; (try clear hb); (try clear hb2); (try clear hk); (try clear hi)))
       go_roundg k2
       case measure => have := HK1.out; have := HK2.out; omega
       case rel => exact ⟨(x7_2), (wrap64 (x9_2 + 1)), zr, H', ⟨by have := HK1.out; have := HK2.out; omega⟩, ⟨mR_ HO_7.out⟩, ⟨zb⟩⟩
      rw [if_pos c11] at H
      have c11b0 : decide (t457 < 0) = true := decide_eq_true c11
      clear c11
      by_cases c12 : x7_2.length < 8796093022208
      rotate_left
      ·rw [if_neg c12] at H
       exact absurd H (by simp)
      rw [if_pos c12] at H
      have LMc12 := aM c12
      clear c12
      obtain ⟨y458, hy458⟩ : ∃ y_ : List (S44), y_ = (x7_2 ++ [(⟨x9_2, x8_1⟩ : S44)]) := ⟨_, rfl⟩
      replace H : (spec_l06Holes.l1 k2 l0 t450 t451 t452 t453 y458 x8_1 (wrap64 (x9_2 + 1))) = some r := zy H hy458
      have Ny458 := aM hy458
      clear hy458
      have H' := aM H
      clear H
      go_wp2_with (first | ((with_reducible refine gate_callee (f := 33) rfl ?_); refine goesL_ (some 48) rfl rfl Try.func33 (by kernel_rfl) rfl #[.slice A0 l0.length c0, .agg #[.int .i64 x9_2, .int .i64 x8_1]] rfl zm ?_; (with_reducible refine (spec_l02Index.calls k2 _ _ l0 x9_2 x8_1 t457 _ ?side1 ?side2 A10.out).mono ?_); (case side1 => repeat (first | exact (Kd.C_below HR0.out HB.out) | (with_reducible refine Kd.C_alloc ?_ _) | (with_reducible refine Kd.C_drewN ?_ _) | (with_reducible refine Kd.C_drew ?_))); (case side2 => exact HC0.out); rintro e w13 ⟨rfl, hb⟩; refine ⟨_, rfl, ?_⟩; have n0_ := aM (Kd.R_below (mR_ HO_7.out) hb); have n1_ := aM (below_step zb hb); clear HO_7 HB; have HO_7 := n0_; have HB := n1_; clear n0_ n1_; (try clear hb); (try clear hb2); (try clear hk); (try clear hi)) | ((with_reducible refine gate_builtin (b := .append) (xs := #[.tmp 50, .tmp 54]) rfl ?_); at_builtin; refine Kd.R_append k44 (w0 := w) w.heap.size rfl (.tmp 50) (.tmp 54) 26 44 (.agg #[(.int .i64 0), (.int .i64 0)]) 16 rfl Try.underlying26 info44 rfl (by decide) (by omega) u7 x7_2 (⟨x9_2, x8_1⟩ : S44) [.int .i64 x9_2, .int .i64 x8_1] (fun _ => True) (fun _ => False) rfl rfl ?aP (fun _ hk => hk.elim) ?aF ?aO ?aB ?aS ?aL ?_; (case aP => exact k44_mkM _ _ _ (⟨x9_2, x8_1⟩ : S44)); (case aB => exact zb); (case aF => exact (fun _ _ => trivial)); (case aO => exact (mR_ HO_7.out)); (case aS => exact (below_size zb)); (case aL => have := LMc12.out; omega); intro v459 w14 ho hb hg hat; rw [← Ny458.out] at ho; have n0_ := aM (hb); have n1_ := aM (ho); clear HB HO_7; have HB := n0_; have HO460 := n1_; clear n0_ n1_; clear ho hb hg hat))
      go_roundg k2
      case measure => have := HK1.out; have := HK2.out; omega
      case rel => exact ⟨(y458), (wrap64 (x9_2 + 1)), zr, H', ⟨by have := HK1.out; have := HK2.out; omega⟩, ⟨mR_ HO460.out⟩, ⟨zb⟩⟩
   rw [if_neg c8] at H
   have c8b0 : decide (x8_1 ≤ (wrap64 (t451 + t453))) = false := decide_eq_false c8
   clear c8
   replace H := Option.bind_eq_some_iff.mp H
   obtain ⟨t461, A160, H⟩ := H
   replace H : (spec_l06Holes.l2 k1 x7_1 t461 (([] : List (List (S44)))) 1) = some r := H
   have A16 := aM A160
   clear A160
   obtain ⟨y464, hy464⟩ : ∃ y_ : List (List (S44)), y_ = (([] : List (List (S44)))) := ⟨_, rfl⟩
   replace H : (spec_l06Holes.l2 k1 x7_1 t461 y464 1) = some r := zy H hy464
   have Ny464 := aM hy464
   clear hy464
   have H' := aM H
   clear H
   obtain ⟨Ao17, co17, eo17⟩ := Kd.R_slice HO_7.out
   subst eo17
   go_wp2_with (first | ((with_reducible refine gate_callee (f := 64) rfl ?_); refine goesL_ (some 57) rfl rfl Try.func64 (by kernel_rfl) rfl #[.slice Ao17 x7_1.length co17] rfl zm ?_; (with_reducible refine (spec_l02Parts.calls k1 _ _ x7_1 t461 _ ?side1 ?side2 A16.out).mono ?_); (case side1 => exact zc HO_7.out); (case side2 => exact (Kd.R_reads' HO_7.out).2.1); rintro e w18 ⟨v462, rfl, ho0, hb⟩; refine ⟨_, rfl, ?_⟩; have n0_ := aM (Kd.R_below (mR_ HO_7.out) hb); have n1_ := aM (Kd.R_lower ho0 (below_size zb)); have n2_ := aM (below_step zb hb); clear HO_7 HB; have HO_7 := n0_; have HO463 := n1_; have HB := n2_; clear n0_ n1_ n2_; (try clear hb); (try clear hb2); (try clear hk); (try clear hi); (try clear ho0)) | ((with_reducible refine gate_dst (N := 58) rfl ?_); refine Kd.S_lit (Kd.slice 44 k44) _ 26 ?hg (N := 58) ?hd (xs := ([] : List (List (S44)))) (inner := []) (ok := fun _ => True) (okp := fun _ => True) ?hr ?hp (fun _ hk => hk) trivial (Below.refl _ _) (Nat.le_refl _) (by simp) ?_; (case hd => rfl); (case hg => rfl); (case hr => first | (go_simp; done) | (go_simp; rfl)); (case hp => exact (Reps.none _ _)); intro v465 w19 ho20 hb hg_ hnew_; clear hg_ hnew_; (first | rw [← Ny464.out] at ho20 | (simp only [Int.reduceToNat] at ho20; rw [← Ny464.out] at ho20)); have n0_ := aM (Kd.R_below (mR_ HO_7.out) hb); have n1_ := aM (Kd.R_below (mR_ HO463.out) hb); have n2_ := aM (Kd.S_lower (Kd.S_new' ho20 (Kd.R_lt (mR_ HO_7.out))) (below_size zb)); have n3_ := aM (below_step zb hb); clear HO_7 HO463 HB; have HO_7 := n0_; have HO463 := n1_; have HO466 := n2_; have HB := n3_; clear n0_ n1_ n2_ n3_; clear hb ho20))
   go_loopg [11, 12] k1 (fun kq v11 v12 w' => ∃ (x11_2 : List (List (S44))) (x12_2 : Int), v12 = .int .i64 x12_2 ∧ Aside0 (spec_l06Holes.l2 kq x7_1 t461 x11_2 x12_2 = some r) ∧ Aside0 (kq ≤ k1) ∧ Aside0 (Kd.R k44 44 w' w.heap.size (fun _ => True) (.slice Ao17 x7_1.length co17) x7_1) ∧ Aside0 (Kd.R (Kd.int .i64) 2 w' w.heap.size (fun _ => True) v462 t461) ∧ Aside0 (Kd.S (Kd.slice 44 k44) 26 w' w.heap.size (fun k_ => some k_ ≠ ((.slice Ao17 x7_1.length co17) : Value).ownBlock) v11 x11_2) ∧ Aside0 (Below w.heap.size w w'))
   case atStart => exact ⟨(y464), (1), zr, H', ⟨Nat.le_refl _⟩, ⟨mR_ HO_7.out⟩, ⟨mR_ HO463.out⟩, ⟨zd3 HO466.out⟩, ⟨zb⟩⟩
   case round =>
    clear H'
    try clear c1
    try clear p2
    try clear c3
    try clear c4
    try clear c6
    try clear p6
    try clear c8
    try clear c8b0
    try clear c9
    try clear c9b0
    try clear c11
    try clear c11b0
    try clear c12
    try clear p2
    try clear p6
    obtain ⟨x11_2, x12_2, rfl, HA, HK2, HO_7, HO_10, HO_11, HB⟩ := hrel
    cases gk with
    | zero => exact absurd HA.out (by simp [spec_l06Holes.l2])
    | succ k2 =>
     have H := HA.out
     clear HA
     simp only [spec_l06Holes.l2] at H
     by_cases c21 : x12_2 < (x7_1.length : Int)
     rotate_left
     ·rw [if_neg c21] at H
      have c21b0 : decide (x12_2 < (x7_1.length : Int)) = false := decide_eq_false c21
      clear c21
      obtain rfl := Option.some.inj H
      go_wp2
      go_ret
      exact ⟨_, zw, zd4 HO_11.out, zb⟩
     rw [if_pos c21] at H
     have c21b0 : decide (x12_2 < (x7_1.length : Int)) = true := decide_eq_true c21
     clear c21
     by_cases c22 : 0 ≤ x12_2
     rotate_left
     ·rw [if_neg c22] at H
      exact absurd H (by simp)
     rw [if_pos c22] at H
     have c22b0 : decide (0 ≤ x12_2) = true := decide_eq_true c22
     clear c22
     by_cases c23 : x12_2 < (t461.length : Int)
     rotate_left
     ·rw [if_neg c23] at H
      exact absurd H (by simp)
     rw [if_pos c23] at H
     have c23b0 : decide (x12_2 < (t461.length : Int)) = true := decide_eq_true c23
     clear c23
     by_cases c24 : (rd t461 x12_2) = x12_2
     rotate_left
     ·rw [if_neg c24] at H
      have c24b0 : ((rd t461 x12_2) == x12_2) = false := beq_eq_false_iff_ne.mpr c24
      have c24b1 : ((rd t461 x12_2) != x12_2) = true := bne_iff_ne.mpr c24
      have H' := aM H
      clear H
      obtain ⟨Ao37, co37, eo37⟩ := Kd.R_slice HO_10.out
      subst eo37
      have p467 : 0 ≤ (x12_2 : Int) := of_decide_eq_true za
      have q467 : x12_2 < (t461.length : Int) := of_decide_eq_true za
      obtain ⟨ad467, e467, hx467_0⟩ := Kd.at_int (Kd.R_reads' HO_10.out).2.2 x12_2 p467 q467
      cases e467
      replace p467 := eq_true p467
      replace q467 := eq_true q467
      go_wp2
      go_roundg k2
      case measure => have := HK1.out; have := HK2.out; omega
      case rel => exact ⟨(x11_2), (wrap64 (x12_2 + 1)), zr, H', ⟨by have := HK1.out; have := HK2.out; omega⟩, ⟨mR_ HO_7.out⟩, ⟨mR_ HO_10.out⟩, ⟨mS_ HO_11.out⟩, ⟨zb⟩⟩
     rw [if_pos c24] at H
     have c24b0 : ((rd t461 x12_2) == x12_2) = true := beq_iff_eq.mpr c24
     have c24b1 : ((rd t461 x12_2) != x12_2) = false := bne_eq_false_iff_eq.mpr c24
     clear c24
     obtain ⟨y468, hy468⟩ : ∃ y_ : List (S44), y_ = (([] : List (S44))) := ⟨_, rfl⟩
     replace H : (spec_l06Holes.l3 k2 x7_1 t461 x11_2 x12_2 y468 x12_2) = some r := zy H hy468
     have Ny468 := aM hy468
     clear hy468
     have H' := aM H
     clear H
     obtain ⟨Ao25, co25, eo25⟩ := Kd.R_slice HO_10.out
     subst eo25
     have p467 : 0 ≤ (x12_2 : Int) := of_decide_eq_true za
     have q467 : x12_2 < (t461.length : Int) := of_decide_eq_true za
     obtain ⟨ad467, e467, hx467_0⟩ := Kd.at_int (Kd.R_reads' HO_10.out).2.2 x12_2 p467 q467
     cases e467
     replace p467 := eq_true p467
     replace q467 := eq_true q467
     go_wp2_with (first | ((with_reducible refine gate_dst (N := 71) rfl ?_); refine Kd.R_lit k44 _ 44 ?hg (N := 71) ?hd (xs := ([] : List (S44))) (inner := []) (ok := fun _ => True) (okp := fun _ => True) ?hr ?hp (fun _ hk => hk) trivial (Below.refl _ _) (Nat.le_refl _) (by simp) ?_; (case hd => rfl); (case hg => rfl); (case hr => first | (go_simp; done) | (go_simp; rfl)); (case hp => exact (Reps.none _ _)); intro v469 w26 ho27 hb hg_ hnew_; clear hg_ hnew_; (first | rw [← Ny468.out] at ho27 | (simp only [Int.reduceToNat] at ho27; rw [← Ny468.out] at ho27)); have n0_ := aM (Kd.R_elder' (mR_ HO_7.out) (Kd.R_base ho27) hb); have n1_ := aM (Kd.R_below (mR_ HO_10.out) hb); have n2_ := aM (Kd.S_elder' (mS_ HO_11.out) (Kd.R_base ho27) hb); have n3_ := aM (Kd.R_lower (Kd.R_new' ho27 (Kd.R_lt (mR_ HO_7.out))) (below_size zb)); have n4_ := aM (below_step zb hb); clear HO_7 HO_10 HO_11 HB; have HO_7 := n0_; have HO_10 := n1_; have HO_11 := n2_; have HO470 := n3_; have HB := n4_; clear n0_ n1_ n2_ n3_ n4_; clear hb ho27))
     go_loopg [13, 14] k2 (fun kq v13 v14 w' => ∃ (x13_3 : List (S44)) (x14_3 : Int), v14 = .int .i64 x14_3 ∧ Aside0 (spec_l06Holes.l3 kq x7_1 t461 x11_2 x12_2 x13_3 x14_3 = some r) ∧ Aside0 (kq ≤ k2) ∧ Aside0 (Kd.R k44 44 w' w.heap.size (fun k_ => some k_ ≠ (v13 : Value).ownBlock) (.slice Ao17 x7_1.length co17) x7_1) ∧ Aside0 (Kd.R (Kd.int .i64) 2 w' w.heap.size (fun _ => True) (.slice (some ad467) t461.length co25) t461) ∧ Aside0 (Kd.S (Kd.slice 44 k44) 26 w' w.heap.size (fun k_ => some k_ ≠ ((.slice Ao17 x7_1.length co17) : Value).ownBlock ∧ some k_ ≠ (v13 : Value).ownBlock) u11 x11_2) ∧ Aside0 (Kd.R k44 44 w' w.heap.size (fun k_ => some k_ ≠ ((.slice Ao17 x7_1.length co17) : Value).ownBlock) v13 x13_3) ∧ Aside0 (Below w.heap.size w w'))
     case atStart => exact ⟨(y468), (x12_2), zr, H', ⟨Nat.le_refl _⟩, ⟨zd1 HO_7.out⟩, ⟨mR_ HO_10.out⟩, ⟨mS_ HO_11.out⟩, ⟨zd1 HO470.out⟩, ⟨zb⟩⟩
     case round =>
      clear H'
      try clear c1
      try clear c2
      try clear p2
      try clear c3
      try clear c4
      try clear p4
      try clear q4
      try clear hx4
      try clear c6
      try clear p6
      try clear c8
      try clear c8b0
      try clear c9
      try clear c9b0
      try clear c11
      try clear c11b0
      try clear c12
      try clear c21
      try clear c21b0
      try clear c22
      try clear c22b0
      try clear c23
      try clear c23b0
      try clear c24
      try clear c24b0
      try clear c24b1
      try clear hx467_0
      try clear p2
      try clear p467
      try clear p6
      try clear q467
      obtain ⟨x13_3, x14_3, rfl, HA, HK3, HO_7, HO_10, HO_11, HO_13, HB⟩ := hrel
      cases gk with
      | zero => exact absurd HA.out (by simp [spec_l06Holes.l3])
      | succ k3 =>
       have H := HA.out
       clear HA
       simp only [spec_l06Holes.l3] at H
       by_cases c28 : x14_3 < (x7_1.length : Int)
       rotate_left
       ·rw [if_neg c28] at H
        have c28b0 : decide (x14_3 < (x7_1.length : Int)) = false := decide_eq_false c28
        clear c28
        by_cases c34 : x11_2.length < 5864062014805
        rotate_left
        ·rw [if_neg c34] at H
         exact absurd H (by simp)
        rw [if_pos c34] at H
        have LMc34 := aM c34
        clear c34
        obtain ⟨y476, hy476⟩ : ∃ y_ : List (List (S44)), y_ = (x11_2 ++ [x13_3]) := ⟨_, rfl⟩
        replace H : (spec_l06Holes.l2 k3 x7_1 t461 y476 (wrap64 (x12_2 + 1))) = some r := zy H hy476
        have Ny476 := aM hy476
        clear hy476
        have H' := aM H
        clear H
        obtain ⟨Ao36, co36, eo36⟩ := Kd.R_slice HO_13.out
        subst eo36
        go_wp2_with (first | ((with_reducible refine gate_builtin (b := .append) (xs := #[.tmp 92, .tmp 94]) rfl ?_); at_builtin; refine Kd.S_append (Kd.slice 44 k44) (w0 := w) w.heap.size rfl (.tmp 92) (.tmp 94) 58 26 (.slice none 0 0) 24 rfl Try.underlying58 info26 rfl (by decide) (by omega) u11 x11_2 x13_3 [.slice Ao36 x13_3.length co36] (fun k_ => some k_ ≠ (.slice Ao17 x7_1.length co17 : Value).ownBlock) (fun k_ => some k_ = (.slice Ao36 x13_3.length co36 : Value).ownBlock) rfl rfl ?aP (fun k_ hk_ => ((Kd.R_mono (ok' := fun k_ => ((fun k_ => some k_ ≠ (.slice Ao17 x7_1.length co17 : Value).ownBlock)) k_ ∧ some k_ ≠ (u11 : Value).ownBlock) (Kd.R_apart' (HO_13.out) (Kd.S_typed HO_11.out) (by decide)) (fun k_ hk => ⟨hk.1, hk.2⟩))).1 k_ hk_.symm) ?aF ?aO ?aB ?aS ?aL ?_; (case aP => exact Kd.M_row (Kd.R_mono (Kd.R_tight rfl (Kd.R_mono (ok' := fun k_ => ((fun k_ => some k_ ≠ (.slice Ao17 x7_1.length co17 : Value).ownBlock)) k_ ∧ some k_ ≠ (u11 : Value).ownBlock) (Kd.R_apart' (HO_13.out) (Kd.S_typed HO_11.out) (by decide)) (fun k_ hk => ⟨hk.1, hk.2⟩))) (fun _ h_ => h_))); (case aB => exact zb); (case aF => exact (fun k_ hk => Kd.fresh' (Kd.R_lt (mR_ HO_7.out)) k_ hk)); (case aO => exact (by (with_reducible repeat (first | apply Kd.S_alloc | apply Kd.S_drewN | apply Kd.S_drew)); exact Kd.S_mono HO_11.out (fun k_ hk => ⟨hk.1, fun e_ => hk.2 e_⟩))); (case aS => exact (below_size zb)); (case aL => have := LMc34.out; omega); intro v477 w35 ho hb hg hat; rw [← Ny476.out] at ho; have n0_ := aM (Kd.R_over' (mR_ HO_7.out) (Kd.S_typed (mS_ HO_11.out)) (by decide) hg); have n1_ := aM (Kd.R_over' (mR_ HO_10.out) (Kd.S_typed (mS_ HO_11.out)) (by decide) hg); have n2_ := aM (hb); have n3_ := aM (ho); clear HO_7 HO_10 HB HO_11 HO_13; have HO_7 := n0_; have HO_10 := n1_; have HB := n2_; have HO478 := n3_; clear n0_ n1_ n2_ n3_; clear ho hb hg hat))
        go_roundg k3
        case measure => have := HK1.out; have := HK2.out; have := HK3.out; omega
        case rel => exact ⟨(y476), (wrap64 (x12_2 + 1)), zr, H', ⟨by have := HK1.out; have := HK2.out; have := HK3.out; omega⟩, ⟨zd0 HO_7.out⟩, ⟨mR_ HO_10.out⟩, ⟨mS_ HO478.out⟩, ⟨zb⟩⟩
       rw [if_pos c28] at H
       have c28b0 : decide (x14_3 < (x7_1.length : Int)) = true := decide_eq_true c28
       clear c28
       by_cases c29 : 0 ≤ x14_3
       rotate_left
       ·rw [if_neg c29] at H
        exact absurd H (by simp)
       rw [if_pos c29] at H
       have c29b0 : decide (0 ≤ x14_3) = true := decide_eq_true c29
       clear c29
       by_cases c30 : x14_3 < (t461.length : Int)
       rotate_left
       ·rw [if_neg c30] at H
        exact absurd H (by simp)
       rw [if_pos c30] at H
       have c30b0 : decide (x14_3 < (t461.length : Int)) = true := decide_eq_true c30
       clear c30
       by_cases c31 : (rd t461 x14_3) = x12_2
       rotate_left
       ·rw [if_neg c31] at H
        have c31b0 : ((rd t461 x14_3) == x12_2) = false := beq_eq_false_iff_ne.mpr c31
        have c31b1 : ((rd t461 x14_3) != x12_2) = true := bne_iff_ne.mpr c31
        have H' := aM H
        clear H
        have p471 : 0 ≤ (x14_3 : Int) := of_decide_eq_true za
        have q471 : x14_3 < (t461.length : Int) := of_decide_eq_true za
        obtain ⟨ad471, e471, hx471_0⟩ := Kd.at_int (Kd.R_reads' HO_10.out).2.2 x14_3 p471 q471
        obtain rfl : ad467 = ad471 := (by injection e471)
        replace p471 := eq_true p471
        replace q471 := eq_true q471
        go_wp2
        go_roundg k3
        case measure => have := HK1.out; have := HK2.out; have := HK3.out; omega
        case rel => exact ⟨(x13_3), (wrap64 (x14_3 + 1)), zr, H', ⟨by have := HK1.out; have := HK2.out; have := HK3.out; omega⟩, ⟨mR_ HO_7.out⟩, ⟨mR_ HO_10.out⟩, ⟨mS_ HO_11.out⟩, ⟨mR_ HO_13.out⟩, ⟨zb⟩⟩
       rw [if_pos c31] at H
       have c31b0 : ((rd t461 x14_3) == x12_2) = true := beq_iff_eq.mpr c31
       have c31b1 : ((rd t461 x14_3) != x12_2) = false := bne_eq_false_iff_eq.mpr c31
       clear c31
       by_cases c32 : x13_3.length < 8796093022208
       rotate_left
       ·rw [if_neg c32] at H
        exact absurd H (by simp)
       rw [if_pos c32] at H
       have LMc32 := aM c32
       clear c32
       obtain ⟨y473, hy473⟩ : ∃ y_ : List (S44), y_ = (x13_3 ++ [(⟨(rd_T44 x7_1 x14_3).f0, (rd_T44 x7_1 x14_3).f1⟩ : S44)]) := ⟨_, rfl⟩
       replace H : (spec_l06Holes.l3 k3 x7_1 t461 x11_2 x12_2 y473 (wrap64 (x14_3 + 1))) = some r := zy H hy473
       have Ny473 := aM hy473
       clear hy473
       have H' := aM H
       clear H
       have p471 : 0 ≤ (x14_3 : Int) := of_decide_eq_true za
       have q471 : x14_3 < (t461.length : Int) := of_decide_eq_true za
       obtain ⟨ad471, e471, hx471_0⟩ := Kd.at_int (Kd.R_reads' HO_10.out).2.2 x14_3 p471 q471
       obtain rfl : ad467 = ad471 := (by injection e471)
       replace p471 := eq_true p471
       replace q471 := eq_true q471
       have p472 : 0 ≤ (x14_3 : Int) := of_decide_eq_true za
       have q472 : x14_3 < (x7_1.length : Int) := of_decide_eq_true za
       obtain ⟨ad472, e472, hx472_0, hx472_1⟩ := at_T44 (Kd.R_reads' HO_7.out).2.2 x14_3 p472 q472
       cases e472
       replace p472 := eq_true p472
       replace q472 := eq_true q472
       go_wp2_with (first | ((with_reducible refine gate_builtin (b := .append) (xs := #[.tmp 85, .tmp 90]) rfl ?_); at_builtin; refine Kd.R_append k44 (w0 := w) w.heap.size rfl (.tmp 85) (.tmp 90) 26 44 (.agg #[(.int .i64 0), (.int .i64 0)]) 16 rfl Try.underlying26 info44 rfl (by decide) (by omega) u13 x13_3 (⟨(rd_T44 x7_1 x14_3).f0, (rd_T44 x7_1 x14_3).f1⟩ : S44) [.int .i64 ((rd_T44 x7_1 x14_3).f0), .int .i64 ((rd_T44 x7_1 x14_3).f1)] (fun k_ => some k_ ≠ (.slice (some ad472) x7_1.length co17 : Value).ownBlock) (fun _ => False) rfl rfl ?aP (fun _ hk => hk.elim) ?aF ?aO ?aB ?aS ?aL ?_; (case aP => exact k44_mkM _ _ _ (⟨(rd_T44 x7_1 x14_3).f0, (rd_T44 x7_1 x14_3).f1⟩ : S44)); (case aB => exact zb); (case aF => exact (fun k_ hk => Kd.fresh' (Kd.R_lt (mR_ HO_7.out)) k_ hk)); (case aO => exact (mR_ HO_13.out)); (case aS => exact (below_size zb)); (case aL => have := LMc32.out; omega); intro v474 w33 ho hb hg hat; rw [← Ny473.out] at ho; have n0_ := aM (Kd.R_after (ok := (fun _ => True)) (zd2 HO_7.out) hg hat); have n1_ := aM (Kd.R_over' (mR_ HO_10.out) (Kd.R_typed (mR_ HO_13.out)) (by decide) hg); have n2_ := aM (Kd.S_after (ok := (fun k_ => some k_ ≠ (.slice (some ad472) x7_1.length co17 : Value).ownBlock)) (mS_ HO_11.out) hg hat); have n3_ := aM (hb); have n4_ := aM (ho); clear HO_7 HO_10 HO_11 HB HO_13; have HO_7 := n0_; have HO_10 := n1_; have HO_11 := n2_; have HB := n3_; have HO475 := n4_; clear n0_ n1_ n2_ n3_ n4_; clear ho hb hg hat))
       go_roundg k3
       case measure => have := HK1.out; have := HK2.out; have := HK3.out; omega
       case rel => exact ⟨(y473), (wrap64 (x14_3 + 1)), zr, H', ⟨by have := HK1.out; have := HK2.out; have := HK3.out; omega⟩, ⟨zd1 HO_7.out⟩, ⟨mR_ HO_10.out⟩, ⟨mS_ HO_11.out⟩, ⟨mR_ HO475.out⟩, ⟨zb⟩⟩
def impl_corner.l0 : Nat → List (S44) → Int → Int → Int → Int → Option (Int × Int)
 | 0, _, _, _, _, _ => none
 | k + 1, x9, x10, x11, x493000, x493001 => if x11 < x10 then (if 0 ≤ x11 then (if x11 < (x9.length : Int) then (impl_corner.l0 k x9 x10 (wrap64 (x11 + 1)) (mn x493000 ((rd_T44 x9 x11).f0)) (mn x493001 ((rd_T44 x9 x11).f1))) else (none)) else (none)) else (some (x493000, x493001))
def impl_corner.f (k : Nat) (l0 : List (S44)) : Option (Int × Int) := if 0 < (l0.length : Int) then (impl_corner.l0 k l0 (l0.length : Int) 0 ((rd_T44 l0 0).f0) ((rd_T44 l0 0).f1)) else (none)
end Go.Proofs.Ytaecheolnpofeaa.F
end
