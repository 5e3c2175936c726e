/- The row of FnSolids, with what it needs: text 7 of 13. -/
import Derived.Test.YtonldmalaajkgaaKSO5
set_option maxHeartbeats 8000000
set_option maxRecDepth 100000
section
namespace Go.Proofs.Ytonldmalaajkgaa.F
open Go.RowKit Go.Proofs.YtonldmalaajkgaaW.PrintWords Go.Proofs.YtonldmalaajkgaaW.PrintLast Go.Proofs.YtonldmalaajkgaaW.PrintMore
attribute [local go_sem] max2_int min2_int max_two min_two max_three min_three max_four min_four
set_option linter.unusedVariables false
set_option linter.unusedSimpArgs false
def spec_DrawCubeForm.f (k : Nat) (l0 : List Int) : Option ((List (S63)) × Int) := (spec_l01From.f k l0).bind fun bt545 => ((spec_l09Draw.f k bt545.1 bt545.2.1 bt545.2.2).bind fun bt549 => ((spec_l01Next.f bt545.1 bt549.2.1 bt549.2.2 16).bind fun bt554 => (if bt554.1 = 0 then ((some (([(-1), 48] : List Int) : List Int)).bind fun y557 => ((spec_l01Next.f bt545.1 bt554.2.1 bt554.2.2 2).bind fun bt560 => (if 0 ≤ bt560.1 then (if bt560.1 < (y557.length : Int) then (some (bt549.1, rd y557 bt560.1)) else (none)) else (none)))) else ((spec_l01Next.f bt545.1 bt554.2.1 bt554.2.2 48).bind fun bt564 => (some (bt549.1, bt564.1))))))
def spec_DrawCubeForm.T4 : Bool × List (List Nat × List Nat) := (true, [([], []), ([], []), ([], []), ([2], [2]), ([1, 3], [1, 3]), ([4], [4]), ([0, 3, 0], [0]), ([5, 6, 0, 1, 2, 3, 4, 5, 6], [5])])
def spec_DrawCubeForm.B4 : List Nat := [0, 0, 0, 4, 14, 30, 13, 127]
theorem spec_DrawCubeForm.tab4 : rtab .any (opsOf Try.f16 4) = spec_DrawCubeForm.T4 := by kernel_rfl
theorem spec_DrawCubeForm.bits4 : waitsOk spec_DrawCubeForm.T4.2 spec_DrawCubeForm.B4 = true := by kernel_rfl
theorem spec_DrawCubeForm.calls (k : Nat) (A0 : Option Addr) (c0 : Nat) (l0 : List Int) (r1 : List (S63)) (r2 : Int) (w : World) (hr0 : Kd.C (Kd.int .u8) w A0 l0.length l0) (hc0 : l0.length ≤ c0) (h : spec_DrawCubeForm.f k l0 = some (r1, r2)) :
  Calls Try.prog 16 #[.slice A0 l0.length c0] w fun e w' => ∃ v0_ : Value, e = .returned (.tuple #[v0_, .int .i64 r2]) ∧ Kd.R k63 63 w' w.heap.size (fun _ => True) v0_ r1 ∧ Below w.heap.size w w' := by
 have HR0 := aM hr0
 have HC0 := aM hc0
 clear hr0 hc0
 have HB := aM (Below.refl w.heap.size w)
 have H : ((spec_l01From.f k l0).bind fun bt545 => ((spec_l09Draw.f k bt545.1 bt545.2.1 bt545.2.2).bind fun bt549 => ((spec_l01Next.f bt545.1 bt549.2.1 bt549.2.2 16).bind fun bt554 => (if bt554.1 = 0 then ((some (([(-1), 48] : List Int) : List Int)).bind fun y557 => ((spec_l01Next.f bt545.1 bt554.2.1 bt554.2.2 2).bind fun bt560 => (if 0 ≤ bt560.1 then (if bt560.1 < (y557.length : Int) then (some (bt549.1, rd y557 bt560.1)) else (none)) else (none)))) else ((spec_l01Next.f bt545.1 bt554.2.1 bt554.2.2 48).bind fun bt564 => (some (bt549.1, bt564.1))))))) = some (r1, r2) := h
 clear h
 replace H := Option.bind_eq_some_iff.mp H
 obtain ⟨⟨t545, t546, t547⟩, A20, H⟩ := H
 replace H : ((spec_l09Draw.f k t545 t546 t547).bind fun bt549 => ((spec_l01Next.f t545 bt549.2.1 bt549.2.2 16).bind fun bt554 => (if bt554.1 = 0 then ((some (([(-1), 48] : List Int) : List Int)).bind fun y557 => ((spec_l01Next.f t545 bt554.2.1 bt554.2.2 2).bind fun bt560 => (if 0 ≤ bt560.1 then (if bt560.1 < (y557.length : Int) then (some (bt549.1, rd y557 bt560.1)) else (none)) else (none)))) else ((spec_l01Next.f t545 bt554.2.1 bt554.2.2 48).bind fun bt564 => (some (bt549.1, bt564.1)))))) = some (r1, r2) := H
 have A2 := aM A20
 clear A20
 replace H := Option.bind_eq_some_iff.mp H
 obtain ⟨⟨t549, t552, t553⟩, A30, H⟩ := H
 replace H : ((spec_l01Next.f t545 t552 t553 16).bind fun bt554 => (if bt554.1 = 0 then ((some (([(-1), 48] : List Int) : List Int)).bind fun y557 => ((spec_l01Next.f t545 bt554.2.1 bt554.2.2 2).bind fun bt560 => (if 0 ≤ bt560.1 then (if bt560.1 < (y557.length : Int) then (some (t549, rd y557 bt560.1)) else (none)) else (none)))) else ((spec_l01Next.f t545 bt554.2.1 bt554.2.2 48).bind fun bt564 => (some (t549, bt564.1))))) = some (r1, r2) := H
 have A3 := aM A30
 clear A30
 replace H := Option.bind_eq_some_iff.mp H
 obtain ⟨⟨t554, t555, t556⟩, A40, H⟩ := H
 replace H : (if t554 = 0 then ((some (([(-1), 48] : List Int) : List Int)).bind fun y557 => ((spec_l01Next.f t545 t555 t556 2).bind fun bt560 => (if 0 ≤ bt560.1 then (if bt560.1 < (y557.length : Int) then (some (t549, rd y557 bt560.1)) else (none)) else (none)))) else ((spec_l01Next.f t545 t555 t556 48).bind fun bt564 => (some (t549, bt564.1)))) = some (r1, r2) := H
 have A4 := aM A40
 clear A40
 by_cases c5 : t554 = 0
 rotate_left
 ·rw [if_neg c5] at H
  have c5b0 : (t554 == 0) = false := beq_eq_false_iff_ne.mpr c5
  have c5b1 : (t554 != 0) = true := bne_iff_ne.mpr c5
  replace H := Option.bind_eq_some_iff.mp H
  obtain ⟨⟨t564, t565, t566⟩, A190, H⟩ := H
  replace H : (some (t549, t564)) = some (r1, r2) := H
  have A19 := aM A190
  clear A190
  simp only [Option.some.injEq, Prod.mk.injEq] at H
  obtain ⟨rfl, rfl⟩ := H
  go_enter Try.func16, Try.ntmps16
  go_wp2_with (first | ((with_reducible refine gate_callee (f := 36) rfl ?_); refine goesL_ (some 7) rfl rfl Try.func36 (by kernel_rfl) rfl #[.slice A0 l0.length c0] rfl zm ?_; (with_reducible refine (spec_l01From.calls k _ _ l0 t545 t546 t547 w _ ?side1 ?side2 ?side3 A2.out).mono ?_); (case side1 => repeat (first | (with_reducible first | exact HB.out | apply below_alloc | apply pw_below_drewN | apply below_drew1) | exact HB.out)); (case side2 => exact HR0.out); (case side3 => exact HC0.out); rintro e w20 ⟨g548, rfl, hi, hb, hb2⟩; refine ⟨_, rfl, ?_⟩; have n0_ := aM (hb); have n1_ := aM (hi); clear HB; have HB := n0_; have HI548 := n1_; clear n0_ n1_; (try clear hb); (try clear hb2); (try clear hk); (try clear hi)) | ((with_reducible refine gate_callee (f := 37) rfl ?_); refine goesL_ (some 9) rfl rfl Try.func37 (by kernel_rfl) rfl #[.pointer (some ⟨g548, 0, none⟩)] rfl zm ?_; (with_reducible refine (spec_l09Draw.calls k g548 t545 t546 t547 t549 t552 t553 w _ ?side1 ?side2 A3.out).mono ?_); (case side1 => exact zI79 HI548.out); (case side2 => exact zs (IsS79.ge HI548.out)); rintro e w21 ⟨v550, rfl, ho0, hi, hb, hk⟩; refine ⟨_, rfl, ?_⟩; have n0_ := aM (Kd.R_lower ho0 (below_size (zs (IsS79.ge HI548.out)))); have n1_ := aM (hb); have n2_ := aM (hi); clear HB HI548; have HO551 := n0_; have HB := n1_; have HI548 := n2_; clear n0_ n1_ n2_; (try clear hb); (try clear hb2); (try clear hk); (try clear hi); (try clear ho0)) | ((with_reducible refine gate_callee (f := 38) rfl ?_); refine goesL_ (some 11) rfl rfl Try.func38 (by kernel_rfl) rfl #[.pointer (some ⟨g548, 0, none⟩), .int .i64 16] rfl zm ?_; (with_reducible refine (spec_l01Next.calls g548 t545 t552 t553 16 t554 t555 t556 w _ ?side1 ?side2 A4.out).mono ?_); (case side1 => exact zI79 HI548.out); (case side2 => exact zs (IsS79.ge HI548.out)); rintro e w22 ⟨rfl, hi, hb, hk⟩; refine ⟨_, rfl, ?_⟩; have n0_ := aM (Kd.R_mono (Kd.R_keep (IsS79.apart (show IsS79 w _ g548 t545 t552 t553 from zI79 HI548.out) (mR_ HO551.out) (by decide)) hk (fun _ h => h.2)) (fun _ h => h.1)); have n1_ := aM (hb); have n2_ := aM (hi); clear HO551 HB HI548; have HO551 := n0_; have HB := n1_; have HI548 := n2_; clear n0_ n1_ n2_; (try clear hb); (try clear hb2); (try clear hk); (try clear hi)) | ((with_reducible refine gate_callee (f := 38) rfl ?_); refine goesL_ (some 21) rfl rfl Try.func38 (by kernel_rfl) rfl #[.pointer (some ⟨g548, 0, none⟩), .int .i64 48] rfl zm ?_; (with_reducible refine (spec_l01Next.calls g548 t545 t555 t556 48 t564 t565 t566 w _ ?side1 ?side2 A19.out).mono ?_); (case side1 => exact zI79 HI548.out); (case side2 => exact zs (IsS79.ge HI548.out)); rintro e w23 ⟨rfl, hi, hb, hk⟩; refine ⟨_, rfl, ?_⟩; have n0_ := aM (Kd.R_mono (Kd.R_keep (IsS79.apart (show IsS79 w _ g548 t545 t555 t556 from zI79 HI548.out) (mR_ HO551.out) (by decide)) hk (fun _ h => h.2)) (fun _ h => h.1)); have n1_ := aM (hb); have n2_ := aM (hi); clear HO551 HB HI548; have HO551 := n0_; have HB := n1_; have HI548 := n2_; clear n0_ n1_ n2_; (try clear hb); (try clear hb2); (try clear hk); (try clear hi)))
  go_ret2
  exact ⟨_, zw, mR_ HO551.out, zs (IsS79.ge HI548.out)⟩
 rw [if_pos c5] at H
 have c5b0 : (t554 == 0) = true := beq_iff_eq.mpr c5
 have c5b1 : (t554 != 0) = false := bne_eq_false_iff_eq.mpr c5
 clear c5
 obtain ⟨y557, hy557⟩ : ∃ y_ : List Int, y_ = (([(-1), 48] : List Int)) := ⟨_, rfl⟩
 replace H : ((spec_l01Next.f t545 t555 t556 2).bind fun bt560 => (if 0 ≤ bt560.1 then (if bt560.1 < (y557.length : Int) then (some (t549, rd y557 bt560.1)) else (none)) else (none))) = some (r1, r2) := zy H hy557
 have Ny557 := aM hy557
 clear hy557
 replace H := Option.bind_eq_some_iff.mp H
 obtain ⟨⟨t560, t561, t562⟩, A60, H⟩ := H
 replace H : (if 0 ≤ t560 then (if t560 < (y557.length : Int) then (some (t549, rd y557 t560)) else (none)) else (none)) = some (r1, r2) := H
 have A6 := aM A60
 clear A60
 by_cases c7 : 0 ≤ t560
 rotate_left
 ·rw [if_neg c7] at H
  exact absurd H (by simp)
 rw [if_pos c7] at H
 have c7b0 : decide (0 ≤ t560) = true := decide_eq_true c7
 clear c7
 by_cases c8 : t560 < (y557.length : Int)
 rotate_left
 ·rw [if_neg c8] at H
  exact absurd H (by simp)
 rw [if_pos c8] at H
 have c8b0 : decide (t560 < (y557.length : Int)) = true := decide_eq_true c8
 clear c8
 simp only [Option.some.injEq, Prod.mk.injEq] at H
 obtain ⟨rfl, rfl⟩ := H
 go_enter Try.func16, Try.ntmps16
 try go_wp2_with (first | ((with_reducible refine gate_callee (f := 36) rfl ?_); refine goesL_ (some 7) rfl rfl Try.func36 (by kernel_rfl) rfl #[.slice A0 l0.length c0] rfl zm ?_; (with_reducible refine (spec_l01From.calls k _ _ l0 t545 t546 t547 w _ ?side1 ?side2 ?side3 A2.out).mono ?_); (case side1 => repeat (first | (with_reducible first | exact HB.out | apply below_alloc | apply pw_below_drewN | apply below_drew1) | exact HB.out)); (case side2 => exact HR0.out); (case side3 => exact HC0.out); rintro e w9 ⟨g548, rfl, hi, hb, hb2⟩; refine ⟨_, rfl, ?_⟩; have n0_ := aM (hb); have n1_ := aM (hi); clear HB; have HB := n0_; have HI548 := n1_; clear n0_ n1_; (try clear hb); (try clear hb2); (try clear hk); (try clear hi)) | ((with_reducible refine gate_callee (f := 37) rfl ?_); refine goesL_ (some 9) rfl rfl Try.func37 (by kernel_rfl) rfl #[.pointer (some ⟨g548, 0, none⟩)] rfl zm ?_; (with_reducible refine (spec_l09Draw.calls k g548 t545 t546 t547 t549 t552 t553 w _ ?side1 ?side2 A3.out).mono ?_); (case side1 => exact zI79 HI548.out); (case side2 => exact zs (IsS79.ge HI548.out)); rintro e w10 ⟨v550, rfl, ho0, hi, hb, hk⟩; refine ⟨_, rfl, ?_⟩; have n0_ := aM (Kd.R_lower ho0 (below_size (zs (IsS79.ge HI548.out)))); have n1_ := aM (hb); have n2_ := aM (hi); clear HB HI548; have HO551 := n0_; have HB := n1_; have HI548 := n2_; clear n0_ n1_ n2_; (try clear hb); (try clear hb2); (try clear hk); (try clear hi); (try clear ho0)) | ((with_reducible refine gate_callee (f := 38) rfl ?_); refine goesL_ (some 11) rfl rfl Try.func38 (by kernel_rfl) rfl #[.pointer (some ⟨g548, 0, none⟩), .int .i64 16] rfl zm ?_; (with_reducible refine (spec_l01Next.calls g548 t545 t552 t553 16 t554 t555 t556 w _ ?side1 ?side2 A4.out).mono ?_); (case side1 => exact zI79 HI548.out); (case side2 => exact zs (IsS79.ge HI548.out)); rintro e w11 ⟨rfl, hi, hb, hk⟩; refine ⟨_, rfl, ?_⟩; have n0_ := aM (Kd.R_mono (Kd.R_keep (IsS79.apart (show IsS79 w _ g548 t545 t552 t553 from zI79 HI548.out) (mR_ HO551.out) (by decide)) hk (fun _ h => h.2)) (fun _ h => h.1)); have n1_ := aM (hb); have n2_ := aM (hi); clear HO551 HB HI548; have HO551 := n0_; have HB := n1_; have HI548 := n2_; clear n0_ n1_ n2_; (try clear hb); (try clear hb2); (try clear hk); (try clear hi)))
 have pi563 : (0 ≤ (t560 : Int)) = True := eq_true (of_decide_eq_true za)
 have qi563 : (t560 < (y557.length : Int)) = True := eq_true (of_decide_eq_true za)
 have n0_ := aM (Kd.R_drew HO551.out)
 have n1_ := aM (IsS79.drew HI548.out)
 have n2_ := aM (below_drew1 HB.out)
 clear HO551
 clear HI548
 clear HB
 have HO551 := n0_
 have HI548 := n1_
 have HB := n2_
 clear n0_ n1_ n2_
 refine start_ (n := 8) (S := fun w' => True) (ds := []) #[false, false, false, false, false, false, false, false] (by kernel_rfl) rfl rfl trivial (fun hHeld => ?_); refine with_tabW spec_DrawCubeForm.tab4 spec_DrawCubeForm.bits4 (fun HT_ HW_ => ?_)
 generalize w11.drew = w12 at HO551 HI548 HB hHeld ⊢
 refine zp 0 (some 13) ?_ #[true, false, false, false, false, false, false, false] rfl rfl (Or.inl ⟨by rfl, ?_⟩) ?_ ?_ ?_
 rotate_left
 ·intro w'
  go_simp
  with_reducible rfl
 rotate_left
 ·simp only [Act.put, xA, xB, xC, i64_w, i32_w]
  rfl
 refine zp 2 (some 15) ?_ #[true, false, true, false, false, false, false, false] rfl rfl (Or.inl ⟨by rfl, ?_⟩) ?_ ?_ ?_
 rotate_left
 ·intro w'
  go_simp
  with_reducible rfl
 rotate_left
 ·simp only [Act.put, xA, xB, xC, i64_w, i32_w]
  rfl
 refine inv_at [1, 3, 4, 5, 6, 7] (fun a0_ b a w' => ∃ (v558 : Value) (adz_v558 : Addr) (m4_ : Value), a = putSel a0_ b [(1, 14, v558), (3, 16, .int .i64 t560), (4, 17, m4_), (5, 18, .int .i64 (rd y557 t560)), (6, 2, v550), (7, 3, .int .i64 (rd y557 t560))] ∧ (Kd.R k63 63 w' w.heap.size (fun _ => True) v550 t549) ∧ (b 3 = false → IsS79 w w' g548 t545 t555 t556) ∧ (Below w.heap.size w w') ∧ (b 1 = true → Kd.R (Kd.int .i64) 2 w' w.heap.size (fun _ => True) v558 y557) ∧ (b 1 = true → ∃ c_, (v558 : Value) = .slice (some adz_v558) y557.length c_) ∧ (b 3 = true → IsS79 w w' g548 t545 t561 t562) ∧ (b 4 = true → (m4_ : Value) = .pointer (some (adz_v558.add (t560).toNat)))) HT_.out HW_.out (by kernel_rfl) (by kernel_rfl) ?_ ?_ ?_
 ·exact ⟨.bool false, ⟨0, 0, none⟩, .bool false, by simp only [putSel, Bool.false_eq_true, if_false], HO551.out, fun _ => HI548.out, HB.out, fun h_ => absurd h_ (by decide), fun h_ => absurd h_ (by decide), fun h_ => absurd h_ (by decide), fun h_ => absurd h_ (by decide)⟩
 ·skip
  clear HB HI548 HO551
  refine steps_cons ?_ ?_
  ·rintro b a w' ⟨v558, adz_v558, m4_, ha, Q_HO551, Q_HI548, Q_HB, Q_HO559, Q_HA_HO559, Q_HI548_e3, Q_X4_⟩ hb_ hon hoff
   refine ⟨_, rfl, fun K hK => ?_⟩
   replace ha := aM ha
   have HO551 := aM Q_HO551
   have HB := aM Q_HB
   refine Kd.R_lit_step (Kd.int .i64) _ 2 ?hg (N := 14) ?hd (xs := ([(-1), 48] : List Int)) (inner := [.int .i64 (-1), .int .i64 48]) (ok := fun _ => True) (okp := fun _ => True) ?hr ?hp (fun _ hk => hk) trivial (Below.refl _ _) (Nat.le_refl _) (by simp) ?_; (case hd => rfl); (case hg => rfl); (case hr => first | (go_simp; done) | (go_simp; rfl)); (case hp => exact (Reps.one (show Kd.M (Kd.int .i64) _ _ _ (-1) [.int .i64 (-1)] from rfl) (Reps.one (show Kd.M (Kd.int .i64) _ _ _ 48 [.int .i64 48] from rfl) (Reps.none _ _))))
   intro v558 w13 ho14 hb hg_ hnew_
   clear hg_ hnew_
   (first | rw [← Ny557.out] at ho14 | (simp only [Int.reduceToNat] at ho14; rw [← Ny557.out] at ho14))
   have n0_ := aM (Kd.R_below (mR_ HO551.out) hb)
   have n1_ := aM (Kd.R_lower ho14 (below_size zb))
   have n3_ := aM (below_step zb hb)
   have z_HI548 := fun (h0_ : b 3 = false) => (show IsS79 w w13 g548 t545 t555 t556 from by first | exact (IsS79.below (by repeat (first | (with_reducible first | exact (Q_HI548 h0_) | apply IsS79.alloc | apply IsS79.drewN | apply IsS79.drew | apply IsS79.set_1 | apply IsS79.set_2) | exact (Q_HI548 h0_))) hb))
   have z_HI548_e3 := fun (h0_ : b 3 = true) => (show IsS79 w w13 g548 t545 t561 t562 from by first | exact (IsS79.below (by repeat (first | (with_reducible first | exact (Q_HI548_e3 h0_) | apply IsS79.alloc | apply IsS79.drewN | apply IsS79.drew | apply IsS79.set_1 | apply IsS79.set_2) | exact (Q_HI548_e3 h0_))) hb))
   clear HO551
   clear HB
   have HO551 := n0_
   have HO559 := n1_
   have HB := n3_
   clear n0_ n1_ n3_
   clear hb ho14
   obtain ⟨Ao15, co15, eo15⟩ := Kd.R_slice HO559.out
   subst eo15
   obtain ⟨ado15, fo15, _⟩ := Kd.at_int (Kd.R_reads' HO559.out).2.2 0 (by decide) (by rw [Ny557.out]; simp)
   cases fo15
   refine hK.out _ _ ⟨.slice (some ado15) y557.length co15, ado15, m4_, (by rw [ha.out]; exact putSel_upk 0 hb_ rfl rfl rfl), (mR_ HO551.out), z_HI548, zb, fun _ => (mR_ HO559.out), fun _ => ⟨_, rfl⟩, z_HI548_e3, fun h0_ => absurd ((hoff 4 (by kernel_rfl)).symm.trans h0_) (by decide)⟩
  refine steps_cons ?_ ?_
  ·rintro b a w' ⟨v558, adz_v558, m4_, ha, Q_HO551, Q_HI548, Q_HB, Q_HO559, Q_HA_HO559, Q_HI548_e3, Q_X4_⟩ hb_ hon hoff
   refine ⟨_, rfl, fun K hK => ?_⟩
   have e15 : a.tmps[15]? = some (.pointer (some ⟨g548, 0, none⟩)) := by rw [ha]; exact (putSel_off rfl).trans rfl
   replace ha := aM ha
   have HO551 := aM Q_HO551
   have HI548 := aM (Q_HI548 hb_)
   have HB := aM Q_HB
   refine goes_ Try.func38 (by kernel_rfl) rfl #[.pointer (some ⟨g548, 0, none⟩), .int .i64 2] (by rfl) rfl rfl (by first | (simp only [mA, mB, mC, Act.eval, Array.getD_eq_getD_getElem?, Option.getD_some, e15]; done) | (simp only [mA, mB, mC, Act.eval, Array.getD_eq_getD_getElem?, Option.getD_some, e15]; rfl)) ?_
   with_reducible refine (spec_l01Next.calls g548 t545 t555 t556 2 t560 t561 t562 w _ ?side1 ?side2 A6.out).mono ?_
   (case side1 => exact zI79 HI548.out)
   (case side2 => exact zs (IsS79.ge HI548.out))
   rintro e w13 ⟨rfl, hi, hb, hk⟩
   refine ⟨_, rfl, ?_⟩
   have n0_ := aM (Kd.R_mono (Kd.R_keep (IsS79.apart (show IsS79 w _ g548 t545 t555 t556 from zI79 HI548.out) (mR_ HO551.out) (by decide)) hk (fun _ h => h.2)) (fun _ h => h.1))
   have n1_ := aM (hb)
   have n2_ := aM (hi)
   have z_HO559 := fun (h0_ : b 1 = true) => (show Kd.R (Kd.int .i64) 2 w13 w.heap.size (fun _ => True) v558 y557 from by first | exact (Kd.R_mono (Kd.R_keep (IsS79.apart (show IsS79 w _ g548 t545 t555 t556 from zI79 HI548.out) (by (with_reducible repeat (first | apply Kd.R_alloc | apply Kd.R_drewN | apply Kd.R_drew)); exact (Q_HO559 h0_)) (by decide)) hk (fun _ h => h.2)) (fun _ h => h.1)) | exact Kd.R_mono (Kd.R_mono (Kd.R_keep (IsS79.apart (show IsS79 w _ g548 t545 t555 t556 from zI79 HI548.out) (by (with_reducible repeat (first | apply Kd.R_alloc | apply Kd.R_drewN | apply Kd.R_drew)); exact (Q_HO559 h0_)) (by decide)) hk (fun _ h => h.2)) (fun _ h => h.1)) (fun _ h_ => by first | trivial | exact h_ | exact h_.1))
   clear HO551
   clear HB
   clear HI548
   have HO551 := n0_
   have HB := n1_
   have HI548 := n2_
   clear n0_ n1_ n2_
   (try clear hb)
   (try clear hb2)
   (try clear hk)
   (try clear hi)
   refine hK.out _ _ ⟨v558, adz_v558, m4_, (by rw [ha.out]; exact putSel_upk 1 hb_ rfl rfl rfl), (mR_ HO551.out), fun h0_ => absurd ((up_self b 3).symm.trans h0_) (by decide), (zs (IsS79.ge HI548.out)), z_HO559, Q_HA_HO559, fun _ => (zI79 HI548.out), fun h0_ => absurd ((hoff 4 (by kernel_rfl)).symm.trans h0_) (by decide)⟩
  refine steps_cons ?_ ?_
  ·rintro b a w' ⟨v558, adz_v558, m4_, ha, Q_HO551, Q_HI548, Q_HB, Q_HO559, Q_HA_HO559, Q_HI548_e3, Q_X4_⟩ hb_ hon hoff
   refine ⟨_, rfl, fun K hK => ?_⟩
   have e14 : a.tmps[14]? = some (v558) := by rw [ha]; exact putSel_on (e := (1, 14, v558)) 0 rfl rfl (hon 1 (by kernel_rfl)) rfl
   have e16 : a.tmps[16]? = some (.int .i64 t560) := by rw [ha]; exact putSel_on (e := (3, 16, .int .i64 t560)) 1 rfl rfl (hon 3 (by kernel_rfl)) rfl
   replace ha := aM ha
   have HO551 := aM Q_HO551
   have HB := aM Q_HB
   have HO559 := aM (Q_HO559 (hon 1 (by kernel_rfl)))
   have HA_HO559 := aM (Q_HA_HO559 (hon 1 (by kernel_rfl)))
   have HI548 := aM (Q_HI548_e3 (hon 3 (by kernel_rfl)))
   obtain ⟨c_, hv_⟩ := HA_HO559.out
   rw [hv_] at e14
   refine value_ (w1 := w') (v := .pointer (some (adz_v558.add (t560).toNat))) (by rfl) rfl ?_ ?_
   ·go_simp
    (try simp only [i64_w])
    try rfl
   refine hK.out _ _ ⟨v558, adz_v558, (.pointer (some (adz_v558.add (t560).toNat))), (by rw [ha.out]; exact putSel_upk 2 hb_ rfl rfl rfl), Q_HO551, fun h0_ => absurd ((hon 3 (by kernel_rfl)).symm.trans h0_) (by decide), Q_HB, Q_HO559, Q_HA_HO559, Q_HI548_e3, fun _ => rfl⟩
  refine steps_cons ?_ ?_
  ·rintro b a w' ⟨v558, adz_v558, m4_, ha, Q_HO551, Q_HI548, Q_HB, Q_HO559, Q_HA_HO559, Q_HI548_e3, Q_X4_⟩ hb_ hon hoff
   refine ⟨_, rfl, fun K hK => ?_⟩
   have e17 : a.tmps[17]? = some (m4_) := by rw [ha]; exact putSel_on (e := (4, 17, m4_)) 2 rfl rfl (hon 4 (by kernel_rfl)) rfl
   rw [Q_X4_ (hon 4 (by kernel_rfl))] at e17
   replace ha := aM ha
   have HO551 := aM Q_HO551
   have HB := aM Q_HB
   have HO559 := aM (Q_HO559 (hon 1 (by kernel_rfl)))
   have HA_HO559 := aM (Q_HA_HO559 (hon 1 (by kernel_rfl)))
   have HI548 := aM (Q_HI548_e3 (hon 3 (by kernel_rfl)))
   obtain ⟨c_, hv_⟩ := HA_HO559.out
   have hF_ := HO559.out
   rw [hv_] at hF_
   obtain ⟨ad_, ea_, hx_⟩ := Kd.at_int (Kd.R_reads' hF_).2.2 t560 (of_eq_true pi563) (of_eq_true qi563)
   cases ea_
   refine value_ (w1 := w') (v := .int .i64 (rd y557 t560)) (by rfl) rfl ?_ ?_
   ·go_simp
    (try simp only [i64_w])
    try rfl
   refine hK.out _ _ ⟨v558, adz_v558, m4_, (by rw [ha.out]; exact putSel_upk 3 hb_ rfl rfl rfl), Q_HO551, fun h0_ => absurd ((hon 3 (by kernel_rfl)).symm.trans h0_) (by decide), Q_HB, Q_HO559, Q_HA_HO559, Q_HI548_e3, Q_X4_⟩
  refine steps_cons ?_ ?_
  ·rintro b a w' ⟨v558, adz_v558, m4_, ha, Q_HO551, Q_HI548, Q_HB, Q_HO559, Q_HA_HO559, Q_HI548_e3, Q_X4_⟩ hb_ hon hoff
   refine ⟨_, rfl, fun K hK => ?_⟩
   have e13 : a.tmps[13]? = some (v550) := by rw [ha]; exact (putSel_off rfl).trans rfl
   replace ha := aM ha
   have HO551 := aM Q_HO551
   have HB := aM Q_HB
   have HI548 := aM (Q_HI548_e3 (hon 3 (by kernel_rfl)))
   refine value_ (w1 := w') (v := v550) (by rfl) rfl ?_ ?_
   ·go_simp
    (try simp only [i64_w])
    try rfl
   refine hK.out _ _ ⟨v558, adz_v558, m4_, (by rw [ha.out]; exact putSel_upk 4 hb_ rfl rfl rfl), Q_HO551, fun h0_ => absurd ((hon 3 (by kernel_rfl)).symm.trans h0_) (by decide), Q_HB, Q_HO559, Q_HA_HO559, Q_HI548_e3, Q_X4_⟩
  refine steps_cons ?_ ?_
  ·rintro b a w' ⟨v558, adz_v558, m4_, ha, Q_HO551, Q_HI548, Q_HB, Q_HO559, Q_HA_HO559, Q_HI548_e3, Q_X4_⟩ hb_ hon hoff
   refine ⟨_, rfl, fun K hK => ?_⟩
   have e18 : a.tmps[18]? = some (.int .i64 (rd y557 t560)) := by rw [ha]; exact putSel_on (e := (5, 18, .int .i64 (rd y557 t560))) 3 rfl rfl (hon 5 (by kernel_rfl)) rfl
   replace ha := aM ha
   have HO551 := aM Q_HO551
   have HB := aM Q_HB
   have HO559 := aM (Q_HO559 (hon 1 (by kernel_rfl)))
   have HA_HO559 := aM (Q_HA_HO559 (hon 1 (by kernel_rfl)))
   have HI548 := aM (Q_HI548_e3 (hon 3 (by kernel_rfl)))
   refine value_ (w1 := w') (v := .int .i64 (rd y557 t560)) (by rfl) rfl ?_ ?_
   ·go_simp
    (try simp only [i64_w])
    try rfl
   refine hK.out _ _ ⟨v558, adz_v558, m4_, (by rw [ha.out]; exact putSel_upk 5 hb_ rfl rfl rfl), Q_HO551, fun h0_ => absurd ((hon 3 (by kernel_rfl)).symm.trans h0_) (by decide), Q_HB, Q_HO559, Q_HA_HO559, Q_HI548_e3, Q_X4_⟩
  exact steps_nil
 rintro b a w17 hall ⟨v558, adz_v558, m4_, ha, Q_HO551, Q_HI548, Q_HB, Q_HO559, Q_HA_HO559, Q_HI548_e3, Q_X4_⟩
 clear HB HI548 HO551
 have hb1_ := hall 1 (by kernel_rfl)
 have hb3_ := hall 3 (by kernel_rfl)
 have hb4_ := hall 4 (by kernel_rfl)
 have hb5_ := hall 5 (by kernel_rfl)
 have hb6_ := hall 6 (by kernel_rfl)
 have hb7_ := hall 7 (by kernel_rfl)
 subst ha
 obtain rfl := Q_X4_ hb4_
 simp only [putSel, hb1_, hb3_, hb4_, hb5_, hb6_, hb7_, if_true, Act.put, xA, xB, xC]
 have HO551 := aM Q_HO551
 clear Q_HO551
 clear Q_HI548
 have HB := aM Q_HB
 clear Q_HB
 have HO559 := aM (Q_HO559 hb1_)
 clear Q_HO559
 have HA_HO559 := aM (Q_HA_HO559 hb1_)
 clear Q_HA_HO559
 have HI548 := aM (Q_HI548_e3 hb3_)
 clear Q_HI548_e3
 clear hall hb1_ hb3_ hb4_ hb5_ hb6_ hb7_
 obtain ⟨co18, eo18⟩ := HA_HO559.out
 clear HA_HO559
 subst eo18
 try go_wp2
 go_ret2
 exact ⟨_, zw, mR_ HO551.out, zs (IsS79.ge HI548.out)⟩
def impl_isCoordinate.f (a0 : Int) : Option (Bool) := (impl_within.f a0 (-100) 100).bind fun t567 => (some t567)
theorem impl_isCoordinate.calls (a0 : Int) (r : Bool) (w : World) (h : impl_isCoordinate.f a0 = some r) :
  Calls Try.prog 69 #[.int .i64 a0] w fun e w' => e = .returned (.bool r) ∧ Drawn0 w w' := by
 have H : ((impl_within.f a0 (-100) 100).bind fun t567 => (some t567)) = some r := h
 clear h
 replace H := Option.bind_eq_some_iff.mp H
 obtain ⟨t567, A20, H⟩ := H
 replace H : (some t567) = some r := H
 have A2 := aM A20
 clear A20
 obtain rfl := Option.some.inj H
 go_enter Try.func69, Try.ntmps69
 go_wp2_with (first | ((with_reducible refine gate_callee (f := 29) rfl ?_); refine goesL_ (some 4) rfl rfl Try.func29 (by kernel_rfl) rfl #[.int .i64 a0, .int .i64 (-100), .int .i64 100] rfl zm ?_; (with_reducible refine (impl_within.calls a0 (-100) 100 t567 _ A2.out).mono ?_); rintro e w' ⟨rfl, ⟨nd, rfl⟩⟩; refine ⟨_, rfl, ?_⟩))
 go_ret
 exact ⟨by first | rfl | (simp; done) | (simp [*]; done), by repeat (first | exact Drawn0.refl _ | apply Drawn0.step)⟩
end Go.Proofs.Ytonldmalaajkgaa.F
end
section
namespace Go.Proofs.Ytonldmalaajkgaa.F
open Go.RowKit Go.Proofs.YtonldmalaajkgaaW.PrintWords Go.Proofs.YtonldmalaajkgaaW.PrintLast Go.Proofs.YtonldmalaajkgaaW.PrintMore
attribute [local go_sem] max2_int min2_int max_two min_two max_three min_three max_four min_four
set_option linter.unusedVariables false
set_option linter.unusedSimpArgs false
mutual
def impl_normalCubes.l0 : Nat → List (S63) → List (S63) → Int → Int → Int → Int → Int → Option ((List (S63)))
 | 0, _, _, _, _, _, _, _ => none
 | k + 1, x0, x12, x13, x14, x339000, x339001, x339002 => if x14 < x13 then (if 0 ≤ x14 then (if x14 < (x12.length : Int) then (impl_normalCubes.l0 k x0 x12 x13 (wrap64 (x14 + 1)) (mn x339000 ((rd_T63 x12 x14).f0)) (mn x339001 ((rd_T63 x12 x14).f1)) (mn x339002 ((rd_T63 x12 x14).f2))) else (none)) else (none)) else (if 0 ≤ (x0.length : Int) then (if ((x0.length : Int) : Int).toNat ≤ 11728124029610 then (impl_normalCubes.l1 k (([] : List (S63))) x0 (x0.length : Int) 0 x339000 x339001 x339002) else (none)) else (none))
def impl_normalCubes.l1 : Nat → List (S63) → List (S63) → Int → Int → Int → Int → Int → Option ((List (S63)))
 | 0, _, _, _, _, _, _, _ => none
 | k + 1, x6, x38, x39, x40, x339000, x339001, x339002 => if x40 < x39 then (if 0 ≤ x40 then (if x40 < (x38.length : Int) then (if x6.length < 5864062014805 then (impl_normalCubes.l1 k (x6 ++ [(⟨wrap64 (((rd_T63 x38 x40).f0) - x339000), wrap64 (((rd_T63 x38 x40).f1) - x339001), wrap64 (((rd_T63 x38 x40).f2) - x339002)⟩ : S63)]) x38 x39 (wrap64 (x40 + 1)) x339000 x339001 x339002) else (none)) else (none)) else (none)) else (some x6)
end
def impl_normalCubes.f (k : Nat) (l0 : List (S63)) : Option ((List (S63))) := if 0 < (l0.length : Int) then (impl_normalCubes.l0 k l0 l0 (l0.length : Int) 0 ((rd_T63 l0 0).f0) ((rd_T63 l0 0).f1) ((rd_T63 l0 0).f2)) else (none)
theorem impl_normalCubes.calls (k : Nat) (A0 : Option Addr) (c0 : Nat) (l0 : List (S63)) (r : List (S63)) (w : World) (hr0 : Kd.C k63 w A0 l0.length l0) (hc0 : l0.length ≤ c0) (h : impl_normalCubes.f k l0 = some r) :
  Calls Try.prog 62 #[.slice A0 l0.length c0] w fun e w' => ∃ v0_ : Value, e = .returned (v0_) ∧ Kd.R k63 63 w' w.heap.size (fun _ => True) v0_ r ∧ Below w.heap.size w w' := by
 have hu63 := Try.underlying63
 have HR0 := aM hr0
 have HC0 := aM hc0
 clear hr0 hc0
 have HB := aM (Below.refl w.heap.size w)
 have H : (if 0 < (l0.length : Int) then (impl_normalCubes.l0 k l0 l0 (l0.length : Int) 0 ((rd_T63 l0 0).f0) ((rd_T63 l0 0).f1) ((rd_T63 l0 0).f2)) else (none)) = some r := h
 clear h
 by_cases c2 : 0 < (l0.length : Int)
 rotate_left
 ·rw [if_neg c2] at H
  exact absurd H (by simp)
 rw [if_pos c2] at H
 have c2b0 : decide (0 < (l0.length : Int)) = true := decide_eq_true c2
 have c2b1 : decide (0 < l0.length) = true := decide_eq_true (by omega)
 clear c2
 have H' := aM H
 clear H
 have p337 : 0 ≤ (0 : Int) := (by omega)
 have q337 : 0 < (l0.length : Int) := of_decide_eq_true za
 obtain ⟨ad337, e337, hx337_0, hx337_1, hx337_2⟩ := at_T63 HR0.out 0 p337 q337
 cases e337
 have qi337 : (0 < l0.length) = True := eq_true (by omega)
 (try rw [show ((0 : Int)).toNat = 0 from rfl] at hx337_0)
 (try rw [show 0 * 3 = 0 from rfl] at hx337_0)
 (try rw [Addr.add_zero'] at hx337_0)
 (try rw [show ((0 : Int)).toNat = 0 from rfl] at hx337_1)
 (try rw [show 0 * 3 = 0 from rfl] at hx337_1)
 (try rw [Addr.add_zero'] at hx337_1)
 (try rw [show ((0 : Int)).toNat = 0 from rfl] at hx337_2)
 (try rw [show 0 * 3 = 0 from rfl] at hx337_2)
 (try rw [Addr.add_zero'] at hx337_2)
 replace p337 := eq_true p337
 replace q337 := eq_true q337
 go_enter Try.func62, Try.ntmps62
 go_wp2_with (first | ((with_reducible refine gate_dst (N := 3) rfl ?_); refine zx 3 #[.int .i64 0, .int .i64 0, .int .i64 0] 63 ?_; intro gb338 hg w3 hbox hb; have n0_ := aM (below_step zb hb); have n1_ := aM (hbox); have n2_ := aM ((ze : w.heap.size ≤ gb338)); have n3_ := aM ((ze : w.heap.size ≤ gb338)); clear HB; have HB := n0_; have BK338 := n1_; have GW338 := n2_; have GE338 := n3_; clear n0_ n1_ n2_ n3_ hb hbox hg; have hcz4_0 : w3.cell? ⟨gb338, 0, none⟩ = some (.int .i64 0) := (blk_cell BK338.out 0).trans rfl; have hcz4_1 : w3.cell? ⟨gb338, 1, none⟩ = some (.int .i64 0) := (blk_cell BK338.out 1).trans rfl; have hcz4_2 : w3.cell? ⟨gb338, 2, none⟩ = some (.int .i64 0) := (blk_cell BK338.out 2).trans rfl; have hfz4_0 := blk_frozen BK338.out 0; have hfz4_1 := blk_frozen BK338.out 1; have hfz4_2 := blk_frozen BK338.out 2))
 go_loopg [14] k (fun kq v14 w' => ∃ (x14_1 : Int) (x339000_1 : Int) (x339001_1 : Int) (x339002_1 : Int), v14 = .int .i64 x14_1 ∧ Aside0 (impl_normalCubes.l0 kq l0 l0 (l0.length : Int) x14_1 x339000_1 x339001_1 x339002_1 = some r) ∧ Aside0 (kq ≤ k) ∧ Aside0 (w'.heap[gb338]? = some (.cells #[.int .i64 x339000_1, .int .i64 x339001_1, .int .i64 x339002_1] 63 (0, 0))) ∧ Aside0 (Below w.heap.size w w'))
 case atStart => exact ⟨(0), ((rd_T63 l0 0).f0), ((rd_T63 l0 0).f1), ((rd_T63 l0 0).f2), zr, H', ⟨Nat.le_refl _⟩, ⟨by (with_reducible repeat (first | refine blk_drewN ?_ _ | refine blk_drew ?_ | refine blk_alloc ?_ _)); refine blk_put (cs := #[.int .i64 ((rd_T63 l0 0).f0), .int .i64 ((rd_T63 l0 0).f1), .int .i64 0]) ?_ 2 _ rfl; (with_reducible repeat (first | refine blk_drewN ?_ _ | refine blk_drew ?_ | refine blk_alloc ?_ _)); refine blk_put (cs := #[.int .i64 ((rd_T63 l0 0).f0), .int .i64 0, .int .i64 0]) ?_ 1 _ rfl; (with_reducible repeat (first | refine blk_drewN ?_ _ | refine blk_drew ?_ | refine blk_alloc ?_ _)); refine blk_put (cs := #[.int .i64 0, .int .i64 0, .int .i64 0]) ?_ 0 _ rfl; (with_reducible repeat (first | refine blk_drewN ?_ _ | refine blk_drew ?_ | refine blk_alloc ?_ _)); exact BK338.out⟩, ⟨zs GE338.out⟩⟩
 case round =>
  clear H'
  try clear c2
  try clear c2b0
  try clear c2b1
  try clear p2
  try clear p3
  try clear q3
  try clear hx3
  try clear qi3
  try clear hcz4_0
  try clear hcz4_1
  try clear hcz4_2
  try clear hfz4_0
  try clear hfz4_1
  try clear hfz4_2
  try clear hx337_0
  try clear hx337_1
  try clear hx337_2
  try clear p337
  try clear q337
  obtain ⟨x14_1, x339000_1, x339001_1, x339002_1, rfl, HA, HK1, BK338, HB⟩ := hrel
  cases gk with
  | zero => exact absurd HA.out (by simp [impl_normalCubes.l0])
  | succ k1 =>
   have H := HA.out
   clear HA
   simp only [impl_normalCubes.l0] at H
   by_cases c5 : x14_1 < (l0.length : Int)
   ·rw [if_pos c5] at H
    have c5b0 : decide (x14_1 < (l0.length : Int)) = true := decide_eq_true c5
    clear c5
    by_cases c6 : 0 ≤ x14_1
    rotate_left
    ·rw [if_neg c6] at H
     exact absurd H (by simp)
    rw [if_pos c6] at H
    have c6b0 : decide (0 ≤ x14_1) = true := decide_eq_true c6
    clear c6
    by_cases c7 : x14_1 < (l0.length : Int)
    rotate_left
    ·rw [if_neg c7] at H
     exact absurd H (by simp)
    rw [if_pos c7] at H
    have c7b0 : decide (x14_1 < (l0.length : Int)) = true := decide_eq_true c7
    clear c7
    obtain ⟨ji8, hji8⟩ : ∃ j_ : Int, (mn x339000_1 ((rd_T63 l0 x14_1).f0)) = j_ := ⟨_, rfl⟩
    replace H : (impl_normalCubes.l0 k1 l0 l0 (l0.length : Int) (wrap64 (x14_1 + 1)) ji8 (mn x339001_1 ((rd_T63 l0 x14_1).f1)) (mn x339002_1 ((rd_T63 l0 x14_1).f2))) = some r := by first | (rw [hji8] at H; exact H) | (simp only [hji8] at H ⊢; exact H)
    have hji8_ : (if ((rd_T63 l0 x14_1).f0) < x339000_1 then ((rd_T63 l0 x14_1).f0) else x339000_1) = ji8 := hji8
    obtain ⟨ji9, hji9⟩ : ∃ j_ : Int, (mn x339001_1 ((rd_T63 l0 x14_1).f1)) = j_ := ⟨_, rfl⟩
    replace H : (impl_normalCubes.l0 k1 l0 l0 (l0.length : Int) (wrap64 (x14_1 + 1)) ji8 ji9 (mn x339002_1 ((rd_T63 l0 x14_1).f2))) = some r := by first | (rw [hji9] at H; exact H) | (simp only [hji9] at H ⊢; exact H)
    have hji9_ : (if ((rd_T63 l0 x14_1).f1) < x339001_1 then ((rd_T63 l0 x14_1).f1) else x339001_1) = ji9 := hji9
    obtain ⟨ji10, hji10⟩ : ∃ j_ : Int, (mn x339002_1 ((rd_T63 l0 x14_1).f2)) = j_ := ⟨_, rfl⟩
    replace H : (impl_normalCubes.l0 k1 l0 l0 (l0.length : Int) (wrap64 (x14_1 + 1)) ji8 ji9 ji10) = some r := by first | (rw [hji10] at H; exact H) | (simp only [hji10] at H ⊢; exact H)
    have hji10_ : (if ((rd_T63 l0 x14_1).f2) < x339002_1 then ((rd_T63 l0 x14_1).f2) else x339002_1) = ji10 := hji10
    have H' := aM H
    clear H
    have p339 : 0 ≤ (x14_1 : Int) := of_decide_eq_true za
    have q339 : x14_1 < (l0.length : Int) := of_decide_eq_true za
    obtain ⟨ad339, e339, hx339_0, hx339_1, hx339_2⟩ := at_T63 HR0.out x14_1 p339 q339
    obtain rfl : ad337 = ad339 := (by injection e339)
    replace hx339_0 := zk HB.out hx339_0
    replace hx339_1 := zk HB.out hx339_1
    replace hx339_2 := zk HB.out hx339_2
    replace p339 := eq_true p339
    replace q339 := eq_true q339
    go_wp2_with (first | ((with_reducible refine gate_dst (N := 5) rfl ?_); refine zx 5 #[.int .i64 0, .int .i64 0, .int .i64 0] 63 ?_; intro gb340 hg w11 hbox hb; have n0_ := aM (blk_below (g := gb338) (o := .cells #[.int .i64 x339000_1, .int .i64 x339001_1, .int .i64 x339002_1] 63 (0, 0)) (mB_ BK338.out) hb); have n1_ := aM (below_step (zs GE338.out) hb); have n2_ := aM (hbox); have n3_ := aM ((zf GE338.out : w.heap.size ≤ gb340)); have n4_ := aM ((zf GE338.out : w.heap.size ≤ gb340)); have n5_ := aM ((zl BK338.out : gb338 ≠ gb340)); have n6_ := aM ((zn BK338.out : gb340 ≠ gb338)); clear BK338 HB; have BK338 := n0_; have HB := n1_; have BK340 := n2_; have GW340 := n3_; have GE340 := n4_; have NB338_340 := n5_; have NB340_338 := n6_; clear n0_ n1_ n2_ n3_ n4_ n5_ n6_ hb hbox hg; have hnb12 := NB340_338.out; have hnc12 := NB338_340.out; have hcz13_0 : w11.cell? ⟨gb340, 0, none⟩ = some (.int .i64 0) := (blk_cell BK340.out 0).trans rfl; have hcz13_1 : w11.cell? ⟨gb340, 1, none⟩ = some (.int .i64 0) := (blk_cell BK340.out 1).trans rfl; have hcz13_2 : w11.cell? ⟨gb340, 2, none⟩ = some (.int .i64 0) := (blk_cell BK340.out 2).trans rfl; have hfz13_0 := blk_frozen BK340.out 0; have hfz13_1 := blk_frozen BK340.out 1; have hfz13_2 := blk_frozen BK340.out 2; have hcz14_0 : w11.cell? ⟨gb338, 0, none⟩ = some (.int .i64 x339000_1) := (blk_cell BK338.out 0).trans rfl; have hcz14_1 : w11.cell? ⟨gb338, 1, none⟩ = some (.int .i64 x339001_1) := (blk_cell BK338.out 1).trans rfl; have hcz14_2 : w11.cell? ⟨gb338, 2, none⟩ = some (.int .i64 x339002_1) := (blk_cell BK338.out 2).trans rfl; have hfz14_0 := blk_frozen BK338.out 0; have hfz14_1 := blk_frozen BK338.out 1; have hfz14_2 := blk_frozen BK338.out 2))
    go_roundg k1
    case measure => have := HK1.out; omega
    case rel => exact ⟨(wrap64 (x14_1 + 1)), (ji8), (ji9), (ji10), zr, H', ⟨by have := HK1.out; omega⟩, ⟨by (with_reducible repeat (first | refine blk_drewN ?_ _ | refine blk_drew ?_ | refine blk_alloc ?_ _)); refine blk_put (cs := #[.int .i64 ji8, .int .i64 ji9, .int .i64 x339002_1]) ?_ 2 _ rfl; (with_reducible repeat (first | refine blk_drewN ?_ _ | refine blk_drew ?_ | refine blk_alloc ?_ _)); refine blk_put (cs := #[.int .i64 ji8, .int .i64 x339001_1, .int .i64 x339002_1]) ?_ 1 _ rfl; (with_reducible repeat (first | refine blk_drewN ?_ _ | refine blk_drew ?_ | refine blk_alloc ?_ _)); refine blk_put (cs := #[.int .i64 x339000_1, .int .i64 x339001_1, .int .i64 x339002_1]) ?_ 0 _ rfl; (with_reducible repeat (first | refine blk_drewN ?_ _ | refine blk_drew ?_ | refine blk_alloc ?_ _)); refine blk_far ?_ NB338_340.out _; (with_reducible repeat (first | refine blk_drewN ?_ _ | refine blk_drew ?_ | refine blk_alloc ?_ _)); refine blk_far ?_ NB338_340.out _; (with_reducible repeat (first | refine blk_drewN ?_ _ | refine blk_drew ?_ | refine blk_alloc ?_ _)); refine blk_far ?_ NB338_340.out _; (with_reducible repeat (first | refine blk_drewN ?_ _ | refine blk_drew ?_ | refine blk_alloc ?_ _)); exact BK338.out⟩, ⟨zt GE338.out GE340.out⟩⟩
   rw [if_neg c5] at H
   have c5b0 : decide (x14_1 < (l0.length : Int)) = false := decide_eq_false c5
   clear c5
   by_cases c15 : 0 ≤ (l0.length : Int)
   rotate_left
   ·rw [if_neg c15] at H
    exact absurd H (by simp)
   rw [if_pos c15] at H
   have c15b0 := eq_true c15
   have c15b1 : decide (0 ≤ (l0.length : Int)) = true := decide_eq_true c15
   clear c15
   by_cases c16 : ((l0.length : Int) : Int).toNat ≤ 11728124029610
   rotate_left
   ·rw [if_neg c16] at H
    exact absurd H (by simp)
   rw [if_pos c16] at H
   have c16b0 := eq_true c16
   have c16b1 : decide (((l0.length : Int) : Int).toNat ≤ 11728124029610) = true := decide_eq_true c16
   clear c16
   obtain ⟨y341, hy341⟩ : ∃ y_ : List (S63), y_ = (([] : List (S63))) := ⟨_, rfl⟩
   replace H : (impl_normalCubes.l1 k1 y341 l0 (l0.length : Int) 0 x339000_1 x339001_1 x339002_1) = some r := zy H hy341
   have Ny341 := aM hy341
   clear hy341
   have H' := aM H
   clear H
   go_wp2_with (first | ((with_reducible refine gate_dst (N := 37) rfl ?_); refine Kd.R_make0 k63 _ 63 rfl (N := 37) rfl 34 _ _ rfl (l0.length : Int) rfl rfl Try.underlying34 (.agg #[(.int .i64 0), (.int .i64 0), (.int .i64 0)]) 24 info63 rfl (by decide) (by omega) z63 (ok := fun _ => True) (okp := fun _ => True) (k63_mkM _ _ _ z63 ) (fun _ hk => hk) trivial (of_decide_eq_true za) (Nat.le_trans (Nat.mul_le_mul_right _ (of_decide_eq_true za : (l0.length : Int).toNat ≤ 11728124029610)) (by omega)) (Below.refl _ _) (Nat.le_refl _) ?_; intro v342 w17 ho18 hb hg_ hnew_; clear hg_ hnew_; (first | rw [← Ny341.out] at ho18 | (simp only [Int.reduceToNat] at ho18; rw [← Ny341.out] at ho18)); have n0_ := aM (Kd.R_lower (Kd.R_newB ho18 (g := gb338) (o := .cells #[.int .i64 x339000_1, .int .i64 x339001_1, .int .i64 x339002_1] 63 (0, 0)) (mB_ BK338.out)) (below_size (zs GE338.out))); have n1_ := aM (blk_below (g := gb338) (o := .cells #[.int .i64 x339000_1, .int .i64 x339001_1, .int .i64 x339002_1] 63 (0, 0)) (mB_ BK338.out) hb); have n2_ := aM (below_step (zs GE338.out) hb); clear BK338 HB; have HO343 := n0_; have BK338 := n1_; have HB := n2_; clear n0_ n1_ n2_; clear hb ho18))
   go_loopg [6, 40] k1 (fun kq v6 v40 w' => ∃ (x6_2 : List (S63)) (x40_2 : Int), v40 = .int .i64 x40_2 ∧ Aside0 (impl_normalCubes.l1 kq x6_2 l0 (l0.length : Int) x40_2 x339000_1 x339001_1 x339002_1 = some r) ∧ Aside0 (kq ≤ k1) ∧ Aside0 (Kd.R k63 63 w' w.heap.size (fun k_ => k_ ≠ gb338) v6 x6_2) ∧ Aside0 (w'.heap[gb338]? = some (.cells #[.int .i64 x339000_1, .int .i64 x339001_1, .int .i64 x339002_1] 63 (0, 0))) ∧ Aside0 (Below w.heap.size w w'))
   case atStart => exact ⟨(y341), (0), zr, H', ⟨Nat.le_refl _⟩, ⟨zd0 HO343.out⟩, ⟨mB_ BK338.out⟩, ⟨zs GE338.out⟩⟩
   case round =>
    clear H'
    try clear c1
    try clear c2
    try clear c2b0
    try clear c2b1
    try clear p2
    try clear p3
    try clear q3
    try clear hx3
    try clear qi3
    try clear c5
    try clear c5b0
    try clear c6
    try clear c6b0
    try clear p6
    try clear c7
    try clear c7b0
    try clear c12
    try clear c15
    try clear c15b0
    try clear c15b1
    try clear c16
    try clear c16b0
    try clear c16b1
    try clear hcz13_0
    try clear hcz13_1
    try clear hcz13_2
    try clear hcz14_0
    try clear hcz14_1
    try clear hcz14_2
    try clear hcz4_0
    try clear hcz4_1
    try clear hcz4_2
    try clear hfz13_0
    try clear hfz13_1
    try clear hfz13_2
    try clear hfz14_0
    try clear hfz14_1
    try clear hfz14_2
    try clear hfz4_0
    try clear hfz4_1
    try clear hfz4_2
    try clear hx337_0
    try clear hx337_1
    try clear hx337_2
    try clear hx339_0
    try clear hx339_1
    try clear hx339_2
    try clear p2
    try clear p3
    try clear p337
    try clear p339
    try clear q3
    try clear q337
    try clear q339
    obtain ⟨x6_2, x40_2, rfl, HA, HK2, HO_6, BK338, HB⟩ := hrel
    cases gk with
    | zero => exact absurd HA.out (by simp [impl_normalCubes.l1])
    | succ k2 =>
     have H := HA.out
     clear HA
     simp only [impl_normalCubes.l1] at H
     by_cases c19 : x40_2 < (l0.length : Int)
     rotate_left
     ·rw [if_neg c19] at H
      have c19b0 : decide (x40_2 < (l0.length : Int)) = false := decide_eq_false c19
      clear c19
      obtain rfl := Option.some.inj H
      go_wp2
      go_ret
      exact ⟨_, zw, zd1 HO_6.out, zs GE338.out⟩
     rw [if_pos c19] at H
     have c19b0 : decide (x40_2 < (l0.length : Int)) = true := decide_eq_true c19
     clear c19
     by_cases c20 : 0 ≤ x40_2
     rotate_left
     ·rw [if_neg c20] at H
      exact absurd H (by simp)
     rw [if_pos c20] at H
     have c20b0 : decide (0 ≤ x40_2) = true := decide_eq_true c20
     clear c20
     by_cases c21 : x40_2 < (l0.length : Int)
     rotate_left
     ·rw [if_neg c21] at H
      exact absurd H (by simp)
     rw [if_pos c21] at H
     have c21b0 : decide (x40_2 < (l0.length : Int)) = true := decide_eq_true c21
     clear c21
     by_cases c22 : x6_2.length < 5864062014805
     rotate_left
     ·rw [if_neg c22] at H
      exact absurd H (by simp)
     rw [if_pos c22] at H
     have LMc22 := aM c22
     clear c22
     obtain ⟨y346, hy346⟩ : ∃ y_ : List (S63), y_ = (x6_2 ++ [(⟨wrap64 (((rd_T63 l0 x40_2).f0) - x339000_1), wrap64 (((rd_T63 l0 x40_2).f1) - x339001_1), wrap64 (((rd_T63 l0 x40_2).f2) - x339002_1)⟩ : S63)]) := ⟨_, rfl⟩
     replace H : (impl_normalCubes.l1 k2 y346 l0 (l0.length : Int) (wrap64 (x40_2 + 1)) x339000_1 x339001_1 x339002_1) = some r := zy H hy346
     have Ny346 := aM hy346
     clear hy346
     have H' := aM H
     clear H
     have p344 : 0 ≤ (x40_2 : Int) := of_decide_eq_true za
     have q344 : x40_2 < (l0.length : Int) := of_decide_eq_true za
     obtain ⟨ad344, e344, hx344_0, hx344_1, hx344_2⟩ := at_T63 HR0.out x40_2 p344 q344
     obtain rfl : ad337 = ad344 := (by injection e344)
     replace hx344_0 := zk HB.out hx344_0
     replace hx344_1 := zk HB.out hx344_1
     replace hx344_2 := zk HB.out hx344_2
     replace p344 := eq_true p344
     replace q344 := eq_true q344
     go_wp2_with (first | ((with_reducible refine gate_dst (N := 8) rfl ?_); refine zx 8 #[.int .i64 0, .int .i64 0, .int .i64 0] 63 ?_; intro gb345 hg w23 hbox hb; have n0_ := aM (Kd.R_below (Kd.R_elderB (mR_ HO_6.out) gb345 (Nat.le_of_eq hg.symm)) hb); have n1_ := aM (blk_below (g := gb338) (o := .cells #[.int .i64 x339000_1, .int .i64 x339001_1, .int .i64 x339002_1] 63 (0, 0)) (mB_ BK338.out) hb); have n2_ := aM (below_step (zs GE338.out) hb); have n3_ := aM (hbox); have n4_ := aM ((zf GE338.out : w.heap.size ≤ gb345)); have n5_ := aM ((zf GE338.out : w.heap.size ≤ gb345)); have n6_ := aM ((zl BK338.out : gb338 ≠ gb345)); have n7_ := aM ((zn BK338.out : gb345 ≠ gb338)); clear HO_6 BK338 HB; have HO_6 := n0_; have BK338 := n1_; have HB := n2_; have BK345 := n3_; have GW345 := n4_; have GE345 := n5_; have NB338_345 := n6_; have NB345_338 := n7_; clear n0_ n1_ n2_ n3_ n4_ n5_ n6_ n7_ hb hbox hg; have hnb24 := NB345_338.out; have hnc24 := NB338_345.out; have hcz25_0 : w23.cell? ⟨gb345, 0, none⟩ = some (.int .i64 0) := (blk_cell BK345.out 0).trans rfl; have hcz25_1 : w23.cell? ⟨gb345, 1, none⟩ = some (.int .i64 0) := (blk_cell BK345.out 1).trans rfl; have hcz25_2 : w23.cell? ⟨gb345, 2, none⟩ = some (.int .i64 0) := (blk_cell BK345.out 2).trans rfl; have hfz25_0 := blk_frozen BK345.out 0; have hfz25_1 := blk_frozen BK345.out 1; have hfz25_2 := blk_frozen BK345.out 2; have hcz26_0 : w23.cell? ⟨gb338, 0, none⟩ = some (.int .i64 x339000_1) := (blk_cell BK338.out 0).trans rfl; have hcz26_1 : w23.cell? ⟨gb338, 1, none⟩ = some (.int .i64 x339001_1) := (blk_cell BK338.out 1).trans rfl; have hcz26_2 : w23.cell? ⟨gb338, 2, none⟩ = some (.int .i64 x339002_1) := (blk_cell BK338.out 2).trans rfl; have hfz26_0 := blk_frozen BK338.out 0; have hfz26_1 := blk_frozen BK338.out 1; have hfz26_2 := blk_frozen BK338.out 2) | ((with_reducible refine gate_builtin (b := .append) (xs := #[.tmp 44, .tmp 61]) rfl ?_); at_builtin; refine Kd.R_append k63 (w0 := w) w.heap.size rfl (.tmp 44) (.tmp 61) 34 63 (.agg #[(.int .i64 0), (.int .i64 0), (.int .i64 0)]) 24 rfl Try.underlying34 info63 rfl (by decide) (by omega) u6 x6_2 (⟨wrap64 (((rd_T63 l0 x40_2).f0) - x339000_1), wrap64 (((rd_T63 l0 x40_2).f1) - x339001_1), wrap64 (((rd_T63 l0 x40_2).f2) - x339002_1)⟩ : S63) [.int .i64 (wrap64 (((rd_T63 l0 x40_2).f0) - x339000_1)), .int .i64 (wrap64 (((rd_T63 l0 x40_2).f1) - x339001_1)), .int .i64 (wrap64 (((rd_T63 l0 x40_2).f2) - x339002_1))] (fun k_ => k_ ≠ gb338 ∧ k_ ≠ gb345) (fun _ => False) rfl (by first | (go_simp; done) | (go_simp; rfl)) ?aP (fun _ hk => hk.elim) ?aF ?aO ?aB ?aS ?aL ?_; (case aP => exact k63_mkM _ _ _ (⟨wrap64 (((rd_T63 l0 x40_2).f0) - x339000_1), wrap64 (((rd_T63 l0 x40_2).f1) - x339001_1), wrap64 (((rd_T63 l0 x40_2).f2) - x339002_1)⟩ : S63)); (case aB => exact (zt GE338.out GE345.out)); (case aF => exact (fun k_ hk => ⟨Kd.freshB (g := gb338) (o := .cells #[.int .i64 x339000_1, .int .i64 x339001_1, .int .i64 x339002_1] 63 (0, 0)) (by (with_reducible repeat (first | refine blk_drewN ?_ _ | refine blk_drew ?_ | refine blk_alloc ?_ _)); refine blk_far ?_ NB338_345.out _; (with_reducible repeat (first | refine blk_drewN ?_ _ | refine blk_drew ?_ | refine blk_alloc ?_ _)); refine blk_far ?_ NB338_345.out _; (with_reducible repeat (first | refine blk_drewN ?_ _ | refine blk_drew ?_ | refine blk_alloc ?_ _)); refine blk_far ?_ NB338_345.out _; (with_reducible repeat (first | refine blk_drewN ?_ _ | refine blk_drew ?_ | refine blk_alloc ?_ _)); exact BK338.out) k_ hk, Kd.freshB (g := gb345) (o := .cells #[.int .i64 ((rd_T63 l0 x40_2).f0), .int .i64 ((rd_T63 l0 x40_2).f1), .int .i64 ((rd_T63 l0 x40_2).f2)] 63 (0, 0)) (by (with_reducible repeat (first | refine blk_drewN ?_ _ | refine blk_drew ?_ | refine blk_alloc ?_ _)); refine blk_put (cs := #[.int .i64 ((rd_T63 l0 x40_2).f0), .int .i64 ((rd_T63 l0 x40_2).f1), .int .i64 0]) ?_ 2 _ rfl; (with_reducible repeat (first | refine blk_drewN ?_ _ | refine blk_drew ?_ | refine blk_alloc ?_ _)); refine blk_put (cs := #[.int .i64 ((rd_T63 l0 x40_2).f0), .int .i64 0, .int .i64 0]) ?_ 1 _ rfl; (with_reducible repeat (first | refine blk_drewN ?_ _ | refine blk_drew ?_ | refine blk_alloc ?_ _)); refine blk_put (cs := #[.int .i64 0, .int .i64 0, .int .i64 0]) ?_ 0 _ rfl; (with_reducible repeat (first | refine blk_drewN ?_ _ | refine blk_drew ?_ | refine blk_alloc ?_ _)); exact BK345.out) k_ hk⟩)); (case aO => exact (by (with_reducible repeat (first | apply Kd.R_alloc | apply Kd.R_drewN | apply Kd.R_drew)); exact Kd.R_mono (Kd.R_far (p := ⟨gb345, 2, none⟩) (Kd.R_far (p := ⟨gb345, 1, none⟩) (Kd.R_far (p := ⟨gb345, 0, none⟩) (Kd.R_mono HO_6.out (fun k_ hk => (⟨hk, hk.2⟩ : _ ∧ k_ ≠ gb345))) (fun _ hk => hk.2) (.int .i64 ((rd_T63 l0 x40_2).f0))) (fun _ hk => hk.2) (.int .i64 ((rd_T63 l0 x40_2).f1))) (fun _ hk => hk.2) (.int .i64 ((rd_T63 l0 x40_2).f2))) (fun _ hk => ⟨hk.1.1, hk.1.2⟩))); (case aS => exact (below_size (zt GE338.out GE345.out))); (case aL => have := LMc22.out; omega); intro v347 w27 ho hb hg hat; rw [← Ny346.out] at ho; have n0_ := aM (blk_grown (g := gb338) (o := .cells #[.int .i64 x339000_1, .int .i64 x339001_1, .int .i64 x339002_1] 63 (0, 0)) (by (with_reducible repeat (first | refine blk_drewN ?_ _ | refine blk_drew ?_ | refine blk_alloc ?_ _)); refine blk_far ?_ NB338_345.out _; (with_reducible repeat (first | refine blk_drewN ?_ _ | refine blk_drew ?_ | refine blk_alloc ?_ _)); refine blk_far ?_ NB338_345.out _; (with_reducible repeat (first | refine blk_drewN ?_ _ | refine blk_drew ?_ | refine blk_alloc ?_ _)); refine blk_far ?_ NB338_345.out _; (with_reducible repeat (first | refine blk_drewN ?_ _ | refine blk_drew ?_ | refine blk_alloc ?_ _)); exact BK338.out) hg (Kd.R_away HO_6.out (fun _ hk => hk.1))); have n1_ := aM (blk_grown (g := gb345) (o := .cells #[.int .i64 ((rd_T63 l0 x40_2).f0), .int .i64 ((rd_T63 l0 x40_2).f1), .int .i64 ((rd_T63 l0 x40_2).f2)] 63 (0, 0)) (by (with_reducible repeat (first | refine blk_drewN ?_ _ | refine blk_drew ?_ | refine blk_alloc ?_ _)); refine blk_put (cs := #[.int .i64 ((rd_T63 l0 x40_2).f0), .int .i64 ((rd_T63 l0 x40_2).f1), .int .i64 0]) ?_ 2 _ rfl; (with_reducible repeat (first | refine blk_drewN ?_ _ | refine blk_drew ?_ | refine blk_alloc ?_ _)); refine blk_put (cs := #[.int .i64 ((rd_T63 l0 x40_2).f0), .int .i64 0, .int .i64 0]) ?_ 1 _ rfl; (with_reducible repeat (first | refine blk_drewN ?_ _ | refine blk_drew ?_ | refine blk_alloc ?_ _)); refine blk_put (cs := #[.int .i64 0, .int .i64 0, .int .i64 0]) ?_ 0 _ rfl; (with_reducible repeat (first | refine blk_drewN ?_ _ | refine blk_drew ?_ | refine blk_alloc ?_ _)); exact BK345.out) hg (Kd.R_away HO_6.out (fun _ hk => hk.2))); have n2_ := aM (hb); have n3_ := aM (ho); clear BK338 BK345 HB HO_6; have BK338 := n0_; have BK345 := n1_; have HB := n2_; have HO348 := n3_; clear n0_ n1_ n2_ n3_; clear ho hb hg hat))
     go_roundg k2
     case measure => have := HK1.out; have := HK2.out; omega
     case rel => exact ⟨(y346), (wrap64 (x40_2 + 1)), zr, H', ⟨by have := HK1.out; have := HK2.out; omega⟩, ⟨zd6 HO348.out⟩, ⟨mB_ BK338.out⟩, ⟨zt GE338.out GE345.out⟩⟩
def cmp_isNaN_int64.f (a0 : Int) : Option (Bool) := some (a0 != a0)
theorem cmp_isNaN_int64.calls (a0 : Int) (r : Bool) (w : World) (h : cmp_isNaN_int64.f a0 = some r) :
  Calls Try.prog 94 #[.int .i64 a0] w fun e w' => e = .returned (.bool r) ∧ Drawn0 w w' := by
 have H : (some (a0 != a0)) = some r := h
 clear h
 obtain rfl := Option.some.inj H
 go_enter Try.func94, Try.ntmps94
 go_wp2
 go_ret
 exact ⟨by first | rfl | (simp; done) | (simp [*]; done), by repeat (first | exact Drawn0.refl _ | apply Drawn0.step)⟩
def cmp_Compare_int64.f (a0 : Int) (a1 : Int) : Option (Int) := (cmp_isNaN_int64.f a0).bind fun t349 => ((cmp_isNaN_int64.f a1).bind fun t350 => (if t349 = true then (if t350 = true then (some 0) else (some (-1))) else (if t350 = true then (some 1) else (if a0 < a1 then (some (-1)) else (if a0 > a1 then (some 1) else (some 0))))))
theorem cmp_Compare_int64.calls (a0 : Int) (a1 : Int) (r : Int) (w : World) (h : cmp_Compare_int64.f a0 a1 = some r) :
  Calls Try.prog 78 #[.int .i64 a0, .int .i64 a1] w fun e w' => e = .returned (.int .i64 r) ∧ Drawn0 w w' := by
 have H : ((cmp_isNaN_int64.f a0).bind fun t349 => ((cmp_isNaN_int64.f a1).bind fun t350 => (if t349 = true then (if t350 = true then (some 0) else (some (-1))) else (if t350 = true then (some 1) else (if a0 < a1 then (some (-1)) else (if a0 > a1 then (some 1) else (some 0))))))) = some r := h
 clear h
 replace H := Option.bind_eq_some_iff.mp H
 obtain ⟨t349, A30, H⟩ := H
 replace H : ((cmp_isNaN_int64.f a1).bind fun t350 => (if t349 = true then (if t350 = true then (some 0) else (some (-1))) else (if t350 = true then (some 1) else (if a0 < a1 then (some (-1)) else (if a0 > a1 then (some 1) else (some 0)))))) = some r := H
 have A3 := aM A30
 clear A30
 replace H := Option.bind_eq_some_iff.mp H
 obtain ⟨t350, A40, H⟩ := H
 replace H : (if t349 = true then (if t350 = true then (some 0) else (some (-1))) else (if t350 = true then (some 1) else (if a0 < a1 then (some (-1)) else (if a0 > a1 then (some 1) else (some 0))))) = some r := H
 have A4 := aM A40
 clear A40
 by_cases c5 : t349 = true
 ·subst c5
  have H1 : (if t350 = true then (some 0) else (some (-1))) = some r := by rw [if_pos rfl] at H; exact H
  clear H
  have H := H1
  clear H1
  by_cases c6 : t350 = true
  ·subst c6
   have H1 : (some 0) = some r := by rw [if_pos rfl] at H; exact H
   clear H
   have H := H1
   clear H1
   obtain rfl := Option.some.inj H
   go_enter Try.func78, Try.ntmps78
   go_wp2_with (first | ((with_reducible refine gate_callee (f := 94) rfl ?_); refine goesL_ (some 8) rfl rfl Try.func94 (by kernel_rfl) rfl #[.int .i64 a0] rfl zm ?_; (with_reducible refine (cmp_isNaN_int64.calls a0 true _ A3.out).mono ?_); rintro e w' ⟨rfl, ⟨nd, rfl⟩⟩; refine ⟨_, rfl, ?_⟩) | ((with_reducible refine gate_callee (f := 94) rfl ?_); refine goesL_ (some 10) rfl rfl Try.func94 (by kernel_rfl) rfl #[.int .i64 a1] rfl zm ?_; (with_reducible refine (cmp_isNaN_int64.calls a1 true _ A4.out).mono ?_); rintro e w' ⟨rfl, ⟨nd, rfl⟩⟩; refine ⟨_, rfl, ?_⟩))
   go_ret
   exact ⟨by first | rfl | (simp; done) | (simp [*]; done), by repeat (first | exact Drawn0.refl _ | apply Drawn0.step)⟩
  replace c6 := Bool.eq_false_iff.mpr c6
  subst c6
  have H1 : (some (-1)) = some r := by rw [if_neg (show ¬ (false = true) by decide)] at H; exact H
  clear H
  have H := H1
  clear H1
  obtain rfl := Option.some.inj H
  go_enter Try.func78, Try.ntmps78
  go_wp2_with (first | ((with_reducible refine gate_callee (f := 94) rfl ?_); refine goesL_ (some 8) rfl rfl Try.func94 (by kernel_rfl) rfl #[.int .i64 a0] rfl zm ?_; (with_reducible refine (cmp_isNaN_int64.calls a0 true _ A3.out).mono ?_); rintro e w' ⟨rfl, ⟨nd, rfl⟩⟩; refine ⟨_, rfl, ?_⟩) | ((with_reducible refine gate_callee (f := 94) rfl ?_); refine goesL_ (some 10) rfl rfl Try.func94 (by kernel_rfl) rfl #[.int .i64 a1] rfl zm ?_; (with_reducible refine (cmp_isNaN_int64.calls a1 false _ A4.out).mono ?_); rintro e w' ⟨rfl, ⟨nd, rfl⟩⟩; refine ⟨_, rfl, ?_⟩))
  go_ret
  exact ⟨by first | rfl | (simp; done) | (simp [*]; done), by repeat (first | exact Drawn0.refl _ | apply Drawn0.step)⟩
 replace c5 := Bool.eq_false_iff.mpr c5
 subst c5
 have H1 : (if t350 = true then (some 1) else (if a0 < a1 then (some (-1)) else (if a0 > a1 then (some 1) else (some 0)))) = some r := by rw [if_neg (show ¬ (false = true) by decide)] at H; exact H
 clear H
 have H := H1
 clear H1
 by_cases c7 : t350 = true
 ·subst c7
  have H1 : (some 1) = some r := by rw [if_pos rfl] at H; exact H
  clear H
  have H := H1
  clear H1
  obtain rfl := Option.some.inj H
  go_enter Try.func78, Try.ntmps78
  go_wp2_with (first | ((with_reducible refine gate_callee (f := 94) rfl ?_); refine goesL_ (some 8) rfl rfl Try.func94 (by kernel_rfl) rfl #[.int .i64 a0] rfl zm ?_; (with_reducible refine (cmp_isNaN_int64.calls a0 false _ A3.out).mono ?_); rintro e w' ⟨rfl, ⟨nd, rfl⟩⟩; refine ⟨_, rfl, ?_⟩) | ((with_reducible refine gate_callee (f := 94) rfl ?_); refine goesL_ (some 10) rfl rfl Try.func94 (by kernel_rfl) rfl #[.int .i64 a1] rfl zm ?_; (with_reducible refine (cmp_isNaN_int64.calls a1 true _ A4.out).mono ?_); rintro e w' ⟨rfl, ⟨nd, rfl⟩⟩; refine ⟨_, rfl, ?_⟩))
  go_ret
  exact ⟨by first | rfl | (simp; done) | (simp [*]; done), by repeat (first | exact Drawn0.refl _ | apply Drawn0.step)⟩
 replace c7 := Bool.eq_false_iff.mpr c7
 subst c7
 have H1 : (if a0 < a1 then (some (-1)) else (if a0 > a1 then (some 1) else (some 0))) = some r := by rw [if_neg (show ¬ (false = true) by decide)] at H; exact H
 clear H
 have H := H1
 clear H1
 by_cases c8 : a0 < a1
 ·rw [if_pos c8] at H
  have c8b0 : decide (a0 < a1) = true := decide_eq_true c8
  clear c8
  obtain rfl := Option.some.inj H
  go_enter Try.func78, Try.ntmps78
  go_wp2_with (first | ((with_reducible refine gate_callee (f := 94) rfl ?_); refine goesL_ (some 8) rfl rfl Try.func94 (by kernel_rfl) rfl #[.int .i64 a0] rfl zm ?_; (with_reducible refine (cmp_isNaN_int64.calls a0 false _ A3.out).mono ?_); rintro e w' ⟨rfl, ⟨nd, rfl⟩⟩; refine ⟨_, rfl, ?_⟩) | ((with_reducible refine gate_callee (f := 94) rfl ?_); refine goesL_ (some 10) rfl rfl Try.func94 (by kernel_rfl) rfl #[.int .i64 a1] rfl zm ?_; (with_reducible refine (cmp_isNaN_int64.calls a1 false _ A4.out).mono ?_); rintro e w' ⟨rfl, ⟨nd, rfl⟩⟩; refine ⟨_, rfl, ?_⟩))
  go_ret
  exact ⟨by first | rfl | (simp; done) | (simp [*]; done), by repeat (first | exact Drawn0.refl _ | apply Drawn0.step)⟩
 rw [if_neg c8] at H
 have c8b0 : decide (a0 < a1) = false := decide_eq_false c8
 clear c8
 by_cases c9 : a0 > a1
 ·rw [if_pos c9] at H
  have c9b0 : decide (a1 < a0) = true := decide_eq_true c9
  clear c9
  obtain rfl := Option.some.inj H
  go_enter Try.func78, Try.ntmps78
  go_wp2_with (first | ((with_reducible refine gate_callee (f := 94) rfl ?_); refine goesL_ (some 8) rfl rfl Try.func94 (by kernel_rfl) rfl #[.int .i64 a0] rfl zm ?_; (with_reducible refine (cmp_isNaN_int64.calls a0 false _ A3.out).mono ?_); rintro e w' ⟨rfl, ⟨nd, rfl⟩⟩; refine ⟨_, rfl, ?_⟩) | ((with_reducible refine gate_callee (f := 94) rfl ?_); refine goesL_ (some 10) rfl rfl Try.func94 (by kernel_rfl) rfl #[.int .i64 a1] rfl zm ?_; (with_reducible refine (cmp_isNaN_int64.calls a1 false _ A4.out).mono ?_); rintro e w' ⟨rfl, ⟨nd, rfl⟩⟩; refine ⟨_, rfl, ?_⟩))
  go_ret
  exact ⟨by first | rfl | (simp; done) | (simp [*]; done), by repeat (first | exact Drawn0.refl _ | apply Drawn0.step)⟩
 rw [if_neg c9] at H
 have c9b0 : decide (a1 < a0) = false := decide_eq_false c9
 clear c9
 obtain rfl := Option.some.inj H
 go_enter Try.func78, Try.ntmps78
 go_wp2_with (first | ((with_reducible refine gate_callee (f := 94) rfl ?_); refine goesL_ (some 8) rfl rfl Try.func94 (by kernel_rfl) rfl #[.int .i64 a0] rfl zm ?_; (with_reducible refine (cmp_isNaN_int64.calls a0 false _ A3.out).mono ?_); rintro e w' ⟨rfl, ⟨nd, rfl⟩⟩; refine ⟨_, rfl, ?_⟩) | ((with_reducible refine gate_callee (f := 94) rfl ?_); refine goesL_ (some 10) rfl rfl Try.func94 (by kernel_rfl) rfl #[.int .i64 a1] rfl zm ?_; (with_reducible refine (cmp_isNaN_int64.calls a1 false _ A4.out).mono ?_); rintro e w' ⟨rfl, ⟨nd, rfl⟩⟩; refine ⟨_, rfl, ?_⟩))
 go_ret
 exact ⟨by first | rfl | (simp; done) | (simp [*]; done), by repeat (first | exact Drawn0.refl _ | apply Drawn0.step)⟩
def impl_compareCells.f (a0_0 : Int) (a0_1 : Int) (a1_0 : Int) (a1_1 : Int) : Option (Int) := (cmp_Compare_int64.f a0_1 a1_1).bind fun t353 => (if t353 = 0 then ((cmp_Compare_int64.f a0_0 a1_0).bind fun t354 => (some t354)) else (some t353))
theorem impl_compareCells.calls (a0_0 : Int) (a0_1 : Int) (a1_0 : Int) (a1_1 : Int) (r : Int) (w : World) (h : impl_compareCells.f a0_0 a0_1 a1_0 a1_1 = some r) :
  Calls Try.prog 79 #[.agg #[.int .i64 a0_0, .int .i64 a0_1], .agg #[.int .i64 a1_0, .int .i64 a1_1]] w fun e w' => e = .returned (.int .i64 r) ∧ Below w.heap.size w w' := by
 have hu90 := Try.underlying90
 have HB := aM (Below.refl w.heap.size w)
 have H : ((cmp_Compare_int64.f a0_1 a1_1).bind fun t353 => (if t353 = 0 then ((cmp_Compare_int64.f a0_0 a1_0).bind fun t354 => (some t354)) else (some t353))) = some r := h
 clear h
 replace H := Option.bind_eq_some_iff.mp H
 obtain ⟨t353, A30, H⟩ := H
 replace H : (if t353 = 0 then ((cmp_Compare_int64.f a0_0 a1_0).bind fun t354 => (some t354)) else (some t353)) = some r := H
 have A3 := aM A30
 clear A30
 by_cases c4 : t353 = 0
 rotate_left
 ·rw [if_neg c4] at H
  have c4b0 : (t353 == 0) = false := beq_eq_false_iff_ne.mpr c4
  have c4b1 : (t353 != 0) = true := bne_iff_ne.mpr c4
  obtain rfl := Option.some.inj H
  go_enter Try.func79, Try.ntmps79
  go_wp2_with (first | ((with_reducible refine gate_dst (N := 2) rfl ?_); refine zx 2 #[.int .i64 a0_0, .int .i64 a0_1] 90 ?_; intro gb351 hg w11 hbox hb; have n0_ := aM (below_step zb hb); have n1_ := aM (hbox); have n2_ := aM ((ze : w.heap.size ≤ gb351)); have n3_ := aM ((ze : w.heap.size ≤ gb351)); clear HB; have HB := n0_; have BK351 := n1_; have GW351 := n2_; have GE351 := n3_; clear n0_ n1_ n2_ n3_; clear hb hbox hg) | ((with_reducible refine gate_dst (N := 3) rfl ?_); refine zx 3 #[.int .i64 a1_0, .int .i64 a1_1] 90 ?_; intro gb352 hg w12 hbox hb; have n0_ := aM (blk_below (g := gb351) (o := .cells #[.int .i64 a0_0, .int .i64 a0_1] 90 (0, 0)) (mB_ BK351.out) hb); have n1_ := aM (below_step (zs GE351.out) hb); have n2_ := aM (hbox); have n3_ := aM ((zf GE351.out : w.heap.size ≤ gb352)); have n4_ := aM ((zf GE351.out : w.heap.size ≤ gb352)); have n5_ := aM ((zl BK351.out : gb351 ≠ gb352)); have n6_ := aM ((zn BK351.out : gb352 ≠ gb351)); clear BK351 HB; have BK351 := n0_; have HB := n1_; have BK352 := n2_; have GW352 := n3_; have GE352 := n4_; have NB351_352 := n5_; have NB352_351 := n6_; clear n0_ n1_ n2_ n3_ n4_ n5_ n6_ hb hbox hg; have hnb13 := NB351_352.out; have hnc13 := NB352_351.out; have hcz14_0 : w12.cell? ⟨gb351, 0, none⟩ = some (.int .i64 a0_0) := (blk_cell BK351.out 0).trans rfl; have hcz14_1 : w12.cell? ⟨gb351, 1, none⟩ = some (.int .i64 a0_1) := (blk_cell BK351.out 1).trans rfl; have hfz14_0 := blk_frozen BK351.out 0; have hfz14_1 := blk_frozen BK351.out 1; have hcz15_0 : w12.cell? ⟨gb352, 0, none⟩ = some (.int .i64 a1_0) := (blk_cell BK352.out 0).trans rfl; have hcz15_1 : w12.cell? ⟨gb352, 1, none⟩ = some (.int .i64 a1_1) := (blk_cell BK352.out 1).trans rfl; have hfz15_0 := blk_frozen BK352.out 0; have hfz15_1 := blk_frozen BK352.out 1) | ((with_reducible refine gate_callee (f := 78) rfl ?_); refine goesL_ (some 10) rfl rfl Try.func78 (by kernel_rfl) rfl #[.int .i64 a0_1, .int .i64 a1_1] rfl zm ?_; (with_reducible refine (cmp_Compare_int64.calls a0_1 a1_1 t353 _ A3.out).mono ?_); rintro e w' ⟨rfl, ⟨nd, rfl⟩⟩; refine ⟨_, rfl, ?_⟩))
  go_ret
  exact ⟨zw, zt GE351.out GE352.out⟩
 rw [if_pos c4] at H
 have c4b0 : (t353 == 0) = true := beq_iff_eq.mpr c4
 have c4b1 : (t353 != 0) = false := bne_eq_false_iff_eq.mpr c4
 clear c4
 replace H := Option.bind_eq_some_iff.mp H
 obtain ⟨t354, A50, H⟩ := H
 replace H : (some t354) = some r := H
 have A5 := aM A50
 clear A50
 obtain rfl := Option.some.inj H
 go_enter Try.func79, Try.ntmps79
 go_wp2_with (first | ((with_reducible refine gate_dst (N := 2) rfl ?_); refine zx 2 #[.int .i64 a0_0, .int .i64 a0_1] 90 ?_; intro gb351 hg w6 hbox hb; have n0_ := aM (below_step zb hb); have n1_ := aM (hbox); have n2_ := aM ((ze : w.heap.size ≤ gb351)); have n3_ := aM ((ze : w.heap.size ≤ gb351)); clear HB; have HB := n0_; have BK351 := n1_; have GW351 := n2_; have GE351 := n3_; clear n0_ n1_ n2_ n3_; clear hb hbox hg) | ((with_reducible refine gate_dst (N := 3) rfl ?_); refine zx 3 #[.int .i64 a1_0, .int .i64 a1_1] 90 ?_; intro gb352 hg w7 hbox hb; have n0_ := aM (blk_below (g := gb351) (o := .cells #[.int .i64 a0_0, .int .i64 a0_1] 90 (0, 0)) (mB_ BK351.out) hb); have n1_ := aM (below_step (zs GE351.out) hb); have n2_ := aM (hbox); have n3_ := aM ((zf GE351.out : w.heap.size ≤ gb352)); have n4_ := aM ((zf GE351.out : w.heap.size ≤ gb352)); have n5_ := aM ((zl BK351.out : gb351 ≠ gb352)); have n6_ := aM ((zn BK351.out : gb352 ≠ gb351)); clear BK351 HB; have BK351 := n0_; have HB := n1_; have BK352 := n2_; have GW352 := n3_; have GE352 := n4_; have NB351_352 := n5_; have NB352_351 := n6_; clear n0_ n1_ n2_ n3_ n4_ n5_ n6_ hb hbox hg; have hnb8 := NB351_352.out; have hnc8 := NB352_351.out; have hcz9_0 : w7.cell? ⟨gb351, 0, none⟩ = some (.int .i64 a0_0) := (blk_cell BK351.out 0).trans rfl; have hcz9_1 : w7.cell? ⟨gb351, 1, none⟩ = some (.int .i64 a0_1) := (blk_cell BK351.out 1).trans rfl; have hfz9_0 := blk_frozen BK351.out 0; have hfz9_1 := blk_frozen BK351.out 1; have hcz10_0 : w7.cell? ⟨gb352, 0, none⟩ = some (.int .i64 a1_0) := (blk_cell BK352.out 0).trans rfl; have hcz10_1 : w7.cell? ⟨gb352, 1, none⟩ = some (.int .i64 a1_1) := (blk_cell BK352.out 1).trans rfl; have hfz10_0 := blk_frozen BK352.out 0; have hfz10_1 := blk_frozen BK352.out 1) | ((with_reducible refine gate_callee (f := 78) rfl ?_); refine goesL_ (some 10) rfl rfl Try.func78 (by kernel_rfl) rfl #[.int .i64 a0_1, .int .i64 a1_1] rfl zm ?_; (with_reducible refine (cmp_Compare_int64.calls a0_1 a1_1 t353 _ A3.out).mono ?_); rintro e w' ⟨rfl, ⟨nd, rfl⟩⟩; refine ⟨_, rfl, ?_⟩) | ((with_reducible refine gate_callee (f := 78) rfl ?_); refine goesL_ (some 18) rfl rfl Try.func78 (by kernel_rfl) rfl #[.int .i64 a0_0, .int .i64 a1_0] rfl zm ?_; (with_reducible refine (cmp_Compare_int64.calls a0_0 a1_0 t354 _ A5.out).mono ?_); rintro e w' ⟨rfl, ⟨nd, rfl⟩⟩; refine ⟨_, rfl, ?_⟩))
 go_ret
 exact ⟨zw, zt GE351.out GE352.out⟩
theorem impl_compareCells.callsG (a0_0 : Int) (a0_1 : Int) (a1_0 : Int) (a1_1 : Int) (r : Int) (w : World) (h : impl_compareCells.f a0_0 a0_1 a1_0 a1_1 = some r) :
  Calls Try.prog 79 #[.agg #[.int .i64 a0_0, .int .i64 a0_1], .agg #[.int .i64 a1_0, .int .i64 a1_1]] w fun e w' => e = .returned (.int .i64 r) ∧ BelG w.heap.size w w' := by
 have hu90 := Try.underlying90
 have HB := aM (BelG.refl w.heap.size w)
 have H : ((cmp_Compare_int64.f a0_1 a1_1).bind fun t353 => (if t353 = 0 then ((cmp_Compare_int64.f a0_0 a1_0).bind fun t354 => (some t354)) else (some t353))) = some r := h
 clear h
 replace H := Option.bind_eq_some_iff.mp H
 obtain ⟨t353, A30, H⟩ := H
 replace H : (if t353 = 0 then ((cmp_Compare_int64.f a0_0 a1_0).bind fun t354 => (some t354)) else (some t353)) = some r := H
 have A3 := aM A30
 clear A30
 by_cases c4 : t353 = 0
 rotate_left
 ·rw [if_neg c4] at H
  have c4b0 : (t353 == 0) = false := beq_eq_false_iff_ne.mpr c4
  have c4b1 : (t353 != 0) = true := bne_iff_ne.mpr c4
  obtain rfl := Option.some.inj H
  go_enter Try.func79, Try.ntmps79
  go_wp2_with (first | ((with_reducible refine gate_dst (N := 2) rfl ?_); refine box_eventD ?hg (N := 2) ?hd (cs := #[.int .i64 a0_0, .int .i64 a0_1]) (t := 90) ?hr ?_; (case hd => rfl); (case hg => rfl); (case hr => first | (go_simp; done) | (go_simp; rfl)); intro gb351 hg w11 hbox hb; have n0_ := aM (belG_step zg hb); have n1_ := aM (hbox); have n2_ := aM ((zi : w.heap.size ≤ gb351)); have n3_ := aM ((zi : w.heap.size ≤ gb351)); clear HB; have HB := n0_; have BK351 := n1_; have GW351 := n2_; have GE351 := n3_; clear n0_ n1_ n2_ n3_; clear hb hbox hg) | ((with_reducible refine gate_dst (N := 3) rfl ?_); refine box_eventD ?hg (N := 3) ?hd (cs := #[.int .i64 a1_0, .int .i64 a1_1]) (t := 90) ?hr ?_; (case hd => rfl); (case hg => rfl); (case hr => first | (go_simp; done) | (go_simp; rfl)); intro gb352 hg w12 hbox hb; have n0_ := aM (blk_belG (g := gb351) (o := .cells #[.int .i64 a0_0, .int .i64 a0_1] 90 (0, 0)) (mB_ BK351.out) hb); have n1_ := aM (belG_step (zh GE351.out) hb); have n2_ := aM (hbox); have n3_ := aM ((zj GE351.out : w.heap.size ≤ gb352)); have n4_ := aM ((zj GE351.out : w.heap.size ≤ gb352)); have n5_ := aM ((zl BK351.out : gb351 ≠ gb352)); have n6_ := aM ((zn BK351.out : gb352 ≠ gb351)); clear BK351 HB; have BK351 := n0_; have HB := n1_; have BK352 := n2_; have GW352 := n3_; have GE352 := n4_; have NB351_352 := n5_; have NB352_351 := n6_; clear n0_ n1_ n2_ n3_ n4_ n5_ n6_ hb hbox hg; have hnb13 := NB351_352.out; have hnc13 := NB352_351.out; have hcz14_0 : w12.cell? ⟨gb351, 0, none⟩ = some (.int .i64 a0_0) := (blk_cell BK351.out 0).trans rfl; have hcz14_1 : w12.cell? ⟨gb351, 1, none⟩ = some (.int .i64 a0_1) := (blk_cell BK351.out 1).trans rfl; have hfz14_0 := blk_frozen BK351.out 0; have hfz14_1 := blk_frozen BK351.out 1; have hcz15_0 : w12.cell? ⟨gb352, 0, none⟩ = some (.int .i64 a1_0) := (blk_cell BK352.out 0).trans rfl; have hcz15_1 : w12.cell? ⟨gb352, 1, none⟩ = some (.int .i64 a1_1) := (blk_cell BK352.out 1).trans rfl; have hfz15_0 := blk_frozen BK352.out 0; have hfz15_1 := blk_frozen BK352.out 1) | ((with_reducible refine gate_callee (f := 78) rfl ?_); refine goesL_ (some 10) rfl rfl Try.func78 (by kernel_rfl) rfl #[.int .i64 a0_1, .int .i64 a1_1] rfl zm ?_; (with_reducible refine (cmp_Compare_int64.calls a0_1 a1_1 t353 _ A3.out).mono ?_); rintro e w' ⟨rfl, ⟨nd, rfl⟩⟩; refine ⟨_, rfl, ?_⟩))
  go_ret
  exact ⟨zw, by repeat (first | (with_reducible first | exact HB.out | apply belG_alloc | apply pw_belG_drewN | apply belG_drew1 | refine belG_set ?_ GE351.out | refine belG_set ?_ GE352.out) | exact HB.out)⟩
 rw [if_pos c4] at H
 have c4b0 : (t353 == 0) = true := beq_iff_eq.mpr c4
 have c4b1 : (t353 != 0) = false := bne_eq_false_iff_eq.mpr c4
 clear c4
 replace H := Option.bind_eq_some_iff.mp H
 obtain ⟨t354, A50, H⟩ := H
 replace H : (some t354) = some r := H
 have A5 := aM A50
 clear A50
 obtain rfl := Option.some.inj H
 go_enter Try.func79, Try.ntmps79
 go_wp2_with (first | ((with_reducible refine gate_dst (N := 2) rfl ?_); refine box_eventD ?hg (N := 2) ?hd (cs := #[.int .i64 a0_0, .int .i64 a0_1]) (t := 90) ?hr ?_; (case hd => rfl); (case hg => rfl); (case hr => first | (go_simp; done) | (go_simp; rfl)); intro gb351 hg w6 hbox hb; have n0_ := aM (belG_step zg hb); have n1_ := aM (hbox); have n2_ := aM ((zi : w.heap.size ≤ gb351)); have n3_ := aM ((zi : w.heap.size ≤ gb351)); clear HB; have HB := n0_; have BK351 := n1_; have GW351 := n2_; have GE351 := n3_; clear n0_ n1_ n2_ n3_; clear hb hbox hg) | ((with_reducible refine gate_dst (N := 3) rfl ?_); refine box_eventD ?hg (N := 3) ?hd (cs := #[.int .i64 a1_0, .int .i64 a1_1]) (t := 90) ?hr ?_; (case hd => rfl); (case hg => rfl); (case hr => first | (go_simp; done) | (go_simp; rfl)); intro gb352 hg w7 hbox hb; have n0_ := aM (blk_belG (g := gb351) (o := .cells #[.int .i64 a0_0, .int .i64 a0_1] 90 (0, 0)) (mB_ BK351.out) hb); have n1_ := aM (belG_step (zh GE351.out) hb); have n2_ := aM (hbox); have n3_ := aM ((zj GE351.out : w.heap.size ≤ gb352)); have n4_ := aM ((zj GE351.out : w.heap.size ≤ gb352)); have n5_ := aM ((zl BK351.out : gb351 ≠ gb352)); have n6_ := aM ((zn BK351.out : gb352 ≠ gb351)); clear BK351 HB; have BK351 := n0_; have HB := n1_; have BK352 := n2_; have GW352 := n3_; have GE352 := n4_; have NB351_352 := n5_; have NB352_351 := n6_; clear n0_ n1_ n2_ n3_ n4_ n5_ n6_ hb hbox hg; have hnb8 := NB351_352.out; have hnc8 := NB352_351.out; have hcz9_0 : w7.cell? ⟨gb351, 0, none⟩ = some (.int .i64 a0_0) := (blk_cell BK351.out 0).trans rfl; have hcz9_1 : w7.cell? ⟨gb351, 1, none⟩ = some (.int .i64 a0_1) := (blk_cell BK351.out 1).trans rfl; have hfz9_0 := blk_frozen BK351.out 0; have hfz9_1 := blk_frozen BK351.out 1; have hcz10_0 : w7.cell? ⟨gb352, 0, none⟩ = some (.int .i64 a1_0) := (blk_cell BK352.out 0).trans rfl; have hcz10_1 : w7.cell? ⟨gb352, 1, none⟩ = some (.int .i64 a1_1) := (blk_cell BK352.out 1).trans rfl; have hfz10_0 := blk_frozen BK352.out 0; have hfz10_1 := blk_frozen BK352.out 1) | ((with_reducible refine gate_callee (f := 78) rfl ?_); refine goesL_ (some 10) rfl rfl Try.func78 (by kernel_rfl) rfl #[.int .i64 a0_1, .int .i64 a1_1] rfl zm ?_; (with_reducible refine (cmp_Compare_int64.calls a0_1 a1_1 t353 _ A3.out).mono ?_); rintro e w' ⟨rfl, ⟨nd, rfl⟩⟩; refine ⟨_, rfl, ?_⟩) | ((with_reducible refine gate_callee (f := 78) rfl ?_); refine goesL_ (some 18) rfl rfl Try.func78 (by kernel_rfl) rfl #[.int .i64 a0_0, .int .i64 a1_0] rfl zm ?_; (with_reducible refine (cmp_Compare_int64.calls a0_0 a1_0 t354 _ A5.out).mono ?_); rintro e w' ⟨rfl, ⟨nd, rfl⟩⟩; refine ⟨_, rfl, ?_⟩))
 go_ret
 exact ⟨zw, by repeat (first | (with_reducible first | exact HB.out | apply belG_alloc | apply pw_belG_drewN | apply belG_drew1 | refine belG_set ?_ GE351.out | refine belG_set ?_ GE352.out) | exact HB.out)⟩
def impl_compareCubes.f (a0_0 : Int) (a0_1 : Int) (a0_2 : Int) (a1_0 : Int) (a1_1 : Int) (a1_2 : Int) : Option (Int) := (cmp_Compare_int64.f a0_2 a1_2).bind fun t357 => (if t357 = 0 then ((impl_compareCells.f a0_0 a0_1 a1_0 a1_1).bind fun t358 => (some t358)) else (some t357))
theorem impl_compareCubes.calls (a0_0 : Int) (a0_1 : Int) (a0_2 : Int) (a1_0 : Int) (a1_1 : Int) (a1_2 : Int) (r : Int) (w : World) (h : impl_compareCubes.f a0_0 a0_1 a0_2 a1_0 a1_1 a1_2 = some r) :
  Calls Try.prog 61 #[.agg #[.int .i64 a0_0, .int .i64 a0_1, .int .i64 a0_2], .agg #[.int .i64 a1_0, .int .i64 a1_1, .int .i64 a1_2]] w fun e w' => e = .returned (.int .i64 r) ∧ Below w.heap.size w w' := by
 have hu63 := Try.underlying63
 have hu90 := Try.underlying90
 have HB := aM (Below.refl w.heap.size w)
 have H : ((cmp_Compare_int64.f a0_2 a1_2).bind fun t357 => (if t357 = 0 then ((impl_compareCells.f a0_0 a0_1 a1_0 a1_1).bind fun t358 => (some t358)) else (some t357))) = some r := h
 clear h
 replace H := Option.bind_eq_some_iff.mp H
 obtain ⟨t357, A30, H⟩ := H
 replace H : (if t357 = 0 then ((impl_compareCells.f a0_0 a0_1 a1_0 a1_1).bind fun t358 => (some t358)) else (some t357)) = some r := H
 have A3 := aM A30
 clear A30
 by_cases c4 : t357 = 0
 rotate_left
 ·rw [if_neg c4] at H
  have c4b0 : (t357 == 0) = false := beq_eq_false_iff_ne.mpr c4
  have c4b1 : (t357 != 0) = true := bne_iff_ne.mpr c4
  obtain rfl := Option.some.inj H
  go_enter Try.func61, Try.ntmps61
  go_wp2_with (first | ((with_reducible refine gate_dst (N := 2) rfl ?_); refine zx 2 #[.int .i64 a0_0, .int .i64 a0_1, .int .i64 a0_2] 63 ?_; intro gb355 hg w12 hbox hb; have n0_ := aM (below_step zb hb); have n1_ := aM (hbox); have n2_ := aM ((ze : w.heap.size ≤ gb355)); have n3_ := aM ((ze : w.heap.size ≤ gb355)); clear HB; have HB := n0_; have BK355 := n1_; have GW355 := n2_; have GE355 := n3_; clear n0_ n1_ n2_ n3_; clear hb hbox hg) | ((with_reducible refine gate_dst (N := 3) rfl ?_); refine zx 3 #[.int .i64 a1_0, .int .i64 a1_1, .int .i64 a1_2] 63 ?_; intro gb356 hg w13 hbox hb; have n0_ := aM (blk_below (g := gb355) (o := .cells #[.int .i64 a0_0, .int .i64 a0_1, .int .i64 a0_2] 63 (0, 0)) (mB_ BK355.out) hb); have n1_ := aM (below_step (zs GE355.out) hb); have n2_ := aM (hbox); have n3_ := aM ((zf GE355.out : w.heap.size ≤ gb356)); have n4_ := aM ((zf GE355.out : w.heap.size ≤ gb356)); have n5_ := aM ((zl BK355.out : gb355 ≠ gb356)); have n6_ := aM ((zn BK355.out : gb356 ≠ gb355)); clear BK355 HB; have BK355 := n0_; have HB := n1_; have BK356 := n2_; have GW356 := n3_; have GE356 := n4_; have NB355_356 := n5_; have NB356_355 := n6_; clear n0_ n1_ n2_ n3_ n4_ n5_ n6_ hb hbox hg; have hnb14 := NB355_356.out; have hnc14 := NB356_355.out; have hcz15_0 : w13.cell? ⟨gb355, 0, none⟩ = some (.int .i64 a0_0) := (blk_cell BK355.out 0).trans rfl; have hcz15_1 : w13.cell? ⟨gb355, 1, none⟩ = some (.int .i64 a0_1) := (blk_cell BK355.out 1).trans rfl; have hcz15_2 : w13.cell? ⟨gb355, 2, none⟩ = some (.int .i64 a0_2) := (blk_cell BK355.out 2).trans rfl; have hfz15_0 := blk_frozen BK355.out 0; have hfz15_1 := blk_frozen BK355.out 1; have hfz15_2 := blk_frozen BK355.out 2; have hcz16_0 : w13.cell? ⟨gb356, 0, none⟩ = some (.int .i64 a1_0) := (blk_cell BK356.out 0).trans rfl; have hcz16_1 : w13.cell? ⟨gb356, 1, none⟩ = some (.int .i64 a1_1) := (blk_cell BK356.out 1).trans rfl; have hcz16_2 : w13.cell? ⟨gb356, 2, none⟩ = some (.int .i64 a1_2) := (blk_cell BK356.out 2).trans rfl; have hfz16_0 := blk_frozen BK356.out 0; have hfz16_1 := blk_frozen BK356.out 1; have hfz16_2 := blk_frozen BK356.out 2) | ((with_reducible refine gate_callee (f := 78) rfl ?_); refine goesL_ (some 10) rfl rfl Try.func78 (by kernel_rfl) rfl #[.int .i64 a0_2, .int .i64 a1_2] rfl zm ?_; (with_reducible refine (cmp_Compare_int64.calls a0_2 a1_2 t357 _ A3.out).mono ?_); rintro e w' ⟨rfl, ⟨nd, rfl⟩⟩; refine ⟨_, rfl, ?_⟩))
  go_ret
  exact ⟨zw, zt GE355.out GE356.out⟩
 rw [if_pos c4] at H
 have c4b0 : (t357 == 0) = true := beq_iff_eq.mpr c4
 have c4b1 : (t357 != 0) = false := bne_eq_false_iff_eq.mpr c4
 clear c4
 replace H := Option.bind_eq_some_iff.mp H
 obtain ⟨t358, A50, H⟩ := H
 replace H : (some t358) = some r := H
 have A5 := aM A50
 clear A50
 obtain rfl := Option.some.inj H
 go_enter Try.func61, Try.ntmps61
 go_wp2_with (first | ((with_reducible refine gate_dst (N := 2) rfl ?_); refine zx 2 #[.int .i64 a0_0, .int .i64 a0_1, .int .i64 a0_2] 63 ?_; intro gb355 hg w6 hbox hb; have n0_ := aM (below_step zb hb); have n1_ := aM (hbox); have n2_ := aM ((ze : w.heap.size ≤ gb355)); have n3_ := aM ((ze : w.heap.size ≤ gb355)); clear HB; have HB := n0_; have BK355 := n1_; have GW355 := n2_; have GE355 := n3_; clear n0_ n1_ n2_ n3_; clear hb hbox hg) | ((with_reducible refine gate_dst (N := 3) rfl ?_); refine zx 3 #[.int .i64 a1_0, .int .i64 a1_1, .int .i64 a1_2] 63 ?_; intro gb356 hg w7 hbox hb; have n0_ := aM (blk_below (g := gb355) (o := .cells #[.int .i64 a0_0, .int .i64 a0_1, .int .i64 a0_2] 63 (0, 0)) (mB_ BK355.out) hb); have n1_ := aM (below_step (zs GE355.out) hb); have n2_ := aM (hbox); have n3_ := aM ((zf GE355.out : w.heap.size ≤ gb356)); have n4_ := aM ((zf GE355.out : w.heap.size ≤ gb356)); have n5_ := aM ((zl BK355.out : gb355 ≠ gb356)); have n6_ := aM ((zn BK355.out : gb356 ≠ gb355)); clear BK355 HB; have BK355 := n0_; have HB := n1_; have BK356 := n2_; have GW356 := n3_; have GE356 := n4_; have NB355_356 := n5_; have NB356_355 := n6_; clear n0_ n1_ n2_ n3_ n4_ n5_ n6_ hb hbox hg; have hnb8 := NB355_356.out; have hnc8 := NB356_355.out; have hcz9_0 : w7.cell? ⟨gb355, 0, none⟩ = some (.int .i64 a0_0) := (blk_cell BK355.out 0).trans rfl; have hcz9_1 : w7.cell? ⟨gb355, 1, none⟩ = some (.int .i64 a0_1) := (blk_cell BK355.out 1).trans rfl; have hcz9_2 : w7.cell? ⟨gb355, 2, none⟩ = some (.int .i64 a0_2) := (blk_cell BK355.out 2).trans rfl; have hfz9_0 := blk_frozen BK355.out 0; have hfz9_1 := blk_frozen BK355.out 1; have hfz9_2 := blk_frozen BK355.out 2; have hcz10_0 : w7.cell? ⟨gb356, 0, none⟩ = some (.int .i64 a1_0) := (blk_cell BK356.out 0).trans rfl; have hcz10_1 : w7.cell? ⟨gb356, 1, none⟩ = some (.int .i64 a1_1) := (blk_cell BK356.out 1).trans rfl; have hcz10_2 : w7.cell? ⟨gb356, 2, none⟩ = some (.int .i64 a1_2) := (blk_cell BK356.out 2).trans rfl; have hfz10_0 := blk_frozen BK356.out 0; have hfz10_1 := blk_frozen BK356.out 1; have hfz10_2 := blk_frozen BK356.out 2) | ((with_reducible refine gate_callee (f := 78) rfl ?_); refine goesL_ (some 10) rfl rfl Try.func78 (by kernel_rfl) rfl #[.int .i64 a0_2, .int .i64 a1_2] rfl zm ?_; (with_reducible refine (cmp_Compare_int64.calls a0_2 a1_2 t357 _ A3.out).mono ?_); rintro e w' ⟨rfl, ⟨nd, rfl⟩⟩; refine ⟨_, rfl, ?_⟩) | ((with_reducible refine gate_callee (f := 79) rfl ?_); refine goesL_ (some 24) rfl rfl Try.func79 (by kernel_rfl) rfl #[.agg #[.int .i64 a0_0, .int .i64 a0_1], .agg #[.int .i64 a1_0, .int .i64 a1_1]] rfl zm ?_; (with_reducible refine (impl_compareCells.calls a0_0 a0_1 a1_0 a1_1 t358 _ A5.out).mono ?_); rintro e w11 ⟨rfl, hb⟩; refine ⟨_, rfl, ?_⟩; have n0_ := aM (blk_below (g := gb355) (o := .cells #[.int .i64 a0_0, .int .i64 a0_1, .int .i64 a0_2] 63 (0, 0)) (mB_ BK355.out) hb); have n1_ := aM (blk_below (g := gb356) (o := .cells #[.int .i64 a1_0, .int .i64 a1_1, .int .i64 a1_2] 63 (0, 0)) (mB_ BK356.out) hb); have n2_ := aM (below_step (zt GE355.out GE356.out) hb); clear BK355 BK356 HB; have BK355 := n0_; have BK356 := n1_; have HB := n2_; clear n0_ n1_ n2_; (try clear hb); (try clear hb2); (try clear hk); (try clear hi)))
 go_ret
 exact ⟨zw, zt GE355.out GE356.out⟩
theorem impl_compareCubes.callsG (a0_0 : Int) (a0_1 : Int) (a0_2 : Int) (a1_0 : Int) (a1_1 : Int) (a1_2 : Int) (r : Int) (w : World) (h : impl_compareCubes.f a0_0 a0_1 a0_2 a1_0 a1_1 a1_2 = some r) :
  Calls Try.prog 61 #[.agg #[.int .i64 a0_0, .int .i64 a0_1, .int .i64 a0_2], .agg #[.int .i64 a1_0, .int .i64 a1_1, .int .i64 a1_2]] w fun e w' => e = .returned (.int .i64 r) ∧ BelG w.heap.size w w' := by
 have hu63 := Try.underlying63
 have hu90 := Try.underlying90
 have HB := aM (BelG.refl w.heap.size w)
 have H : ((cmp_Compare_int64.f a0_2 a1_2).bind fun t357 => (if t357 = 0 then ((impl_compareCells.f a0_0 a0_1 a1_0 a1_1).bind fun t358 => (some t358)) else (some t357))) = some r := h
 clear h
 replace H := Option.bind_eq_some_iff.mp H
 obtain ⟨t357, A30, H⟩ := H
 replace H : (if t357 = 0 then ((impl_compareCells.f a0_0 a0_1 a1_0 a1_1).bind fun t358 => (some t358)) else (some t357)) = some r := H
 have A3 := aM A30
 clear A30
 by_cases c4 : t357 = 0
 rotate_left
 ·rw [if_neg c4] at H
  have c4b0 : (t357 == 0) = false := beq_eq_false_iff_ne.mpr c4
  have c4b1 : (t357 != 0) = true := bne_iff_ne.mpr c4
  obtain rfl := Option.some.inj H
  go_enter Try.func61, Try.ntmps61
  go_wp2_with (first | ((with_reducible refine gate_dst (N := 2) rfl ?_); refine box_eventD ?hg (N := 2) ?hd (cs := #[.int .i64 a0_0, .int .i64 a0_1, .int .i64 a0_2]) (t := 63) ?hr ?_; (case hd => rfl); (case hg => rfl); (case hr => first | (go_simp; done) | (go_simp; rfl)); intro gb355 hg w12 hbox hb; have n0_ := aM (belG_step zg hb); have n1_ := aM (hbox); have n2_ := aM ((zi : w.heap.size ≤ gb355)); have n3_ := aM ((zi : w.heap.size ≤ gb355)); clear HB; have HB := n0_; have BK355 := n1_; have GW355 := n2_; have GE355 := n3_; clear n0_ n1_ n2_ n3_; clear hb hbox hg) | ((with_reducible refine gate_dst (N := 3) rfl ?_); refine box_eventD ?hg (N := 3) ?hd (cs := #[.int .i64 a1_0, .int .i64 a1_1, .int .i64 a1_2]) (t := 63) ?hr ?_; (case hd => rfl); (case hg => rfl); (case hr => first | (go_simp; done) | (go_simp; rfl)); intro gb356 hg w13 hbox hb; have n0_ := aM (blk_belG (g := gb355) (o := .cells #[.int .i64 a0_0, .int .i64 a0_1, .int .i64 a0_2] 63 (0, 0)) (mB_ BK355.out) hb); have n1_ := aM (belG_step (zh GE355.out) hb); have n2_ := aM (hbox); have n3_ := aM ((zj GE355.out : w.heap.size ≤ gb356)); have n4_ := aM ((zj GE355.out : w.heap.size ≤ gb356)); have n5_ := aM ((zl BK355.out : gb355 ≠ gb356)); have n6_ := aM ((zn BK355.out : gb356 ≠ gb355)); clear BK355 HB; have BK355 := n0_; have HB := n1_; have BK356 := n2_; have GW356 := n3_; have GE356 := n4_; have NB355_356 := n5_; have NB356_355 := n6_; clear n0_ n1_ n2_ n3_ n4_ n5_ n6_ hb hbox hg; have hnb14 := NB355_356.out; have hnc14 := NB356_355.out; have hcz15_0 : w13.cell? ⟨gb355, 0, none⟩ = some (.int .i64 a0_0) := (blk_cell BK355.out 0).trans rfl; have hcz15_1 : w13.cell? ⟨gb355, 1, none⟩ = some (.int .i64 a0_1) := (blk_cell BK355.out 1).trans rfl; have hcz15_2 : w13.cell? ⟨gb355, 2, none⟩ = some (.int .i64 a0_2) := (blk_cell BK355.out 2).trans rfl; have hfz15_0 := blk_frozen BK355.out 0; have hfz15_1 := blk_frozen BK355.out 1; have hfz15_2 := blk_frozen BK355.out 2; have hcz16_0 : w13.cell? ⟨gb356, 0, none⟩ = some (.int .i64 a1_0) := (blk_cell BK356.out 0).trans rfl; have hcz16_1 : w13.cell? ⟨gb356, 1, none⟩ = some (.int .i64 a1_1) := (blk_cell BK356.out 1).trans rfl; have hcz16_2 : w13.cell? ⟨gb356, 2, none⟩ = some (.int .i64 a1_2) := (blk_cell BK356.out 2).trans rfl; have hfz16_0 := blk_frozen BK356.out 0; have hfz16_1 := blk_frozen BK356.out 1; have hfz16_2 := blk_frozen BK356.out 2) | ((with_reducible refine gate_callee (f := 78) rfl ?_); refine goesL_ (some 10) rfl rfl Try.func78 (by kernel_rfl) rfl #[.int .i64 a0_2, .int .i64 a1_2] rfl zm ?_; (with_reducible refine (cmp_Compare_int64.calls a0_2 a1_2 t357 _ A3.out).mono ?_); rintro e w' ⟨rfl, ⟨nd, rfl⟩⟩; refine ⟨_, rfl, ?_⟩))
  go_ret
  exact ⟨zw, by repeat (first | (with_reducible first | exact HB.out | apply belG_alloc | apply pw_belG_drewN | apply belG_drew1 | refine belG_set ?_ GE355.out | refine belG_set ?_ GE356.out) | exact HB.out)⟩
 rw [if_pos c4] at H
 have c4b0 : (t357 == 0) = true := beq_iff_eq.mpr c4
 have c4b1 : (t357 != 0) = false := bne_eq_false_iff_eq.mpr c4
 clear c4
 replace H := Option.bind_eq_some_iff.mp H
 obtain ⟨t358, A50, H⟩ := H
 replace H : (some t358) = some r := H
 have A5 := aM A50
 clear A50
 obtain rfl := Option.some.inj H
 go_enter Try.func61, Try.ntmps61
 go_wp2_with (first | ((with_reducible refine gate_dst (N := 2) rfl ?_); refine box_eventD ?hg (N := 2) ?hd (cs := #[.int .i64 a0_0, .int .i64 a0_1, .int .i64 a0_2]) (t := 63) ?hr ?_; (case hd => rfl); (case hg => rfl); (case hr => first | (go_simp; done) | (go_simp; rfl)); intro gb355 hg w6 hbox hb; have n0_ := aM (belG_step zg hb); have n1_ := aM (hbox); have n2_ := aM ((zi : w.heap.size ≤ gb355)); have n3_ := aM ((zi : w.heap.size ≤ gb355)); clear HB; have HB := n0_; have BK355 := n1_; have GW355 := n2_; have GE355 := n3_; clear n0_ n1_ n2_ n3_; clear hb hbox hg) | ((with_reducible refine gate_dst (N := 3) rfl ?_); refine box_eventD ?hg (N := 3) ?hd (cs := #[.int .i64 a1_0, .int .i64 a1_1, .int .i64 a1_2]) (t := 63) ?hr ?_; (case hd => rfl); (case hg => rfl); (case hr => first | (go_simp; done) | (go_simp; rfl)); intro gb356 hg w7 hbox hb; have n0_ := aM (blk_belG (g := gb355) (o := .cells #[.int .i64 a0_0, .int .i64 a0_1, .int .i64 a0_2] 63 (0, 0)) (mB_ BK355.out) hb); have n1_ := aM (belG_step (zh GE355.out) hb); have n2_ := aM (hbox); have n3_ := aM ((zj GE355.out : w.heap.size ≤ gb356)); have n4_ := aM ((zj GE355.out : w.heap.size ≤ gb356)); have n5_ := aM ((zl BK355.out : gb355 ≠ gb356)); have n6_ := aM ((zn BK355.out : gb356 ≠ gb355)); clear BK355 HB; have BK355 := n0_; have HB := n1_; have BK356 := n2_; have GW356 := n3_; have GE356 := n4_; have NB355_356 := n5_; have NB356_355 := n6_; clear n0_ n1_ n2_ n3_ n4_ n5_ n6_ hb hbox hg; have hnb8 := NB355_356.out; have hnc8 := NB356_355.out; have hcz9_0 : w7.cell? ⟨gb355, 0, none⟩ = some (.int .i64 a0_0) := (blk_cell BK355.out 0).trans rfl; have hcz9_1 : w7.cell? ⟨gb355, 1, none⟩ = some (.int .i64 a0_1) := (blk_cell BK355.out 1).trans rfl; have hcz9_2 : w7.cell? ⟨gb355, 2, none⟩ = some (.int .i64 a0_2) := (blk_cell BK355.out 2).trans rfl; have hfz9_0 := blk_frozen BK355.out 0; have hfz9_1 := blk_frozen BK355.out 1; have hfz9_2 := blk_frozen BK355.out 2; have hcz10_0 : w7.cell? ⟨gb356, 0, none⟩ = some (.int .i64 a1_0) := (blk_cell BK356.out 0).trans rfl; have hcz10_1 : w7.cell? ⟨gb356, 1, none⟩ = some (.int .i64 a1_1) := (blk_cell BK356.out 1).trans rfl; have hcz10_2 : w7.cell? ⟨gb356, 2, none⟩ = some (.int .i64 a1_2) := (blk_cell BK356.out 2).trans rfl; have hfz10_0 := blk_frozen BK356.out 0; have hfz10_1 := blk_frozen BK356.out 1; have hfz10_2 := blk_frozen BK356.out 2) | ((with_reducible refine gate_callee (f := 78) rfl ?_); refine goesL_ (some 10) rfl rfl Try.func78 (by kernel_rfl) rfl #[.int .i64 a0_2, .int .i64 a1_2] rfl zm ?_; (with_reducible refine (cmp_Compare_int64.calls a0_2 a1_2 t357 _ A3.out).mono ?_); rintro e w' ⟨rfl, ⟨nd, rfl⟩⟩; refine ⟨_, rfl, ?_⟩) | ((with_reducible refine gate_callee (f := 79) rfl ?_); refine goesL_ (some 24) rfl rfl Try.func79 (by kernel_rfl) rfl #[.agg #[.int .i64 a0_0, .int .i64 a0_1], .agg #[.int .i64 a1_0, .int .i64 a1_1]] rfl zm ?_; (with_reducible refine (impl_compareCells.callsG a0_0 a0_1 a1_0 a1_1 t358 _ A5.out).mono ?_); rintro e w11 ⟨rfl, hb⟩; refine ⟨_, rfl, ?_⟩; have n0_ := aM (blk_belG (g := gb355) (o := .cells #[.int .i64 a0_0, .int .i64 a0_1, .int .i64 a0_2] 63 (0, 0)) (mB_ BK355.out) hb); have n1_ := aM (blk_belG (g := gb356) (o := .cells #[.int .i64 a1_0, .int .i64 a1_1, .int .i64 a1_2] 63 (0, 0)) (mB_ BK356.out) hb); have n2_ := aM (belG_step (by repeat (first | (with_reducible first | exact HB.out | apply belG_alloc | apply pw_belG_drewN | apply belG_drew1 | refine belG_set ?_ GE355.out | refine belG_set ?_ GE356.out) | exact HB.out)) hb); clear BK355 BK356 HB; have BK355 := n0_; have BK356 := n1_; have HB := n2_; clear n0_ n1_ n2_; (try clear hb); (try clear hb2); (try clear hk); (try clear hi)))
 go_ret
 exact ⟨zw, by repeat (first | (with_reducible first | exact HB.out | apply belG_alloc | apply pw_belG_drewN | apply belG_drew1 | refine belG_set ?_ GE355.out | refine belG_set ?_ GE356.out) | exact HB.out)⟩
def sortC_lays_ren : Go.Shelf.Ren := ⟨fun | 6 => 60 | 15 => 77 | 14 => 76 | 28 => 92 | 29 => 93 | 20 => 84 | 21 => 85 | 22 => 86 | 23 => 87 | 24 => 88 | 25 => 89 | 26 => 90 | 27 => 91 | 46 => 104 | 47 => 105 | 48 => 106 | 49 => 107 | 50 => 108 | 57 => 112 | n => n, fun | 22 => 34 | 24 => 63 | 25 => 73 | 3 => 3 | 39 => 86 | 0 => 0 | 53 => 104 | 55 => 106 | 4 => 4 | 46 => 97 | 45 => 96 | 50 => 101 | 5 => 5 | 9 => 9 | 66 => 113 | 70 => 117 | 76 => 121 | 77 => 122 | n => n, fun n => n⟩
theorem sortC_lays : SlLaysF0.n6 Try.prog sortC_lays_ren where
  mixed := by kernel_rfl
  f6 := ⟨Try.f60.name, by kernel_rfl, Try.func60.trans (congrArg some (by kernel_rfl))⟩
  f14 := ⟨Try.f76.name, by kernel_rfl, Try.func76.trans (congrArg some (by kernel_rfl))⟩
  f15 := Try.func77.trans (congrArg some (by kernel_rfl))
  f20 := ⟨Try.f84.name, by kernel_rfl, Try.func84.trans (congrArg some (by kernel_rfl))⟩
  f21 := ⟨Try.f85.name, by kernel_rfl, Try.func85.trans (congrArg some (by kernel_rfl))⟩
  f22 := ⟨Try.f86.name, by kernel_rfl, Try.func86.trans (congrArg some (by kernel_rfl))⟩
  f23 := ⟨Try.f87.name, by kernel_rfl, Try.func87.trans (congrArg some (by kernel_rfl))⟩
  f24 := ⟨Try.f88.name, by kernel_rfl, Try.func88.trans (congrArg some (by kernel_rfl))⟩
  f25 := ⟨Try.f89.name, by kernel_rfl, Try.func89.trans (congrArg some (by kernel_rfl))⟩
  f26 := ⟨Try.f90.name, by kernel_rfl, Try.func90.trans (congrArg some (by kernel_rfl))⟩
  f27 := ⟨Try.f91.name, by kernel_rfl, Try.func91.trans (congrArg some (by kernel_rfl))⟩
  f28 := Try.func92.trans (congrArg some (by kernel_rfl))
  f29 := Try.func93.trans (congrArg some (by kernel_rfl))
  f46 := ⟨Try.f104.name, by kernel_rfl, Try.func104.trans (congrArg some (by kernel_rfl))⟩
  f47 := Try.func105.trans (congrArg some (by kernel_rfl))
  f48 := Try.func106.trans (congrArg some (by kernel_rfl))
  f49 := ⟨Try.f107.name, by kernel_rfl, Try.func107.trans (congrArg some (by kernel_rfl))⟩
  f50 := ⟨Try.f108.name, by kernel_rfl, Try.func108.trans (congrArg some (by kernel_rfl))⟩
  f57 := ⟨Try.f112.name, by kernel_rfl, Try.func112.trans (congrArg some (by kernel_rfl))⟩
  t0 := Try.underlying0
  a0 := Try.isAgg0
  z0 := Try.sizeOf0
  v0 := Try.zeroValue0
  t3 := Try.underlying3
  a3 := Try.isAgg3
  z3 := Try.sizeOf3
  v3 := Try.zeroValue3
  t4 := Try.underlying4
  a4 := Try.isAgg4
  z4 := Try.sizeOf4
  v4 := Try.zeroValue4
  t5 := Try.underlying5
  a5 := Try.isAgg5
  z5 := Try.sizeOf5
  v5 := Try.zeroValue5
  t9 := Try.underlying9
  a9 := Try.isAgg9
  z9 := Try.sizeOf9
  v9 := Try.zeroValue9
  t22 := Try.underlying34
  a22 := Try.isAgg34
  z22 := Try.sizeOf34
  v22 := Try.zeroValue34
  t25 := Try.underlying73
  a25 := Try.isAgg73
  z25 := Try.sizeOf73
  v25 := Try.zeroValue73
  t39 := Try.underlying86
  a39 := Try.isAgg86
  z39 := Try.sizeOf86
  v39 := Try.zeroValue86
  t45 := Try.underlying96
  a45 := Try.isAgg96
  z45 := Try.sizeOf96
  v45 := Try.zeroValue96
  t46 := Try.underlying97
  a46 := Try.isAgg97
  z46 := Try.sizeOf97
  v46 := Try.zeroValue97
  t50 := Try.underlying101
  a50 := Try.isAgg101
  z50 := Try.sizeOf101
  v50 := Try.zeroValue101
  t53 := Try.underlying104
  a53 := Try.isAgg104
  z53 := Try.sizeOf104
  v53 := Try.zeroValue104
  t55 := Try.underlying106
  a55 := Try.isAgg106
  z55 := Try.sizeOf106
  v55 := Try.zeroValue106
  t66 := Try.underlying113
  a66 := Try.isAgg113
  z66 := Try.sizeOf113
  v66 := Try.zeroValue113
  t70 := Try.underlying117
  a70 := Try.isAgg117
  z70 := Try.sizeOf117
  v70 := Try.zeroValue117
  t76 := Try.underlying121
  a76 := Try.isAgg121
  z76 := Try.sizeOf121
  v76 := Try.zeroValue121
  t77 := Try.underlying122
  a77 := Try.isAgg122
  z77 := Try.sizeOf122
  v77 := Try.zeroValue122
def cI (a b : Int) : Int := if a < b then -1 else if a > b then 1 else 0
def cmpV (x y : S63) : Int := if cI x.f2 y.f2 = 0 then (if cI x.f1 y.f1 = 0 then cI x.f0 y.f0 else cI x.f1 y.f1) else cI x.f2 y.f2
open Go.Sort
instance instSortC : Inhabited S63 := ⟨z63⟩
abbrev encC (x : S63) : List Value := [.int .i64 x.f0, .int .i64 x.f1, .int .i64 x.f2]
theorem putRow_heap (w : World) (g : Nat) (F : Array Value) {cur : Array Value} {e : TypeId} {fr : Nat × Nat} (h : w.heap[g]? = some (.cells cur e fr)) : (Go.Sort.putRow id w g 0 F).heap[g]? = some (.cells (Go.Sort.putCells id 0 F cur) e fr) := by
  unfold Go.Sort.putRow Go.Sort.mapBlock
  rw [Array.getElem?_modify, if_pos rfl, h]
  rfl
theorem putCells_take (F cur : Array Value) (h : F.size ≤ cur.size) : (Go.Sort.putCells id 0 F cur).toList.take F.size = F.toList := by
  apply List.ext_getElem?
  intro i
  by_cases hi : i < F.size
  · rw [List.getElem?_take_of_lt hi]
    simp only [Go.Sort.putCells, Array.getElem?_toList, Array.getElem?_mapIdx]
    rw [Array.getElem?_eq_getElem (show i < cur.size by omega), Array.getElem?_eq_getElem hi, Option.map_some, if_pos (by omega)]
    simp [getElem!_pos F i hi]
  · rw [List.getElem?_eq_none (by simp; omega), List.getElem?_eq_none (by simp; omega)]
theorem own_put {w : World} {base g cap n size : Nat} {e : TypeId} {xs : List Value} (h : w.ownsRow base e size (.slice (some ⟨g, 0, none⟩) n cap) n xs) (F : Array Value) (hF : F.size = n * size) : (Go.Sort.putRow id w g 0 F).ownsRow base e size (.slice (some ⟨g, 0, none⟩) n cap) n F.toList := by
  obtain ⟨h1, h2⟩ := h
  refine ⟨by simpa using hF, ?_⟩
  rcases h2 with ⟨h2, _⟩ | ⟨g', cap', cur, h2, h3, h4, h5, h6, h7, h8⟩
  · cases h2
  · injection h2 with h2 _ h9
    injection h2 with h2
    injection h2 with h2
    subst h2 h9
    refine .inr ⟨g, cap, _, rfl, h3, putRow_heap w g F h4, h5, h6, by simpa [Go.Sort.putCells] using h7, ?_⟩
    rw [← hF]
    exact putCells_take F cur (by rw [hF, h7]; exact Nat.mul_le_mul_right _ h5)
theorem flat_get (d : Array S63) (t : Nat) (ht : t < d.size * 3) : (flatK encC 3 d).toList[t]? = (encC d[t / 3]!)[t % 3]? := by
  have hs : (flatK encC 3 d).size = d.size * 3 := size_flatK _ _ _
  have h := get_flatK encC 3 d t ht
  have ht' : t < (flatK encC 3 d).size := by rw [hs]; exact ht
  rw [Array.getElem?_toList, Array.getElem?_eq_getElem ht', ← getElem!_pos (flatK encC 3 d) t ht', h]
  have hm : t % 3 < (encC d[t / 3]!).length := Nat.mod_lt _ (by decide)
  rw [List.getElem?_eq_getElem hm, getElem!_pos (encC d[t / 3]!) (t % 3) hm]
theorem flat_reps (d : Array S63) (w : World) (base : Nat) (ok : Nat → Prop) : Reps (k63.M w base ok) 3 d.toList (flatK encC 3 d).toList := by
  refine ⟨by simp, fun j p hp => ?_⟩
  have hj : j < d.size := by
    have := List.getElem?_eq_some_iff.1 hp
    obtain ⟨h, _⟩ := this
    simpa using h
  have e : ((flatK encC 3 d).toList.drop (j * 3)).take 3 = encC p := by
    apply List.ext_getElem?
    intro i
    by_cases hi : i < 3
    · rw [List.getElem?_take_of_lt hi, List.getElem?_drop, flat_get d (j * 3 + i) (by omega)]
      have e1 : (j * 3 + i) / 3 = j := by omega
      have e2 : (j * 3 + i) % 3 = i := by omega
      rw [e1, e2]
      have e3 : d[j]! = p := by
        rw [getElem!_pos d j hj]
        rw [Array.getElem?_toList, Array.getElem?_eq_getElem hj] at hp
        exact Option.some.inj hp
      rw [e3]
    · rw [List.getElem?_eq_none (by simp; omega), List.getElem?_eq_none (by simp; omega)]
  rw [e]
  exact ⟨_, _, rfl, rfl, _, _, rfl, rfl, rfl⟩
theorem R_putK {w : World} {base g cap : Nat} {ok : Nat → Prop} {xs : List S63} (h : Kd.R k63 63 w base ok (.slice (some ⟨g, 0, none⟩) xs.length cap) xs) (d : Array S63) (hd : d.size = xs.length) : Kd.R k63 63 (putRowK encC 3 w g 0 d) base ok (.slice (some ⟨g, 0, none⟩) xs.length cap) d.toList := by
  obtain ⟨h1, inner, h2, h3⟩ := h
  have hl : d.toList.length = xs.length := by simpa using hd
  refine ⟨h1, (flatK encC 3 d).toList, ?_, flat_reps d _ _ _⟩
  rw [hl]
  exact own_put h2 _ (by rw [size_flatK, hd]; rfl)
theorem R_holds {w : World} {base g cap : Nat} {ok : Nat → Prop} {xs : List S63} (h : Kd.R k63 63 w base ok (.slice (some ⟨g, 0, none⟩) xs.length cap) xs) : HoldsK encC 3 w g 0 xs.toArray := by
  obtain ⟨h1, inner, ⟨h2, h3⟩, h4, h5⟩ := h
  rcases h3 with ⟨h3, _⟩ | ⟨g', cap', cur, h3, h6, h7, h8, h9, h10, h11⟩
  · cases h3
  · injection h3 with h3 _ h12
    injection h3 with h3
    injection h3 with h3
    subst h3 h12
    intro t ht
    rw [size_flatK] at ht
    have ht2 : t < xs.length * 3 := by simpa using ht
    refine ⟨?_, by rw [Nat.zero_add]; exact blk_frozen h7 t⟩
    rw [Nat.zero_add, blk_cell h7 t]
    have e1 : cur[t]? = inner[t]? := by
      rw [← h11, List.getElem?_take_of_lt (by exact ht2), Array.getElem?_toList]
    have hj : t / 3 < xs.length := by omega
    obtain ⟨c1, c4, hc, hc1, c2, c3, hc4, hc2, hc3⟩ := h5 (t / 3) xs[t / 3] (List.getElem?_eq_getElem hj)
    have e2 : inner[t]? = (encC xs[t / 3])[t % 3]? := by
      have e3 : ((inner.drop (t / 3 * 3)).take 3)[t % 3]? = inner[t]? := by
        rw [List.getElem?_take_of_lt (Nat.mod_lt _ (by decide)), List.getElem?_drop]
        congr 1
        omega
      rw [← e3]
      have : (inner.drop (t / 3 * 3)).take 3 = encC xs[t / 3] := by
        refine hc.trans ?_
        rw [hc4, show c1 = [.int .i64 (xs[t / 3]).f0] from hc1, show c2 = [.int .i64 (xs[t / 3]).f1] from hc2, show c3 = [.int .i64 (xs[t / 3]).f2] from hc3]
        rfl
      rw [this]
    have ht' : t < (flatK encC 3 xs.toArray).size := by rw [size_flatK]; exact ht
    have e4 := flat_get xs.toArray t ht
    rw [Array.getElem?_toList, Array.getElem?_eq_getElem ht'] at e4
    rw [e1, e2]
    have e5 : xs.toArray[t / 3]! = xs[t / 3] := by rw [getElem!_pos xs.toArray (t / 3) (by simpa using hj)]; simp
    rw [e5] at e4
    rw [← e4, getElem!_pos _ t ht']
    rfl
theorem cI_eq (a b : Int) : cmp_Compare_int64.f a b = some (cI a b) := by
  unfold cmp_Compare_int64.f cmp_isNaN_int64.f cI
  simp only [bne_self_eq_false, Option.bind_some, Bool.false_eq_true, if_false]
  split
  · rfl
  · split <;> rfl
theorem cmpV_eq (x y : S63) : impl_compareCubes.f x.f0 x.f1 x.f2 y.f0 y.f1 y.f2 = some (cmpV x y) := by
  unfold impl_compareCubes.f impl_compareCells.f cmpV
  simp only [cI_eq, Option.bind_some]
  split
  · split <;> rfl
  · rfl
theorem ltV (x y : S63) : ltOf cmpV x y = decide (x.f2 < y.f2 ∨ x.f2 = y.f2 ∧ (x.f1 < y.f1 ∨ x.f1 = y.f1 ∧ x.f0 < y.f0)) := by
  unfold ltOf cmpV cI
  rw [Bool.eq_iff_iff]
  rw [decide_eq_true_eq (p := x.f2 < y.f2 ∨ x.f2 = y.f2 ∧ (x.f1 < y.f1 ∨ x.f1 = y.f1 ∧ x.f0 < y.f0))]
  constructor
  · intro h
    rw [decide_eq_true_eq] at h
    repeat' split at h
    all_goals omega
  · intro h
    rw [decide_eq_true_eq]
    repeat' split
    all_goals omega
theorem swoV : SWO (ltOf cmpV) where
  irrefl x := by rw [ltV]; simp
  trans x y z h1 h2 := by
    rw [ltV] at *
    simp only [decide_eq_true_eq] at *
    omega
  ntrans x y z h1 h2 := by
    rw [ltV] at *
    simp only [decide_eq_false_iff_not] at *
    omega
theorem antiV (x y : S63) (h1 : ltOf cmpV x y = false) (h2 : ltOf cmpV y x = false) : x = y := by
  rw [ltV] at *
  simp only [decide_eq_false_iff_not] at *
  obtain ⟨a, b, a3⟩ := x
  obtain ⟨c, d, c3⟩ := y
  simp only [S63.mk.injEq]
  simp only at h1 h2
  omega
def sortC (l : List S63) : List S63 := l.mergeSort fun x y => !ltOf cmpV y x
theorem sortW_grown (w : World) (g n : Nat) (d : Array S63) (os : Array Obj) : w.grownBy (sortWorldK encC 3 w g 0 n d os) (some g) := by
  refine ⟨rfl, rfl, rfl, ?_, fun k hk hne => ?_⟩
  · show w.heap.size ≤ ((w.heap.modify g _) ++ os).size
    simp
  · show ((w.heap.modify g _) ++ os)[k]? = w.heap[k]?
    rw [Array.getElem?_append_left (by simpa using hk), Array.getElem?_modify, if_neg]
    intro e
    exact hne (by rw [e])
theorem R_growO {w : World} {base : Nat} {ok : Nat → Prop} {v : Value} {xs : List S63} (h : Kd.R k63 63 w base ok v xs) (os : Array Obj) : Kd.R k63 63 (grow w os) base ok v xs := by
  refine Kd.R_mono (Kd.R_move (Kd.R_bound h) (fun k hk => ?_)) (fun _ hk => hk.1)
  show (w.heap ++ os)[k]? = w.heap[k]?
  rw [Array.getElem?_append_left hk.2.2.1]
def impl_Cube_60__impl_compareCubes.f (l0 : List S63) : Option (List S63) := if 0 < l0.length ∧ l0.length < 4611686018427387904 then some (sortC l0) else none
set_option maxHeartbeats 4000000 in
theorem impl_Cube_60__impl_compareCubes.calls (P0_ : Nat → Prop) (u9000_ : Value) (l0 : List S63) (r : List S63) (w0 w : World) (hB : Below w0.heap.size w0 w) (ho0 : Kd.R k63 63 w w0.heap.size P0_ u9000_ l0) (h : impl_Cube_60__impl_compareCubes.f l0 = some r) :
    Calls Try.prog 60 #[u9000_, .func (.func 61) #[] #[]] w fun e w' => e = .returned (.tuple #[]) ∧ Kd.R k63 63 w' w0.heap.size (fun k_ => (P0_ k_ ∨ w.heap.size ≤ k_)) u9000_ r ∧ Below w0.heap.size w0 w' ∧ Kept w w' (fun k_ => P0_ k_) := by
  unfold impl_Cube_60__impl_compareCubes.f at h
  by_cases hl : 0 < l0.length ∧ l0.length < 4611686018427387904
  · rw [if_pos hl] at h
    obtain rfl := Option.some.inj h
    obtain ⟨g, cap, rfl, hbase, hlt, hcells⟩ := Kd.R_form ho0 hl.1
    have hH := R_holds ho0
    have eg : ∀ args w, (callFunc 61 args).run Try.prog w = .ok (.enter 61 args) w := enters_of Try.func61 (by kernel_rfl) rfl
    have hcmp : CmpLays Try.prog 61 #[] encC 3 cmpV g 0 l0.toArray.size w := fun m os dk hdk x y =>
      (impl_compareCubes.callsG x.f0 x.f1 x.f2 y.f0 y.f1 y.f2 (cmpV x y) _ (cmpV_eq x y)).mono fun _ _ hh => ⟨hh.1, hh.2.gr⟩
    have hcon := AnyQ.slices_SortFunc sortC_lays 3 Try.isAgg63 Try.sizeOf63 encC (fun _ => rfl) (fun x v hv => by simp [encC] at hv; rcases hv with rfl | rfl | rfl <;> rfl) cmpV swoV 61 #[] g 0 cap l0.toArray w eg hcmp hH hlt (by simpa using hl.2)
    have hsz : l0.toArray.size = l0.length := by simp
    rw [hsz] at hcon
    refine (show Calls Try.prog 60 #[.slice (some ⟨g, 0, none⟩) l0.length cap, .func (.func 61) #[] #[]] w _ from hcon).mono ?_
    rintro e w' ⟨rfl, d', n, os, hp, hs, rfl⟩
    have hd : d'.size = l0.length := by rw [hp.1]; simp
    have hr : d'.toList = sortC l0 := by
      have := sorted_unique_holds swoV antiV l0.toArray d' (by rw [hsz]; exact hp) (by rw [hsz]; exact hs)
      simpa [sortC] using this
    have hgw := sortW_grown w g n d' os
    refine ⟨rfl, ?_, pw_below_grown hB (some g) hB.size hgw (fun k hk => by injection hk with hk; exact hk ▸ hbase), ?_⟩
    · have h1 : Kd.R k63 63 (Go.Sort.ahead w n) w0.heap.size P0_ (.slice (some ⟨g, 0, none⟩) l0.length cap) l0 := Kd.R_drewN ho0 n
      have h2 := R_growO (R_putK h1 d' hd) os
      rw [hr] at h2
      exact Kd.R_mono h2 (fun _ hk => .inl hk)
    · refine ⟨hgw.size, fun i hi hn => hgw.block i hi ?_⟩
      intro e
      injection e with e
      exact hn (e ▸ ho0.1 g rfl)
  · rw [if_neg hl] at h
    exact absurd h (by simp)
end Go.Proofs.Ytonldmalaajkgaa.F
end
section
namespace Go.Proofs.Ytonldmalaajkgaa.F
open Go.RowKit Go.Proofs.YtonldmalaajkgaaW.PrintWords Go.Proofs.YtonldmalaajkgaaW.PrintLast Go.Proofs.YtonldmalaajkgaaW.PrintMore
attribute [local go_sem] max2_int min2_int max_two min_two max_three min_three max_four min_four
set_option linter.unusedVariables false
set_option linter.unusedSimpArgs false
mutual
def impl_turnCube.j0 : Nat → Int → Int → Int → Int → Option (Int × Int × Int)
 | 0, _, _, _, _ => none
 | k + 1, x1, x383000, x383001, x383002 => impl_turnCube.l0 k x1 (Int.tmod x1 4) 0 x383000 x383001 x383002
def impl_turnCube.l0 : Nat → Int → Int → Int → Int → Int → Int → Option (Int × Int × Int)
 | 0, _, _, _, _, _, _ => none
 | k + 1, x1, x14, x15, x383000, x383001, x383002 => if x15 < x14 then (impl_turnCube.l0 k x1 x14 (wrap64 (x15 + 1)) (wrap64 (-x383001)) x383000 x383002) else (if (Int.tmod (wrap64 (Int.tdiv x1 4)) 6) < 4 then (impl_turnCube.l1 k (Int.tmod (wrap64 (Int.tdiv x1 4)) 6) 0 x383000 x383001 x383002) else (if (Int.tmod (wrap64 (Int.tdiv x1 4)) 6) = 5 then (impl_turnCube.j3 k 3 x383000 x383001 x383002) else (impl_turnCube.j3 k 1 x383000 x383001 x383002)))
def impl_turnCube.l1 : Nat → Int → Int → Int → Int → Int → Option (Int × Int × Int)
 | 0, _, _, _, _, _ => none
 | k + 1, x31, x32, x383000, x383001, x383002 => if x32 < x31 then (impl_turnCube.l1 k x31 (wrap64 (x32 + 1)) x383000 (wrap64 (-x383002)) x383001) else (some (x383000, x383001, x383002))
def impl_turnCube.j3 : Nat → Int → Int → Int → Int → Option (Int × Int × Int)
 | 0, _, _, _, _ => none
 | k + 1, x6, x383000, x383001, x383002 => impl_turnCube.l2 k x6 0 x383000 x383001 x383002
def impl_turnCube.l2 : Nat → Int → Int → Int → Int → Int → Option (Int × Int × Int)
 | 0, _, _, _, _, _ => none
 | k + 1, x46, x47, x383000, x383001, x383002 => if x47 < x46 then (impl_turnCube.l2 k x46 (wrap64 (x47 + 1)) x383002 x383001 (wrap64 (-x383000))) else (some (x383000, x383001, x383002))
end
def impl_turnCube.f (k : Nat) (a0_0 : Int) (a0_1 : Int) (a0_2 : Int) (a1 : Int) : Option (Int × Int × Int) := if a1 ≥ 24 then (impl_turnCube.j0 k a1 (wrap64 (-a0_0)) a0_1 a0_2) else (impl_turnCube.j0 k a1 a0_0 a0_1 a0_2)
theorem impl_turnCube.calls (k : Nat) (a0_0 : Int) (a0_1 : Int) (a0_2 : Int) (a1 : Int) (r1 : Int) (r2 : Int) (r3 : Int) (w : World) (h : impl_turnCube.f k a0_0 a0_1 a0_2 a1 = some (r1, r2, r3)) :
  Calls Try.prog 70 #[.agg #[.int .i64 a0_0, .int .i64 a0_1, .int .i64 a0_2], .int .i64 a1] w fun e w' => e = .returned (.agg #[.int .i64 r1, .int .i64 r2, .int .i64 r3]) ∧ Below w.heap.size w w' := by
 have hu63 := Try.underlying63
 have HB := aM (Below.refl w.heap.size w)
 have H : (if a1 ≥ 24 then (impl_turnCube.j0 k a1 (wrap64 (-a0_0)) a0_1 a0_2) else (impl_turnCube.j0 k a1 a0_0 a0_1 a0_2)) = some (r1, r2, r3) := h
 clear h
 have HC3 := aM H
 clear H
 go_enter Try.func70, Try.ntmps70
 go_upto_if 8 with (first | ((with_reducible refine gate_dst (N := 2) rfl ?_); refine zx 2 #[.int .i64 a0_0, .int .i64 a0_1, .int .i64 a0_2] 63 ?_; intro gb382 hg w4 hbox hb; have n0_ := aM (below_step zb hb); have n1_ := aM (hbox); have n2_ := aM ((ze : w.heap.size ≤ gb382)); have n3_ := aM ((ze : w.heap.size ≤ gb382)); clear HB; have HB := n0_; have BK382 := n1_; have GW382 := n2_; have GE382 := n3_; clear n0_ n1_ n2_ n3_; clear hb hbox hg) | ((with_reducible refine gate_dst (N := 4) rfl ?_); refine zx 4 #[.int .i64 0, .int .i64 0, .int .i64 0] 63 ?_; intro gb383 hg w5 hbox hb; have n0_ := aM (blk_below (g := gb382) (o := .cells #[.int .i64 a0_0, .int .i64 a0_1, .int .i64 a0_2] 63 (0, 0)) (mB_ BK382.out) hb); have n1_ := aM (below_step (zs GE382.out) hb); have n2_ := aM (hbox); have n3_ := aM ((zf GE382.out : w.heap.size ≤ gb383)); have n4_ := aM ((zf GE382.out : w.heap.size ≤ gb383)); have n5_ := aM ((zl BK382.out : gb382 ≠ gb383)); have n6_ := aM ((zn BK382.out : gb383 ≠ gb382)); clear BK382 HB; have BK382 := n0_; have HB := n1_; have BK383 := n2_; have GW383 := n3_; have GE383 := n4_; have NB382_383 := n5_; have NB383_382 := n6_; clear n0_ n1_ n2_ n3_ n4_ n5_ n6_; clear hb hbox hg))
 (try simp only [Act.put, xA, xB, xC])
 go_cut [] (fun wc => ∃ (kq : Nat) (x383000_2 : Int), Aside0 (impl_turnCube.j0 kq a1 x383000_2 a0_1 a0_2 = some (r1, r2, r3)) ∧ Aside0 (kq ≤ k) ∧ Aside0 (wc.heap[gb382]? = some (.cells #[.int .i64 x383000_2, .int .i64 a0_1, .int .i64 a0_2] 63 (0, 0))) ∧ Aside0 (wc.heap[gb383]? = some (.cells #[.int .i64 0, .int .i64 0, .int .i64 0] 63 (0, 0))) ∧ Aside0 (Below w.heap.size w wc))
 case first =>
  have H := HC3.out
  clear HC3
  by_cases c6 : a1 ≥ 24
  rotate_left
  ·rw [if_neg c6] at H
   have c6b0 : decide (24 ≤ a1) = false := decide_eq_false c6
   clear c6
   (first | rw [c6b0] | (simp only [i64_w, i32_w]; rw [c6b0]) | skip)
   have H' := aM H
   clear H
   go_wp2
   go_meet
   case rel => exact ⟨_, (a0_0), H', ⟨by first | omega | exact Nat.le_refl _⟩, ⟨mB_ BK382.out⟩, ⟨mB_ BK383.out⟩, ⟨zt GE382.out GE383.out⟩⟩
  rw [if_pos c6] at H
  have c6b0 : decide (24 ≤ a1) = true := decide_eq_true c6
  clear c6
  (first | rw [c6b0] | (simp only [i64_w, i32_w]; rw [c6b0]) | skip)
  have H' := aM H
  clear H
  have hnb7 := NB382_383.out
  have hnc7 := NB383_382.out
  have hcz8_0 : w5.cell? ⟨gb382, 0, none⟩ = some (.int .i64 a0_0) := (blk_cell BK382.out 0).trans rfl
  have hcz8_1 : w5.cell? ⟨gb382, 1, none⟩ = some (.int .i64 a0_1) := (blk_cell BK382.out 1).trans rfl
  have hcz8_2 : w5.cell? ⟨gb382, 2, none⟩ = some (.int .i64 a0_2) := (blk_cell BK382.out 2).trans rfl
  have hfz8_0 := blk_frozen BK382.out 0
  have hfz8_1 := blk_frozen BK382.out 1
  have hfz8_2 := blk_frozen BK382.out 2
  go_wp2
  go_meet
  case rel => exact ⟨_, (wrap64 (-a0_0)), H', ⟨by first | omega | exact Nat.le_refl _⟩, ⟨by (with_reducible repeat (first | refine blk_drewN ?_ _ | refine blk_drew ?_ | refine blk_alloc ?_ _)); refine blk_put (cs := #[.int .i64 a0_0, .int .i64 a0_1, .int .i64 a0_2]) ?_ 0 _ rfl; (with_reducible repeat (first | refine blk_drewN ?_ _ | refine blk_drew ?_ | refine blk_alloc ?_ _)); exact BK382.out⟩, ⟨by (with_reducible repeat (first | refine blk_drewN ?_ _ | refine blk_drew ?_ | refine blk_alloc ?_ _)); refine blk_far ?_ NB383_382.out _; (with_reducible repeat (first | refine blk_drewN ?_ _ | refine blk_drew ?_ | refine blk_alloc ?_ _)); exact BK383.out⟩, ⟨zt GE382.out GE383.out⟩⟩
 case rest =>
  clear HC3
  try clear p2
  try clear c6
  try clear c6b0
  try clear p6
  try clear c7
  try clear hcz8_0
  try clear hcz8_1
  try clear hcz8_2
  try clear hfz8_0
  try clear hfz8_1
  try clear hfz8_2
  obtain ⟨kq, x383000_2, HA, HJ2, BK382, BK383, HB⟩ := hcut
  cases kq with
  | zero => exact absurd HA.out (by simp [impl_turnCube.j0])
  | succ kj2 =>
   have H := HA.out
   clear HA
   simp only [impl_turnCube.j0] at H
   have H' := aM H
   clear H
   go_wp2
   go_loopg [15] kj2 (fun kq v15 w' => ∃ (x15_2 : Int) (x383000_2 : Int) (x383001_2 : Int) (x383002_2 : Int), v15 = .int .i64 x15_2 ∧ Aside0 (impl_turnCube.l0 kq a1 (Int.tmod a1 4) x15_2 x383000_2 x383001_2 x383002_2 = some (r1, r2, r3)) ∧ Aside0 (kq ≤ kj2) ∧ Aside0 (w'.heap[gb382]? = some (.cells #[.int .i64 x383000_2, .int .i64 x383001_2, .int .i64 x383002_2] 63 (0, 0))) ∧ Aside0 (w'.heap[gb383]? = some (.cells #[.int .i64 0, .int .i64 0, .int .i64 0] 63 (0, 0))) ∧ Aside0 (Below w.heap.size w w'))
   case atStart => exact ⟨(0), (x383000_2), (a0_1), (a0_2), zr, H', ⟨Nat.le_refl _⟩, ⟨mB_ BK382.out⟩, ⟨mB_ BK383.out⟩, ⟨zt GE382.out GE383.out⟩⟩
   case round =>
    clear H'
    try clear p2
    try clear c6
    try clear c6b0
    try clear p6
    try clear c7
    try clear hcz8_0
    try clear hcz8_1
    try clear hcz8_2
    try clear hfz8_0
    try clear hfz8_1
    try clear hfz8_2
    try clear p2
    try clear p6
    obtain ⟨x15_2, x383000_2, x383001_2, x383002_2, rfl, HA, HK2, BK382, BK383, HB⟩ := hrel
    cases gk with
    | zero => exact absurd HA.out (by simp [impl_turnCube.l0])
    | succ k2 =>
     have H := HA.out
     clear HA
     simp only [impl_turnCube.l0] at H
     by_cases c9 : x15_2 < (Int.tmod a1 4)
     ·rw [if_pos c9] at H
      have c9b0 : decide (x15_2 < (Int.tmod a1 4)) = true := decide_eq_true c9
      clear c9
      have H' := aM H
      clear H
      have hnb10 := NB382_383.out
      have hnc10 := NB383_382.out
      have hcz11_0 : wr.cell? ⟨gb382, 0, none⟩ = some (.int .i64 x383000_2) := (blk_cell BK382.out 0).trans rfl
      have hcz11_1 : wr.cell? ⟨gb382, 1, none⟩ = some (.int .i64 x383001_2) := (blk_cell BK382.out 1).trans rfl
      have hcz11_2 : wr.cell? ⟨gb382, 2, none⟩ = some (.int .i64 x383002_2) := (blk_cell BK382.out 2).trans rfl
      have hfz11_0 := blk_frozen BK382.out 0
      have hfz11_1 := blk_frozen BK382.out 1
      have hfz11_2 := blk_frozen BK382.out 2
      go_wp2
      go_roundg k2
      case measure => have := HJ2.out; have := HK2.out; omega
      case rel => exact ⟨(wrap64 (x15_2 + 1)), (wrap64 (-x383001_2)), (x383000_2), (x383002_2), zr, H', ⟨by have := HJ2.out; have := HK2.out; omega⟩, ⟨by (with_reducible repeat (first | refine blk_drewN ?_ _ | refine blk_drew ?_ | refine blk_alloc ?_ _)); refine blk_put (cs := #[.int .i64 (wrap64 (-x383001_2)), .int .i64 x383000_2, .int .i64 x383002_2]) ?_ 2 _ rfl; (with_reducible repeat (first | refine blk_drewN ?_ _ | refine blk_drew ?_ | refine blk_alloc ?_ _)); refine blk_put (cs := #[.int .i64 (wrap64 (-x383001_2)), .int .i64 x383001_2, .int .i64 x383002_2]) ?_ 1 _ rfl; (with_reducible repeat (first | refine blk_drewN ?_ _ | refine blk_drew ?_ | refine blk_alloc ?_ _)); refine blk_put (cs := #[.int .i64 x383000_2, .int .i64 x383001_2, .int .i64 x383002_2]) ?_ 0 _ rfl; (with_reducible repeat (first | refine blk_drewN ?_ _ | refine blk_drew ?_ | refine blk_alloc ?_ _)); exact BK382.out⟩, ⟨by (with_reducible repeat (first | refine blk_drewN ?_ _ | refine blk_drew ?_ | refine blk_alloc ?_ _)); refine blk_far ?_ NB383_382.out _; (with_reducible repeat (first | refine blk_drewN ?_ _ | refine blk_drew ?_ | refine blk_alloc ?_ _)); refine blk_far ?_ NB383_382.out _; (with_reducible repeat (first | refine blk_drewN ?_ _ | refine blk_drew ?_ | refine blk_alloc ?_ _)); refine blk_far ?_ NB383_382.out _; (with_reducible repeat (first | refine blk_drewN ?_ _ | refine blk_drew ?_ | refine blk_alloc ?_ _)); exact BK383.out⟩, ⟨zt GE382.out GE383.out⟩⟩
     rw [if_neg c9] at H
     have c9b0 : decide (x15_2 < (Int.tmod a1 4)) = false := decide_eq_false c9
     clear c9
     by_cases c12 : (Int.tmod (wrap64 (Int.tdiv a1 4)) 6) < 4
     ·rw [if_pos c12] at H
      have c12b0 : decide ((Int.tmod (wrap64 (Int.tdiv a1 4)) 6) < 4) = true := decide_eq_true c12
      clear c12
      have H' := aM H
      clear H
      go_wp2
      go_loopg [32] k2 (fun kq v32 w' => ∃ (x32_3 : Int) (x383000_3 : Int) (x383001_3 : Int) (x383002_3 : Int), v32 = .int .i64 x32_3 ∧ Aside0 (impl_turnCube.l1 kq (Int.tmod (wrap64 (Int.tdiv a1 4)) 6) x32_3 x383000_3 x383001_3 x383002_3 = some (r1, r2, r3)) ∧ Aside0 (kq ≤ k2) ∧ Aside0 (w'.heap[gb382]? = some (.cells #[.int .i64 x383000_3, .int .i64 x383001_3, .int .i64 x383002_3] 63 (0, 0))) ∧ Aside0 (w'.heap[gb383]? = some (.cells #[.int .i64 0, .int .i64 0, .int .i64 0] 63 (0, 0))) ∧ Aside0 (Below w.heap.size w w'))
      case atStart => exact ⟨(0), (x383000_2), (x383001_2), (x383002_2), zr, H', ⟨Nat.le_refl _⟩, ⟨mB_ BK382.out⟩, ⟨mB_ BK383.out⟩, ⟨zt GE382.out GE383.out⟩⟩
      case round =>
       clear H'
       try clear c1
       try clear p2
       try clear c6
       try clear c6b0
       try clear p6
       try clear c7
       try clear c9
       try clear c9b0
       try clear c10
       try clear c12
       try clear c12b0
       try clear hcz11_0
       try clear hcz11_1
       try clear hcz11_2
       try clear hcz8_0
       try clear hcz8_1
       try clear hcz8_2
       try clear hfz11_0
       try clear hfz11_1
       try clear hfz11_2
       try clear hfz8_0
       try clear hfz8_1
       try clear hfz8_2
       try clear p2
       try clear p6
       obtain ⟨x32_3, x383000_3, x383001_3, x383002_3, rfl, HA, HK3, BK382, BK383, HB⟩ := hrel
       cases gk with
       | zero => exact absurd HA.out (by simp [impl_turnCube.l1])
       | succ k3 =>
        have H := HA.out
        clear HA
        simp only [impl_turnCube.l1] at H
        by_cases c13 : x32_3 < (Int.tmod (wrap64 (Int.tdiv a1 4)) 6)
        ·rw [if_pos c13] at H
         have c13b0 : decide (x32_3 < (Int.tmod (wrap64 (Int.tdiv a1 4)) 6)) = true := decide_eq_true c13
         clear c13
         have H' := aM H
         clear H
         have hnb14 := NB382_383.out
         have hnc14 := NB383_382.out
         have hcz15_0 : wr.cell? ⟨gb382, 0, none⟩ = some (.int .i64 x383000_3) := (blk_cell BK382.out 0).trans rfl
         have hcz15_1 : wr.cell? ⟨gb382, 1, none⟩ = some (.int .i64 x383001_3) := (blk_cell BK382.out 1).trans rfl
         have hcz15_2 : wr.cell? ⟨gb382, 2, none⟩ = some (.int .i64 x383002_3) := (blk_cell BK382.out 2).trans rfl
         have hfz15_0 := blk_frozen BK382.out 0
         have hfz15_1 := blk_frozen BK382.out 1
         have hfz15_2 := blk_frozen BK382.out 2
         go_wp2
         go_roundg k3
         case measure => have := HJ2.out; have := HK2.out; have := HK3.out; omega
         case rel => exact ⟨(wrap64 (x32_3 + 1)), (x383000_3), (wrap64 (-x383002_3)), (x383001_3), zr, H', ⟨by have := HJ2.out; have := HK2.out; have := HK3.out; omega⟩, ⟨by (with_reducible repeat (first | refine blk_drewN ?_ _ | refine blk_drew ?_ | refine blk_alloc ?_ _)); refine blk_put (cs := #[.int .i64 x383000_3, .int .i64 (wrap64 (-x383002_3)), .int .i64 x383002_3]) ?_ 2 _ rfl; (with_reducible repeat (first | refine blk_drewN ?_ _ | refine blk_drew ?_ | refine blk_alloc ?_ _)); refine blk_put (cs := #[.int .i64 x383000_3, .int .i64 x383001_3, .int .i64 x383002_3]) ?_ 1 _ rfl; (with_reducible repeat (first | refine blk_drewN ?_ _ | refine blk_drew ?_ | refine blk_alloc ?_ _)); refine blk_put (cs := #[.int .i64 x383000_3, .int .i64 x383001_3, .int .i64 x383002_3]) ?_ 0 _ rfl; (with_reducible repeat (first | refine blk_drewN ?_ _ | refine blk_drew ?_ | refine blk_alloc ?_ _)); exact BK382.out⟩, ⟨by (with_reducible repeat (first | refine blk_drewN ?_ _ | refine blk_drew ?_ | refine blk_alloc ?_ _)); refine blk_far ?_ NB383_382.out _; (with_reducible repeat (first | refine blk_drewN ?_ _ | refine blk_drew ?_ | refine blk_alloc ?_ _)); refine blk_far ?_ NB383_382.out _; (with_reducible repeat (first | refine blk_drewN ?_ _ | refine blk_drew ?_ | refine blk_alloc ?_ _)); refine blk_far ?_ NB383_382.out _; (with_reducible repeat (first | refine blk_drewN ?_ _ | refine blk_drew ?_ | refine blk_alloc ?_ _)); exact BK383.out⟩, ⟨zt GE382.out GE383.out⟩⟩
        rw [if_neg c13] at H
        have c13b0 : decide (x32_3 < (Int.tmod (wrap64 (Int.tdiv a1 4)) 6)) = false := decide_eq_false c13
        clear c13
        simp only [Option.some.injEq, Prod.mk.injEq] at H
        obtain ⟨rfl, rfl, rfl⟩ := H
        have hnb16 := NB382_383.out
        have hnc16 := NB383_382.out
        have hcz17_0 : wr.cell? ⟨gb382, 0, none⟩ = some (.int .i64 x383000_3) := (blk_cell BK382.out 0).trans rfl
        have hcz17_1 : wr.cell? ⟨gb382, 1, none⟩ = some (.int .i64 x383001_3) := (blk_cell BK382.out 1).trans rfl
        have hcz17_2 : wr.cell? ⟨gb382, 2, none⟩ = some (.int .i64 x383002_3) := (blk_cell BK382.out 2).trans rfl
        have hfz17_0 := blk_frozen BK382.out 0
        have hfz17_1 := blk_frozen BK382.out 1
        have hfz17_2 := blk_frozen BK382.out 2
        have hcz18_0 : wr.cell? ⟨gb383, 0, none⟩ = some (.int .i64 0) := (blk_cell BK383.out 0).trans rfl
        have hcz18_1 : wr.cell? ⟨gb383, 1, none⟩ = some (.int .i64 0) := (blk_cell BK383.out 1).trans rfl
        have hcz18_2 : wr.cell? ⟨gb383, 2, none⟩ = some (.int .i64 0) := (blk_cell BK383.out 2).trans rfl
        have hfz18_0 := blk_frozen BK383.out 0
        have hfz18_1 := blk_frozen BK383.out 1
        have hfz18_2 := blk_frozen BK383.out 2
        go_wp2
        refine bodyPost_ret (results_cell_row rfl _ _ gb383 63 #[.int .i64 x383000_3, .int .i64 x383001_3, .int .i64 x383002_3] (0, 0) _ rfl (by (with_reducible repeat (first | refine blk_drewN ?_ _ | refine blk_drew ?_ | refine blk_alloc ?_ _)); refine blk_put (cs := #[.int .i64 x383000_3, .int .i64 x383001_3, .int .i64 0]) ?_ 2 _ rfl; (with_reducible repeat (first | refine blk_drewN ?_ _ | refine blk_drew ?_ | refine blk_alloc ?_ _)); refine blk_put (cs := #[.int .i64 x383000_3, .int .i64 0, .int .i64 0]) ?_ 1 _ rfl; (with_reducible repeat (first | refine blk_drewN ?_ _ | refine blk_drew ?_ | refine blk_alloc ?_ _)); refine blk_put (cs := #[.int .i64 0, .int .i64 0, .int .i64 0]) ?_ 0 _ rfl; (with_reducible repeat (first | refine blk_drewN ?_ _ | refine blk_drew ?_ | refine blk_alloc ?_ _)); exact BK383.out) Try.underlying63 rfl (by kernel_rfl)) rfl ?_
        exact ⟨zw, zt GE382.out GE383.out⟩
     rw [if_neg c12] at H
     have c12b0 : decide ((Int.tmod (wrap64 (Int.tdiv a1 4)) 6) < 4) = false := decide_eq_false c12
     clear c12
     have HC19 := aM H
     clear H
     go_upto_if 45 with (fail)
     go_cut [6] (fun v6 wc => ∃ (kq : Nat) (x6_18 : Int), v6 = .int .i64 x6_18 ∧ Aside0 (impl_turnCube.j3 kq x6_18 x383000_2 x383001_2 x383002_2 = some (r1, r2, r3)) ∧ Aside0 (kq ≤ k2) ∧ Aside0 (wc.heap[gb382]? = some (.cells #[.int .i64 x383000_2, .int .i64 x383001_2, .int .i64 x383002_2] 63 (0, 0))) ∧ Aside0 (wc.heap[gb383]? = some (.cells #[.int .i64 0, .int .i64 0, .int .i64 0] 63 (0, 0))) ∧ Aside0 (Below w.heap.size w wc))
     case first =>
      have H := HC19.out
      clear HC19
      by_cases c20 : (Int.tmod (wrap64 (Int.tdiv a1 4)) 6) = 5
      rotate_left
      ·rw [if_neg c20] at H
       have c20b0 : ((Int.tmod (wrap64 (Int.tdiv a1 4)) 6) == 5) = false := beq_eq_false_iff_ne.mpr c20
       have c20b1 : ((Int.tmod (wrap64 (Int.tdiv a1 4)) 6) != 5) = true := bne_iff_ne.mpr c20
       (first | rw [c20b0] | (simp only [i64_w, i32_w]; rw [c20b0]) | skip)
       have H' := aM H
       clear H
       go_wp2
       go_meet
       case rel => exact ⟨_, (1), zr, H', ⟨by have := HJ2.out; have := HK2.out; first | omega | exact Nat.le_refl _⟩, ⟨mB_ BK382.out⟩, ⟨mB_ BK383.out⟩, ⟨zt GE382.out GE383.out⟩⟩
      rw [if_pos c20] at H
      have c20b0 : ((Int.tmod (wrap64 (Int.tdiv a1 4)) 6) == 5) = true := beq_iff_eq.mpr c20
      have c20b1 : ((Int.tmod (wrap64 (Int.tdiv a1 4)) 6) != 5) = false := bne_eq_false_iff_eq.mpr c20
      clear c20
      (first | rw [c20b0] | (simp only [i64_w, i32_w]; rw [c20b0]) | skip)
      have H' := aM H
      clear H
      go_wp2
      go_meet
      case rel => exact ⟨_, (3), zr, H', ⟨by have := HJ2.out; have := HK2.out; first | omega | exact Nat.le_refl _⟩, ⟨mB_ BK382.out⟩, ⟨mB_ BK383.out⟩, ⟨zt GE382.out GE383.out⟩⟩
     case rest =>
      clear HC19
      try clear c1
      try clear c2
      try clear p2
      try clear c6
      try clear c6b0
      try clear p6
      try clear c7
      try clear c9
      try clear c9b0
      try clear c10
      try clear c12
      try clear c12b0
      try clear c13
      try clear c13b0
      try clear c14
      try clear c16
      try clear c20
      try clear c20b0
      try clear c20b1
      try clear hcz11_0
      try clear hcz11_1
      try clear hcz11_2
      try clear hcz15_0
      try clear hcz15_1
      try clear hcz15_2
      try clear hcz17_0
      try clear hcz17_1
      try clear hcz17_2
      try clear hcz18_0
      try clear hcz18_1
      try clear hcz18_2
      try clear hcz8_0
      try clear hcz8_1
      try clear hcz8_2
      try clear hfz11_0
      try clear hfz11_1
      try clear hfz11_2
      try clear hfz15_0
      try clear hfz15_1
      try clear hfz15_2
      try clear hfz17_0
      try clear hfz17_1
      try clear hfz17_2
      try clear hfz18_0
      try clear hfz18_1
      try clear hfz18_2
      try clear hfz8_0
      try clear hfz8_1
      try clear hfz8_2
      try clear p2
      try clear p6
      obtain ⟨kq, x6_18, rfl, HA, HJ18, BK382, BK383, HB⟩ := hcut
      cases kq with
      | zero => exact absurd HA.out (by simp [impl_turnCube.j3])
      | succ kj18 =>
       have H := HA.out
       clear HA
       simp only [impl_turnCube.j3] at H
       have H' := aM H
       clear H
       go_wp2
       go_loopg [47] kj18 (fun kq v47 w' => ∃ (x47_4 : Int) (x383000_4 : Int) (x383001_4 : Int) (x383002_4 : Int), v47 = .int .i64 x47_4 ∧ Aside0 (impl_turnCube.l2 kq x6_18 x47_4 x383000_4 x383001_4 x383002_4 = some (r1, r2, r3)) ∧ Aside0 (kq ≤ kj18) ∧ Aside0 (w'.heap[gb382]? = some (.cells #[.int .i64 x383000_4, .int .i64 x383001_4, .int .i64 x383002_4] 63 (0, 0))) ∧ Aside0 (w'.heap[gb383]? = some (.cells #[.int .i64 0, .int .i64 0, .int .i64 0] 63 (0, 0))) ∧ Aside0 (Below w.heap.size w w'))
       case atStart => exact ⟨(0), (x383000_2), (x383001_2), (x383002_2), zr, H', ⟨Nat.le_refl _⟩, ⟨mB_ BK382.out⟩, ⟨mB_ BK383.out⟩, ⟨zt GE382.out GE383.out⟩⟩
       case round =>
        clear H'
        try clear c1
        try clear c2
        try clear p2
        try clear c6
        try clear c6b0
        try clear p6
        try clear c7
        try clear c9
        try clear c9b0
        try clear c10
        try clear c12
        try clear c12b0
        try clear c13
        try clear c13b0
        try clear c14
        try clear c16
        try clear c20
        try clear c20b0
        try clear c20b1
        try clear hcz11_0
        try clear hcz11_1
        try clear hcz11_2
        try clear hcz15_0
        try clear hcz15_1
        try clear hcz15_2
        try clear hcz17_0
        try clear hcz17_1
        try clear hcz17_2
        try clear hcz18_0
        try clear hcz18_1
        try clear hcz18_2
        try clear hcz8_0
        try clear hcz8_1
        try clear hcz8_2
        try clear hfz11_0
        try clear hfz11_1
        try clear hfz11_2
        try clear hfz15_0
        try clear hfz15_1
        try clear hfz15_2
        try clear hfz17_0
        try clear hfz17_1
        try clear hfz17_2
        try clear hfz18_0
        try clear hfz18_1
        try clear hfz18_2
        try clear hfz8_0
        try clear hfz8_1
        try clear hfz8_2
        try clear p2
        try clear p6
        obtain ⟨x47_4, x383000_4, x383001_4, x383002_4, rfl, HA, HK4, BK382, BK383, HB⟩ := hrel
        cases gk with
        | zero => exact absurd HA.out (by simp [impl_turnCube.l2])
        | succ k4 =>
         have H := HA.out
         clear HA
         simp only [impl_turnCube.l2] at H
         by_cases c21 : x47_4 < x6_18
         ·rw [if_pos c21] at H
          have c21b0 : decide (x47_4 < x6_18) = true := decide_eq_true c21
          clear c21
          have H' := aM H
          clear H
          have hnb22 := NB382_383.out
          have hnc22 := NB383_382.out
          have hcz23_0 : wr.cell? ⟨gb382, 0, none⟩ = some (.int .i64 x383000_4) := (blk_cell BK382.out 0).trans rfl
          have hcz23_1 : wr.cell? ⟨gb382, 1, none⟩ = some (.int .i64 x383001_4) := (blk_cell BK382.out 1).trans rfl
          have hcz23_2 : wr.cell? ⟨gb382, 2, none⟩ = some (.int .i64 x383002_4) := (blk_cell BK382.out 2).trans rfl
          have hfz23_0 := blk_frozen BK382.out 0
          have hfz23_1 := blk_frozen BK382.out 1
          have hfz23_2 := blk_frozen BK382.out 2
          go_wp2
          go_roundg k4
          case measure => have := HJ2.out; have := HK2.out; have := HJ18.out; have := HK4.out; omega
          case rel => exact ⟨(wrap64 (x47_4 + 1)), (x383002_4), (x383001_4), (wrap64 (-x383000_4)), zr, H', ⟨by have := HJ2.out; have := HK2.out; have := HJ18.out; have := HK4.out; omega⟩, ⟨by (with_reducible repeat (first | refine blk_drewN ?_ _ | refine blk_drew ?_ | refine blk_alloc ?_ _)); refine blk_put (cs := #[.int .i64 x383002_4, .int .i64 x383001_4, .int .i64 x383002_4]) ?_ 2 _ rfl; (with_reducible repeat (first | refine blk_drewN ?_ _ | refine blk_drew ?_ | refine blk_alloc ?_ _)); refine blk_put (cs := #[.int .i64 x383002_4, .int .i64 x383001_4, .int .i64 x383002_4]) ?_ 1 _ rfl; (with_reducible repeat (first | refine blk_drewN ?_ _ | refine blk_drew ?_ | refine blk_alloc ?_ _)); refine blk_put (cs := #[.int .i64 x383000_4, .int .i64 x383001_4, .int .i64 x383002_4]) ?_ 0 _ rfl; (with_reducible repeat (first | refine blk_drewN ?_ _ | refine blk_drew ?_ | refine blk_alloc ?_ _)); exact BK382.out⟩, ⟨by (with_reducible repeat (first | refine blk_drewN ?_ _ | refine blk_drew ?_ | refine blk_alloc ?_ _)); refine blk_far ?_ NB383_382.out _; (with_reducible repeat (first | refine blk_drewN ?_ _ | refine blk_drew ?_ | refine blk_alloc ?_ _)); refine blk_far ?_ NB383_382.out _; (with_reducible repeat (first | refine blk_drewN ?_ _ | refine blk_drew ?_ | refine blk_alloc ?_ _)); refine blk_far ?_ NB383_382.out _; (with_reducible repeat (first | refine blk_drewN ?_ _ | refine blk_drew ?_ | refine blk_alloc ?_ _)); exact BK383.out⟩, ⟨zt GE382.out GE383.out⟩⟩
         rw [if_neg c21] at H
         have c21b0 : decide (x47_4 < x6_18) = false := decide_eq_false c21
         clear c21
         simp only [Option.some.injEq, Prod.mk.injEq] at H
         obtain ⟨rfl, rfl, rfl⟩ := H
         have hnb24 := NB382_383.out
         have hnc24 := NB383_382.out
         have hcz25_0 : wr.cell? ⟨gb382, 0, none⟩ = some (.int .i64 x383000_4) := (blk_cell BK382.out 0).trans rfl
         have hcz25_1 : wr.cell? ⟨gb382, 1, none⟩ = some (.int .i64 x383001_4) := (blk_cell BK382.out 1).trans rfl
         have hcz25_2 : wr.cell? ⟨gb382, 2, none⟩ = some (.int .i64 x383002_4) := (blk_cell BK382.out 2).trans rfl
         have hfz25_0 := blk_frozen BK382.out 0
         have hfz25_1 := blk_frozen BK382.out 1
         have hfz25_2 := blk_frozen BK382.out 2
         have hcz26_0 : wr.cell? ⟨gb383, 0, none⟩ = some (.int .i64 0) := (blk_cell BK383.out 0).trans rfl
         have hcz26_1 : wr.cell? ⟨gb383, 1, none⟩ = some (.int .i64 0) := (blk_cell BK383.out 1).trans rfl
         have hcz26_2 : wr.cell? ⟨gb383, 2, none⟩ = some (.int .i64 0) := (blk_cell BK383.out 2).trans rfl
         have hfz26_0 := blk_frozen BK383.out 0
         have hfz26_1 := blk_frozen BK383.out 1
         have hfz26_2 := blk_frozen BK383.out 2
         go_wp2
         refine bodyPost_ret (results_cell_row rfl _ _ gb383 63 #[.int .i64 x383000_4, .int .i64 x383001_4, .int .i64 x383002_4] (0, 0) _ rfl (by (with_reducible repeat (first | refine blk_drewN ?_ _ | refine blk_drew ?_ | refine blk_alloc ?_ _)); refine blk_put (cs := #[.int .i64 x383000_4, .int .i64 x383001_4, .int .i64 0]) ?_ 2 _ rfl; (with_reducible repeat (first | refine blk_drewN ?_ _ | refine blk_drew ?_ | refine blk_alloc ?_ _)); refine blk_put (cs := #[.int .i64 x383000_4, .int .i64 0, .int .i64 0]) ?_ 1 _ rfl; (with_reducible repeat (first | refine blk_drewN ?_ _ | refine blk_drew ?_ | refine blk_alloc ?_ _)); refine blk_put (cs := #[.int .i64 0, .int .i64 0, .int .i64 0]) ?_ 0 _ rfl; (with_reducible repeat (first | refine blk_drewN ?_ _ | refine blk_drew ?_ | refine blk_alloc ?_ _)); exact BK383.out) Try.underlying63 rfl (by kernel_rfl)) rfl ?_
         exact ⟨zw, zt GE382.out GE383.out⟩
def impl_cubeForm.l0 : Nat → Int → List (S63) → List (S63) → Int → Int → Option ((List (S63)))
 | 0, _, _, _, _, _ => none
 | k + 1, x1, x5, x11, x12, x13 => if x13 < x12 then (if 0 ≤ x13 then (if x13 < (x11.length : Int) then ((impl_turnCube.f k ((rd_T63 x11 x13).f0) ((rd_T63 x11 x13).f1) ((rd_T63 x11 x13).f2) x1).bind fun bt389 => (if x5.length < 5864062014805 then (impl_cubeForm.l0 k x1 (x5 ++ [(⟨bt389.1, bt389.2.1, bt389.2.2⟩ : S63)]) x11 x12 (wrap64 (x13 + 1))) else (none))) else (none)) else (none)) else ((impl_Cube_60__impl_compareCubes.f x5).bind fun t395 => ((impl_normalCubes.f k t395).bind fun t396 => (some t396)))
def impl_cubeForm.f (k : Nat) (l0 : List (S63)) (a1 : Int) : Option ((List (S63))) := if 0 ≤ (l0.length : Int) then (if ((l0.length : Int) : Int).toNat ≤ 11728124029610 then (impl_cubeForm.l0 k a1 (([] : List (S63))) l0 (l0.length : Int) 0) else (none)) else (none)
theorem impl_cubeForm.calls (k : Nat) (A0 : Option Addr) (c0 : Nat) (l0 : List (S63)) (a1 : Int) (r : List (S63)) (w : World) (hr0 : Kd.C k63 w A0 l0.length l0) (hc0 : l0.length ≤ c0) (h : impl_cubeForm.f k l0 a1 = some r) :
  Calls Try.prog 41 #[.slice A0 l0.length c0, .int .i64 a1] w fun e w' => ∃ v0_ : Value, e = .returned (v0_) ∧ Kd.R k63 63 w' w.heap.size (fun _ => True) v0_ r ∧ Below w.heap.size w w' := by
 have hu63 := Try.underlying63
 have HR0 := aM hr0
 have HC0 := aM hc0
 clear hr0 hc0
 have HB := aM (Below.refl w.heap.size w)
 have H : (if 0 ≤ (l0.length : Int) then (if ((l0.length : Int) : Int).toNat ≤ 11728124029610 then (impl_cubeForm.l0 k a1 (([] : List (S63))) l0 (l0.length : Int) 0) else (none)) else (none)) = some r := h
 clear h
 by_cases c3 : 0 ≤ (l0.length : Int)
 rotate_left
 ·rw [if_neg c3] at H
  exact absurd H (by simp)
 rw [if_pos c3] at H
 have c3b0 := eq_true c3
 have c3b1 : decide (0 ≤ (l0.length : Int)) = true := decide_eq_true c3
 clear c3
 by_cases c4 : ((l0.length : Int) : Int).toNat ≤ 11728124029610
 rotate_left
 ·rw [if_neg c4] at H
  exact absurd H (by simp)
 rw [if_pos c4] at H
 have c4b0 := eq_true c4
 have c4b1 : decide (((l0.length : Int) : Int).toNat ≤ 11728124029610) = true := decide_eq_true c4
 clear c4
 obtain ⟨y384, hy384⟩ : ∃ y_ : List (S63), y_ = (([] : List (S63))) := ⟨_, rfl⟩
 replace H : (impl_cubeForm.l0 k a1 y384 l0 (l0.length : Int) 0) = some r := zy H hy384
 have Ny384 := aM hy384
 clear hy384
 have H' := aM H
 clear H
 go_enter Try.func41, Try.ntmps41
 go_wp2_with (first | ((with_reducible refine gate_dst (N := 10) rfl ?_); refine Kd.R_make0 k63 _ 63 rfl (N := 10) rfl 34 _ _ rfl (l0.length : Int) rfl rfl Try.underlying34 (.agg #[(.int .i64 0), (.int .i64 0), (.int .i64 0)]) 24 info63 rfl (by decide) (by omega) z63 (ok := fun _ => True) (okp := fun _ => True) (k63_mkM _ _ _ z63 ) (fun _ hk => hk) trivial (of_decide_eq_true za) (Nat.le_trans (Nat.mul_le_mul_right _ (of_decide_eq_true za : (l0.length : Int).toNat ≤ 11728124029610)) (by omega)) (Below.refl _ _) (Nat.le_refl _) ?_; intro v385 w5 ho6 hb hg_ hnew_; clear hg_ hnew_; (first | rw [← Ny384.out] at ho6 | (simp only [Int.reduceToNat] at ho6; rw [← Ny384.out] at ho6)); have n0_ := aM (Kd.R_lower ho6 (below_size zb)); have n1_ := aM (below_step zb hb); clear HB; have HO386 := n0_; have HB := n1_; clear n0_ n1_; clear hb ho6))
 go_loopg [5, 13] k (fun kq v5 v13 w' => ∃ (x5_1 : List (S63)) (x13_1 : Int), v13 = .int .i64 x13_1 ∧ Aside0 (impl_cubeForm.l0 kq a1 x5_1 l0 (l0.length : Int) x13_1 = some r) ∧ Aside0 (kq ≤ k) ∧ Aside0 (Kd.R k63 63 w' w.heap.size (fun _ => True) v5 x5_1) ∧ Aside0 (Below w.heap.size w w'))
 case atStart => exact ⟨(y384), (0), zr, H', ⟨Nat.le_refl _⟩, ⟨mR_ HO386.out⟩, ⟨zb⟩⟩
 case round =>
  clear H'
  try clear p2
  try clear c3
  try clear c3b0
  try clear c3b1
  try clear c4
  try clear c4b0
  try clear c4b1
  obtain ⟨x5_1, x13_1, rfl, HA, HK1, HO_5, HB⟩ := hrel
  cases gk with
  | zero => exact absurd HA.out (by simp [impl_cubeForm.l0])
  | succ k1 =>
   have H := HA.out
   clear HA
   simp only [impl_cubeForm.l0] at H
   by_cases c7 : x13_1 < (l0.length : Int)
   rotate_left
   ·rw [if_neg c7] at H
    have c7b0 : decide (x13_1 < (l0.length : Int)) = false := decide_eq_false c7
    clear c7
    replace H := Option.bind_eq_some_iff.mp H
    obtain ⟨t395, A160, H⟩ := H
    replace H : ((impl_normalCubes.f k1 t395).bind fun t396 => (some t396)) = some r := H
    have A16 := aM A160
    clear A160
    replace H := Option.bind_eq_some_iff.mp H
    obtain ⟨t396, A170, H⟩ := H
    replace H : (some t396) = some r := H
    have A17 := aM A170
    clear A170
    obtain rfl := Option.some.inj H
    obtain ⟨Ao18, co18, eo18⟩ := Kd.R_slice HO_5.out
    subst eo18
    go_wp2_with (first | ((with_reducible refine gate_callee (f := 60) rfl ?_); refine goesL_ (some 25) rfl rfl Try.func60 (by kernel_rfl) rfl #[.slice Ao18 x5_1.length co18, .func (.func 61) #[] #[]] rfl zm ?_; (with_reducible refine (impl_Cube_60__impl_compareCubes.calls (fun k_ => some k_ = (.slice Ao18 x5_1.length co18 : Value).ownBlock) (.slice Ao18 x5_1.length co18) x5_1  t395 w _ ?side1 ?side2 A16.out).mono ?_); (case side1 => repeat (first | (with_reducible first | exact HB.out | apply below_alloc | apply pw_below_drewN | apply below_drew1) | exact HB.out)); (case side2 => exact Kd.R_tight rfl HO_5.out); rintro e w19 ⟨rfl, hy0, hb, hkp⟩; refine ⟨_, rfl, ?_⟩; have n0_ := aM (Kd.R_reok rfl hy0 (fun k_ e_ => HO_5.out.1 k_ e_)); have n1_ := aM (hb); clear HO_5 HB; have HO_5 := n0_; have HB := n1_; clear n0_ n1_; (try clear hb); (try clear hkp); (try clear hy0)) | ((with_reducible refine gate_callee (f := 62) rfl ?_); refine goesL_ (some 27) rfl rfl Try.func62 (by kernel_rfl) rfl #[.slice Ao18 t395.length co18] rfl (by (try simp only [mA, mB, mC]); first | done | (rw [show t395.length = x5_1.length from (Kd.R_reads' HO_5.out).1.symm] <;> rfl) | rfl | (simp only [lD, lT]; rfl)) ?_; (with_reducible refine (impl_normalCubes.calls k1 _ _ t395 t396 _ ?side1 ?side2 A17.out).mono ?_); (case side1 => exact zc HO_5.out); (case side2 => rw [show t395.length = x5_1.length from (Kd.R_reads' HO_5.out).1.symm]; exact (Kd.R_reads' HO_5.out).2.1); rintro e w20 ⟨v397, rfl, ho0, hb⟩; refine ⟨_, rfl, ?_⟩; have n0_ := aM (Kd.R_elder' (mR_ HO_5.out) (Kd.R_base ho0) hb); have n1_ := aM (Kd.R_lower (Kd.R_new' ho0 (Kd.R_lt (mR_ HO_5.out))) (below_size zb)); have n2_ := aM (below_step zb hb); clear HO_5 HB; have HO_5 := n0_; have HO398 := n1_; have HB := n2_; clear n0_ n1_ n2_; (try clear hb); (try clear hb2); (try clear hk); (try clear hi); (try clear ho0)))
    go_ret
    exact ⟨_, zw, zd1 HO398.out, zb⟩
   rw [if_pos c7] at H
   have c7b0 : decide (x13_1 < (l0.length : Int)) = true := decide_eq_true c7
   clear c7
   by_cases c8 : 0 ≤ x13_1
   rotate_left
   ·rw [if_neg c8] at H
    exact absurd H (by simp)
   rw [if_pos c8] at H
   have c8b0 : decide (0 ≤ x13_1) = true := decide_eq_true c8
   clear c8
   by_cases c9 : x13_1 < (l0.length : Int)
   rotate_left
   ·rw [if_neg c9] at H
    exact absurd H (by simp)
   rw [if_pos c9] at H
   have c9b0 : decide (x13_1 < (l0.length : Int)) = true := decide_eq_true c9
   clear c9
   replace H := Option.bind_eq_some_iff.mp H
   obtain ⟨⟨t389, t390, t391⟩, A100, H⟩ := H
   replace H : (if x5_1.length < 5864062014805 then (impl_cubeForm.l0 k1 a1 (x5_1 ++ [(⟨t389, t390, t391⟩ : S63)]) l0 (l0.length : Int) (wrap64 (x13_1 + 1))) else (none)) = some r := H
   have A10 := aM A100
   clear A100
   by_cases c11 : x5_1.length < 5864062014805
   rotate_left
   ·rw [if_neg c11] at H
    exact absurd H (by simp)
   rw [if_pos c11] at H
   have LMc11 := aM c11
   clear c11
   obtain ⟨y392, hy392⟩ : ∃ y_ : List (S63), y_ = (x5_1 ++ [(⟨t389, t390, t391⟩ : S63)]) := ⟨_, rfl⟩
   replace H : (impl_cubeForm.l0 k1 a1 y392 l0 (l0.length : Int) (wrap64 (x13_1 + 1))) = some r := zy H hy392
   have Ny392 := aM hy392
   clear hy392
   have H' := aM H
   clear H
   have p387 : 0 ≤ (x13_1 : Int) := of_decide_eq_true za
   have q387 : x13_1 < (l0.length : Int) := of_decide_eq_true za
   obtain ⟨ad387, e387, hx387_0, hx387_1, hx387_2⟩ := at_T63 HR0.out x13_1 p387 q387
   cases e387
   replace hx387_0 := zk HB.out hx387_0
   replace hx387_1 := zk HB.out hx387_1
   replace hx387_2 := zk HB.out hx387_2
   replace p387 := eq_true p387
   replace q387 := eq_true q387
   go_wp2_with (first | ((with_reducible refine gate_dst (N := 7) rfl ?_); refine zx 7 #[.int .i64 0, .int .i64 0, .int .i64 0] 63 ?_; intro gb388 hg w12 hbox hb; have n0_ := aM (Kd.R_below (Kd.R_elderB (mR_ HO_5.out) gb388 (Nat.le_of_eq hg.symm)) hb); have n1_ := aM (below_step zb hb); have n2_ := aM (hbox); have n3_ := aM ((ze : w.heap.size ≤ gb388)); have n4_ := aM ((ze : w.heap.size ≤ gb388)); clear HO_5 HB; have HO_5 := n0_; have HB := n1_; have BK388 := n2_; have GW388 := n3_; have GE388 := n4_; clear n0_ n1_ n2_ n3_ n4_ hb hbox hg; have hcz13_0 : w12.cell? ⟨gb388, 0, none⟩ = some (.int .i64 0) := (blk_cell BK388.out 0).trans rfl; have hcz13_1 : w12.cell? ⟨gb388, 1, none⟩ = some (.int .i64 0) := (blk_cell BK388.out 1).trans rfl; have hcz13_2 : w12.cell? ⟨gb388, 2, none⟩ = some (.int .i64 0) := (blk_cell BK388.out 2).trans rfl; have hfz13_0 := blk_frozen BK388.out 0; have hfz13_1 := blk_frozen BK388.out 1; have hfz13_2 := blk_frozen BK388.out 2) | ((with_reducible refine gate_callee (f := 70) rfl ?_); refine goesL_ (some 20) rfl rfl Try.func70 (by kernel_rfl) rfl #[.agg #[.int .i64 ((rd_T63 l0 x13_1).f0), .int .i64 ((rd_T63 l0 x13_1).f1), .int .i64 ((rd_T63 l0 x13_1).f2)], .int .i64 a1] rfl zm ?_; (with_reducible refine (impl_turnCube.calls k1 ((rd_T63 l0 x13_1).f0) ((rd_T63 l0 x13_1).f1) ((rd_T63 l0 x13_1).f2) a1 t389 t390 t391 _ A10.out).mono ?_); rintro e w14 ⟨rfl, hb⟩; refine ⟨_, rfl, ?_⟩; have n0_ := aM (Kd.R_below (by (with_reducible repeat (first | apply Kd.R_alloc | apply Kd.R_drewN | apply Kd.R_drew)); exact (Kd.R_mono (Kd.R_far (p := ⟨gb388, 2, none⟩) (Kd.R_far (p := ⟨gb388, 1, none⟩) (Kd.R_far (p := ⟨gb388, 0, none⟩) (Kd.R_mono HO_5.out (fun k_ hk => (⟨hk, hk.2⟩ : _ ∧ k_ ≠ gb388))) (fun _ hk => hk.2) (.int .i64 ((rd_T63 l0 x13_1).f0))) (fun _ hk => hk.2) (.int .i64 ((rd_T63 l0 x13_1).f1))) (fun _ hk => hk.2) (.int .i64 ((rd_T63 l0 x13_1).f2))) (fun _ h_ => h_.1))) hb); have n1_ := aM (blk_below (g := gb388) (o := .cells #[.int .i64 ((rd_T63 l0 x13_1).f0), .int .i64 ((rd_T63 l0 x13_1).f1), .int .i64 ((rd_T63 l0 x13_1).f2)] 63 (0, 0)) (by (with_reducible repeat (first | refine blk_drewN ?_ _ | refine blk_drew ?_ | refine blk_alloc ?_ _)); refine blk_put (cs := #[.int .i64 ((rd_T63 l0 x13_1).f0), .int .i64 ((rd_T63 l0 x13_1).f1), .int .i64 0]) ?_ 2 _ rfl; (with_reducible repeat (first | refine blk_drewN ?_ _ | refine blk_drew ?_ | refine blk_alloc ?_ _)); refine blk_put (cs := #[.int .i64 ((rd_T63 l0 x13_1).f0), .int .i64 0, .int .i64 0]) ?_ 1 _ rfl; (with_reducible repeat (first | refine blk_drewN ?_ _ | refine blk_drew ?_ | refine blk_alloc ?_ _)); refine blk_put (cs := #[.int .i64 0, .int .i64 0, .int .i64 0]) ?_ 0 _ rfl; (with_reducible repeat (first | refine blk_drewN ?_ _ | refine blk_drew ?_ | refine blk_alloc ?_ _)); exact BK388.out) hb); have n2_ := aM (below_step (zs GE388.out) hb); clear HO_5 BK388 HB; have HO_5 := n0_; have BK388 := n1_; have HB := n2_; clear n0_ n1_ n2_; (try clear hb); (try clear hb2); (try clear hk); (try clear hi)) | ((with_reducible refine gate_builtin (b := .append) (xs := #[.tmp 17, .tmp 21]) rfl ?_); at_builtin; refine Kd.R_append k63 (w0 := w) w.heap.size rfl (.tmp 17) (.tmp 21) 34 63 (.agg #[(.int .i64 0), (.int .i64 0), (.int .i64 0)]) 24 rfl Try.underlying34 info63 rfl (by decide) (by omega) u5 x5_1 (⟨t389, t390, t391⟩ : S63) [.int .i64 t389, .int .i64 t390, .int .i64 t391] (fun k_ => k_ ≠ gb388) (fun _ => False) rfl rfl ?aP (fun _ hk => hk.elim) ?aF ?aO ?aB ?aS ?aL ?_; (case aP => exact k63_mkM _ _ _ (⟨t389, t390, t391⟩ : S63)); (case aB => exact (zs GE388.out)); (case aF => exact (fun k_ hk => Kd.freshB (g := gb388) (o := .cells #[.int .i64 ((rd_T63 l0 x13_1).f0), .int .i64 ((rd_T63 l0 x13_1).f1), .int .i64 ((rd_T63 l0 x13_1).f2)] 63 (0, 0)) (mB_ BK388.out) k_ hk)); (case aO => exact (zd0 HO_5.out)); (case aS => exact (below_size (zs GE388.out))); (case aL => have := LMc11.out; omega); intro v393 w15 ho hb hg hat; rw [← Ny392.out] at ho; have n0_ := aM (blk_grown (g := gb388) (o := .cells #[.int .i64 ((rd_T63 l0 x13_1).f0), .int .i64 ((rd_T63 l0 x13_1).f1), .int .i64 ((rd_T63 l0 x13_1).f2)] 63 (0, 0)) (mB_ BK388.out) hg (Kd.R_away HO_5.out (fun _ hk => hk.2))); have n1_ := aM (hb); have n2_ := aM (ho); clear BK388 HB HO_5; have BK388 := n0_; have HB := n1_; have HO394 := n2_; clear n0_ n1_ n2_; clear ho hb hg hat))
   go_roundg k1
   case measure => have := HK1.out; omega
   case rel => exact ⟨(y392), (wrap64 (x13_1 + 1)), zr, H', ⟨by have := HK1.out; omega⟩, ⟨zd1 HO394.out⟩, ⟨zs GE388.out⟩⟩
def cmp_isNaN_int.f (a0 : Int) : Option (Bool) := some (a0 != a0)
theorem cmp_isNaN_int.calls (a0 : Int) (r : Bool) (w : World) (h : cmp_isNaN_int.f a0 = some r) :
  Calls Try.prog 103 #[.int .i64 a0] w fun e w' => e = .returned (.bool r) ∧ Drawn0 w w' := by
 have H : (some (a0 != a0)) = some r := h
 clear h
 obtain rfl := Option.some.inj H
 go_enter Try.func103, Try.ntmps103
 go_wp2
 go_ret
 exact ⟨by first | rfl | (simp; done) | (simp [*]; done), by repeat (first | exact Drawn0.refl _ | apply Drawn0.step)⟩
def cmp_Compare_int.f (a0 : Int) (a1 : Int) : Option (Int) := (cmp_isNaN_int.f a0).bind fun t399 => ((cmp_isNaN_int.f a1).bind fun t400 => (if t399 = true then (if t400 = true then (some 0) else (some (-1))) else (if t400 = true then (some 1) else (if a0 < a1 then (some (-1)) else (if a0 > a1 then (some 1) else (some 0))))))
end Go.Proofs.Ytonldmalaajkgaa.F
end
