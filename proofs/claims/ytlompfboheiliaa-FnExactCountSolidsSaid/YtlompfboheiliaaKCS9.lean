/- The row of FnExactCountSolids, with what it needs: text 10 of 12. -/
import Derived.Test.YtlompfboheiliaaKCS8
import Derived.ChangeArms
import Derived.ChangeSame
import Derived.Deep.Fields
import Derived.Deep.Slices
import Derived.Deep.Strs
import Derived.WideShapes
set_option maxHeartbeats 8000000
set_option maxRecDepth 100000
section
namespace Go.Proofs.Ytlompfboheiliaa.F
open Go.RowKit Go.Proofs.YtlompfboheiliaaW.PrintWords Go.Proofs.YtlompfboheiliaaW.PrintLast Go.Proofs.YtlompfboheiliaaW.PrintMore
attribute [local go_sem] max2_int min2_int max_two min_two max_three min_three max_four min_four
set_option linter.unusedVariables false
set_option linter.unusedSimpArgs false
theorem impl_cubeForm.calls (k : Nat) (A0 : Option Addr) (c0 : Nat) (l0 : List (S43)) (a1 : Int) (r : List (S43)) (w : World) (hr0 : Kd.C k43 w A0 l0.length l0) (hc0 : l0.length ≤ c0) (h : impl_cubeForm.f k l0 a1 = some r) :
  Calls Try.prog 60 #[.slice A0 l0.length c0, .int .i64 a1] w fun e w' => ∃ v0_ : Value, e = .returned (v0_) ∧ Kd.R k43 43 w' w.heap.size (fun _ => True) v0_ r ∧ Below w.heap.size w w' := by
 have hu43 := Try.underlying43
 have HR0 := aM hr0
 have HC0 := aM hc0
 clear hr0 hc0
 have HB := aM (Below.refl w.heap.size w)
 have H : (if 0 ≤ (l0.length : Int) then (if ((l0.length : Int) : Int).toNat ≤ 11728124029610 then (impl_cubeForm.l0 k a1 (([] : List (S43))) l0 (l0.length : Int) 0) else (none)) else (none)) = some r := h
 clear h
 by_cases c3 : 0 ≤ (l0.length : Int)
 rotate_left
 ·rw [if_neg c3] at H
  exact absurd H (by simp)
 rw [if_pos c3] at H
 have c3b0 := eq_true c3
 have c3b1 : decide (0 ≤ (l0.length : Int)) = true := decide_eq_true c3
 clear c3
 by_cases c4 : ((l0.length : Int) : Int).toNat ≤ 11728124029610
 rotate_left
 ·rw [if_neg c4] at H
  exact absurd H (by simp)
 rw [if_pos c4] at H
 have c4b0 := eq_true c4
 have c4b1 : decide (((l0.length : Int) : Int).toNat ≤ 11728124029610) = true := decide_eq_true c4
 clear c4
 obtain ⟨y423, hy423⟩ : ∃ y_ : List (S43), y_ = (([] : List (S43))) := ⟨_, rfl⟩
 replace H : (impl_cubeForm.l0 k a1 y423 l0 (l0.length : Int) 0) = some r := zy H hy423
 have Ny423 := aM hy423
 clear hy423
 have H' := aM H
 clear H
 go_enter Try.func60, Try.ntmps60
 go_wp2_with (first | ((with_reducible refine gate_dst (N := 10) rfl ?_); refine Kd.R_make0 k43 _ 43 rfl (N := 10) rfl 40 _ _ rfl (l0.length : Int) rfl rfl Try.underlying40 (.agg #[(.int .i64 0), (.int .i64 0), (.int .i64 0)]) 24 info43 rfl (by decide) (by omega) z43 (ok := fun _ => True) (okp := fun _ => True) (k43_mkM _ _ _ z43 ) (fun _ hk => hk) trivial (of_decide_eq_true za) (Nat.le_trans (Nat.mul_le_mul_right _ (of_decide_eq_true za : (l0.length : Int).toNat ≤ 11728124029610)) (by omega)) (Below.refl _ _) (Nat.le_refl _) ?_; intro v424 w5 ho6 hb hg_ hnew_; clear hg_ hnew_; (first | rw [← Ny423.out] at ho6 | (simp only [Int.reduceToNat] at ho6; rw [← Ny423.out] at ho6)); have n0_ := aM (Kd.R_lower ho6 (below_size zb)); have n1_ := aM (below_step zb hb); clear HB; have HO425 := n0_; have HB := n1_; clear n0_ n1_; clear hb ho6))
 go_loopg [5, 13] k (fun kq v5 v13 w' => ∃ (x5_1 : List (S43)) (x13_1 : Int), v13 = .int .i64 x13_1 ∧ Aside0 (impl_cubeForm.l0 kq a1 x5_1 l0 (l0.length : Int) x13_1 = some r) ∧ Aside0 (kq ≤ k) ∧ Aside0 (Kd.R k43 43 w' w.heap.size (fun _ => True) v5 x5_1) ∧ Aside0 (Below w.heap.size w w'))
 case atStart => exact ⟨(y423), (0), zr, H', ⟨Nat.le_refl _⟩, ⟨mR_ HO425.out⟩, ⟨zb⟩⟩
 case round =>
  clear H'
  try clear p2
  try clear c3
  try clear c3b0
  try clear c3b1
  try clear c4
  try clear c4b0
  try clear c4b1
  try clear c6
  obtain ⟨x5_1, x13_1, rfl, HA, HK1, HO_5, HB⟩ := hrel
  cases gk with
  | zero => exact absurd HA.out (by simp [impl_cubeForm.l0])
  | succ k1 =>
   have H := HA.out
   clear HA
   simp only [impl_cubeForm.l0] at H
   by_cases c7 : x13_1 < (l0.length : Int)
   rotate_left
   ·rw [if_neg c7] at H
    have c7b0 : decide (x13_1 < (l0.length : Int)) = false := decide_eq_false c7
    clear c7
    replace H := Option.bind_eq_some_iff.mp H
    obtain ⟨t434, A160, H⟩ := H
    replace H : ((impl_normalCubes.f k1 t434).bind fun t435 => (some t435)) = some r := H
    have A16 := aM A160
    clear A160
    replace H := Option.bind_eq_some_iff.mp H
    obtain ⟨t435, A170, H⟩ := H
    replace H : (some t435) = some r := H
    have A17 := aM A170
    clear A170
    obtain rfl := Option.some.inj H
    obtain ⟨Ao18, co18, eo18⟩ := Kd.R_slice HO_5.out
    subst eo18
    go_wp2_with (first | ((with_reducible refine gate_callee (f := 37) rfl ?_); refine goesL_ (some 25) rfl rfl Try.func37 (by kernel_rfl) rfl #[.slice Ao18 x5_1.length co18, .func (.func 38) #[] #[]] rfl zm ?_; (with_reducible refine (impl_Cube_37__impl_compareCubes.calls (fun k_ => some k_ = (.slice Ao18 x5_1.length co18 : Value).ownBlock) (.slice Ao18 x5_1.length co18) x5_1  t434 w _ ?side1 ?side2 A16.out).mono ?_); (case side1 => repeat (first | (with_reducible first | exact HB.out | apply below_alloc | apply pw_below_drewN | apply below_drew1) | exact HB.out)); (case side2 => exact Kd.R_tight rfl HO_5.out); rintro e w19 ⟨rfl, hy0, hb, hkp⟩; refine ⟨_, rfl, ?_⟩; have n0_ := aM (Kd.R_reok rfl hy0 (fun k_ e_ => HO_5.out.1 k_ e_)); have n1_ := aM (hb); clear HO_5 HB; have HO_5 := n0_; have HB := n1_; clear n0_ n1_; (try clear hb); (try clear hkp); (try clear hy0)) | ((with_reducible refine gate_callee (f := 39) rfl ?_); refine goesL_ (some 27) rfl rfl Try.func39 (by kernel_rfl) rfl #[.slice Ao18 t434.length co18] rfl (by (try simp only [mA, mB, mC]); first | done | (rw [show t434.length = x5_1.length from (Kd.R_reads' HO_5.out).1.symm] <;> rfl) | rfl | (simp only [lD, lT]; rfl)) ?_; (with_reducible refine (impl_normalCubes.calls k1 _ _ t434 t435 _ ?side1 ?side2 A17.out).mono ?_); (case side1 => exact zc HO_5.out); (case side2 => rw [show t434.length = x5_1.length from (Kd.R_reads' HO_5.out).1.symm]; exact (Kd.R_reads' HO_5.out).2.1); rintro e w20 ⟨v436, rfl, ho0, hb⟩; refine ⟨_, rfl, ?_⟩; have n0_ := aM (Kd.R_elder' (mR_ HO_5.out) (Kd.R_base ho0) hb); have n1_ := aM (Kd.R_lower (Kd.R_new' ho0 (Kd.R_lt (mR_ HO_5.out))) (below_size zb)); have n2_ := aM (below_step zb hb); clear HO_5 HB; have HO_5 := n0_; have HO437 := n1_; have HB := n2_; clear n0_ n1_ n2_; (try clear hb); (try clear hb2); (try clear hk); (try clear hi); (try clear ho0)))
    go_ret
    exact ⟨_, zw, zd6 HO437.out, zb⟩
   rw [if_pos c7] at H
   have c7b0 : decide (x13_1 < (l0.length : Int)) = true := decide_eq_true c7
   clear c7
   by_cases c8 : 0 ≤ x13_1
   rotate_left
   ·rw [if_neg c8] at H
    exact absurd H (by simp)
   rw [if_pos c8] at H
   have c8b0 : decide (0 ≤ x13_1) = true := decide_eq_true c8
   clear c8
   by_cases c9 : x13_1 < (l0.length : Int)
   rotate_left
   ·rw [if_neg c9] at H
    exact absurd H (by simp)
   rw [if_pos c9] at H
   have c9b0 : decide (x13_1 < (l0.length : Int)) = true := decide_eq_true c9
   clear c9
   replace H := Option.bind_eq_some_iff.mp H
   obtain ⟨⟨t428, t429, t430⟩, A100, H⟩ := H
   replace H : (if x5_1.length < 5864062014805 then (impl_cubeForm.l0 k1 a1 (x5_1 ++ [(⟨t428, t429, t430⟩ : S43)]) l0 (l0.length : Int) (wrap64 (x13_1 + 1))) else (none)) = some r := H
   have A10 := aM A100
   clear A100
   by_cases c11 : x5_1.length < 5864062014805
   rotate_left
   ·rw [if_neg c11] at H
    exact absurd H (by simp)
   rw [if_pos c11] at H
   have LMc11 := aM c11
   clear c11
   obtain ⟨y431, hy431⟩ : ∃ y_ : List (S43), y_ = (x5_1 ++ [(⟨t428, t429, t430⟩ : S43)]) := ⟨_, rfl⟩
   replace H : (impl_cubeForm.l0 k1 a1 y431 l0 (l0.length : Int) (wrap64 (x13_1 + 1))) = some r := zy H hy431
   have Ny431 := aM hy431
   clear hy431
   have H' := aM H
   clear H
   have p426 : 0 ≤ (x13_1 : Int) := of_decide_eq_true za
   have q426 : x13_1 < (l0.length : Int) := of_decide_eq_true za
   obtain ⟨ad426, e426, hx426_0, hx426_1, hx426_2⟩ := at_T43 HR0.out x13_1 p426 q426
   cases e426
   replace hx426_0 := zk HB.out hx426_0
   replace hx426_1 := zk HB.out hx426_1
   replace hx426_2 := zk HB.out hx426_2
   replace p426 := eq_true p426
   replace q426 := eq_true q426
   go_wp2_with (first | ((with_reducible refine gate_dst (N := 7) rfl ?_); refine zx 7 #[.int .i64 0, .int .i64 0, .int .i64 0] 43 ?_; intro gb427 hg w12 hbox hb; have n0_ := aM (Kd.R_below (Kd.R_elderB (mR_ HO_5.out) gb427 (Nat.le_of_eq hg.symm)) hb); have n1_ := aM (below_step zb hb); have n2_ := aM (hbox); have n3_ := aM ((ze : w.heap.size ≤ gb427)); have n4_ := aM ((ze : w.heap.size ≤ gb427)); clear HO_5 HB; have HO_5 := n0_; have HB := n1_; have BK427 := n2_; have GW427 := n3_; have GE427 := n4_; clear n0_ n1_ n2_ n3_ n4_ hb hbox hg; have hcz13_0 : w12.cell? ⟨gb427, 0, none⟩ = some (.int .i64 0) := (blk_cell BK427.out 0).trans rfl; have hcz13_1 : w12.cell? ⟨gb427, 1, none⟩ = some (.int .i64 0) := (blk_cell BK427.out 1).trans rfl; have hcz13_2 : w12.cell? ⟨gb427, 2, none⟩ = some (.int .i64 0) := (blk_cell BK427.out 2).trans rfl; have hfz13_0 := blk_frozen BK427.out 0; have hfz13_1 := blk_frozen BK427.out 1; have hfz13_2 := blk_frozen BK427.out 2) | ((with_reducible refine gate_callee (f := 82) rfl ?_); refine goesL_ (some 20) rfl rfl Try.func82 (by kernel_rfl) rfl #[.agg #[.int .i64 ((rd_T43 l0 x13_1).f0), .int .i64 ((rd_T43 l0 x13_1).f1), .int .i64 ((rd_T43 l0 x13_1).f2)], .int .i64 a1] rfl zm ?_; (with_reducible refine (impl_turnCube.calls k1 ((rd_T43 l0 x13_1).f0) ((rd_T43 l0 x13_1).f1) ((rd_T43 l0 x13_1).f2) a1 t428 t429 t430 _ A10.out).mono ?_); rintro e w14 ⟨rfl, hb⟩; refine ⟨_, rfl, ?_⟩; have n0_ := aM (Kd.R_below (by (with_reducible repeat (first | apply Kd.R_alloc | apply Kd.R_drewN | apply Kd.R_drew)); exact (Kd.R_mono (Kd.R_far (p := ⟨gb427, 2, none⟩) (Kd.R_far (p := ⟨gb427, 1, none⟩) (Kd.R_far (p := ⟨gb427, 0, none⟩) (Kd.R_mono HO_5.out (fun k_ hk => (⟨hk, hk.2⟩ : _ ∧ k_ ≠ gb427))) (fun _ hk => hk.2) (.int .i64 ((rd_T43 l0 x13_1).f0))) (fun _ hk => hk.2) (.int .i64 ((rd_T43 l0 x13_1).f1))) (fun _ hk => hk.2) (.int .i64 ((rd_T43 l0 x13_1).f2))) (fun _ h_ => h_.1))) hb); have n1_ := aM (blk_below (g := gb427) (o := .cells #[.int .i64 ((rd_T43 l0 x13_1).f0), .int .i64 ((rd_T43 l0 x13_1).f1), .int .i64 ((rd_T43 l0 x13_1).f2)] 43 (0, 0)) (by (with_reducible repeat (first | refine blk_drewN ?_ _ | refine blk_drew ?_ | refine blk_alloc ?_ _)); refine blk_put (cs := #[.int .i64 ((rd_T43 l0 x13_1).f0), .int .i64 ((rd_T43 l0 x13_1).f1), .int .i64 0]) ?_ 2 _ rfl; (with_reducible repeat (first | refine blk_drewN ?_ _ | refine blk_drew ?_ | refine blk_alloc ?_ _)); refine blk_put (cs := #[.int .i64 ((rd_T43 l0 x13_1).f0), .int .i64 0, .int .i64 0]) ?_ 1 _ rfl; (with_reducible repeat (first | refine blk_drewN ?_ _ | refine blk_drew ?_ | refine blk_alloc ?_ _)); refine blk_put (cs := #[.int .i64 0, .int .i64 0, .int .i64 0]) ?_ 0 _ rfl; (with_reducible repeat (first | refine blk_drewN ?_ _ | refine blk_drew ?_ | refine blk_alloc ?_ _)); exact BK427.out) hb); have n2_ := aM (below_step (zs GE427.out) hb); clear HO_5 BK427 HB; have HO_5 := n0_; have BK427 := n1_; have HB := n2_; clear n0_ n1_ n2_; (try clear hb); (try clear hb2); (try clear hk); (try clear hi)) | ((with_reducible refine gate_builtin (b := .append) (xs := #[.tmp 17, .tmp 21]) rfl ?_); at_builtin; refine Kd.R_append k43 (w0 := w) w.heap.size rfl (.tmp 17) (.tmp 21) 40 43 (.agg #[(.int .i64 0), (.int .i64 0), (.int .i64 0)]) 24 rfl Try.underlying40 info43 rfl (by decide) (by omega) u5 x5_1 (⟨t428, t429, t430⟩ : S43) [.int .i64 t428, .int .i64 t429, .int .i64 t430] (fun k_ => k_ ≠ gb427) (fun _ => False) rfl rfl ?aP (fun _ hk => hk.elim) ?aF ?aO ?aB ?aS ?aL ?_; (case aP => exact k43_mkM _ _ _ (⟨t428, t429, t430⟩ : S43)); (case aB => exact (zs GE427.out)); (case aF => exact (fun k_ hk => Kd.freshB (g := gb427) (o := .cells #[.int .i64 ((rd_T43 l0 x13_1).f0), .int .i64 ((rd_T43 l0 x13_1).f1), .int .i64 ((rd_T43 l0 x13_1).f2)] 43 (0, 0)) (mB_ BK427.out) k_ hk)); (case aO => exact (zd5 HO_5.out)); (case aS => exact (below_size (zs GE427.out))); (case aL => have := LMc11.out; omega); intro v432 w15 ho hb hg hat; rw [← Ny431.out] at ho; have n0_ := aM (blk_grown (g := gb427) (o := .cells #[.int .i64 ((rd_T43 l0 x13_1).f0), .int .i64 ((rd_T43 l0 x13_1).f1), .int .i64 ((rd_T43 l0 x13_1).f2)] 43 (0, 0)) (mB_ BK427.out) hg (Kd.R_away HO_5.out (fun _ hk => hk.2))); have n1_ := aM (hb); have n2_ := aM (ho); clear BK427 HB HO_5; have BK427 := n0_; have HB := n1_; have HO433 := n2_; clear n0_ n1_ n2_; clear ho hb hg hat))
   go_roundg k1
   case measure => have := HK1.out; omega
   case rel => exact ⟨(y431), (wrap64 (x13_1 + 1)), zr, H', ⟨by have := HK1.out; omega⟩, ⟨zd6 HO433.out⟩, ⟨zs GE427.out⟩⟩
mutual
def impl_leastSolid.j0 : Nat → List (S43) → Int → Option ((List (S43)))
 | 0, _, _ => none
 | k + 1, x0, x5 => (impl_cubeForm.f k x0 0).bind fun t438 => (impl_leastSolid.l0 k x0 x5 t438 1)
def impl_leastSolid.l0 : Nat → List (S43) → Int → List (S43) → Int → Option ((List (S43)))
 | 0, _, _, _, _ => none
 | k + 1, x0, x5, x6, x7 => if x7 < x5 then ((impl_cubeForm.f k x0 x7).bind fun t441 => ((impl_compareSolids.f k t441 x6).bind fun t444 => (if t444 < 0 then (impl_leastSolid.l0 k x0 x5 t441 (wrap64 (x7 + 1))) else (impl_leastSolid.l0 k x0 x5 x6 (wrap64 (x7 + 1)))))) else (some x6)
end
def impl_leastSolid.f (k : Nat) (l0 : List (S43)) (a1 : Bool) : Option ((List (S43))) := if a1 = true then (impl_leastSolid.j0 k l0 48) else (impl_leastSolid.j0 k l0 24)
theorem impl_leastSolid.calls (k : Nat) (A0 : Option Addr) (c0 : Nat) (l0 : List (S43)) (a1 : Bool) (r : List (S43)) (w : World) (hr0 : Kd.C k43 w A0 l0.length l0) (hc0 : l0.length ≤ c0) (h : impl_leastSolid.f k l0 a1 = some r) :
  Calls Try.prog 45 #[.slice A0 l0.length c0, .bool a1] w fun e w' => ∃ v0_ : Value, e = .returned (v0_) ∧ Kd.R k43 43 w' w.heap.size (fun _ => True) v0_ r ∧ Below w.heap.size w w' := by
 have HR0 := aM hr0
 have HC0 := aM hc0
 clear hr0 hc0
 have HB := aM (Below.refl w.heap.size w)
 have H : (if a1 = true then (impl_leastSolid.j0 k l0 48) else (impl_leastSolid.j0 k l0 24)) = some r := h
 clear h
 have HC3 := aM H
 clear H
 go_enter Try.func45, Try.ntmps45
 go_upto_if 9 with (fail)
 go_cut [5] (fun v5 wc => ∃ (kq : Nat) (x5_2 : Int), v5 = .int .i64 x5_2 ∧ Aside0 (impl_leastSolid.j0 kq l0 x5_2 = some r) ∧ Aside0 (kq ≤ k) ∧ Aside0 (Below w.heap.size w wc))
 case first =>
  have H := HC3.out
  clear HC3
  by_cases c4 : a1 = true
  ·subst c4
   have H1 : (impl_leastSolid.j0 k l0 48) = some r := by rw [if_pos rfl] at H; exact H
   clear H
   have H := H1
   clear H1
   have H' := aM H
   clear H
   go_wp2
   go_meet
   case rel => exact ⟨_, (48), zr, H', ⟨by first | omega | exact Nat.le_refl _⟩, ⟨zb⟩⟩
  replace c4 := Bool.eq_false_iff.mpr c4
  subst c4
  have H1 : (impl_leastSolid.j0 k l0 24) = some r := by rw [if_neg (show ¬ (false = true) by decide)] at H; exact H
  clear H
  have H := H1
  clear H1
  have H' := aM H
  clear H
  go_wp2
  go_meet
  case rel => exact ⟨_, (24), zr, H', ⟨by first | omega | exact Nat.le_refl _⟩, ⟨zb⟩⟩
 case rest =>
  clear HC3
  try clear p2
  try clear c4
  obtain ⟨kq, x5_2, rfl, HA, HJ2, HB⟩ := hcut
  cases kq with
  | zero => exact absurd HA.out (by simp [impl_leastSolid.j0])
  | succ kj2 =>
   have H := HA.out
   clear HA
   simp only [impl_leastSolid.j0] at H
   replace H := Option.bind_eq_some_iff.mp H
   obtain ⟨t438, A50, H⟩ := H
   replace H : (impl_leastSolid.l0 kj2 l0 x5_2 t438 1) = some r := H
   have A5 := aM A50
   clear A50
   have H' := aM H
   clear H
   go_wp2_with (first | ((with_reducible refine gate_callee (f := 60) rfl ?_); refine goesL_ (some 11) rfl rfl Try.func60 (by kernel_rfl) rfl #[.slice A0 l0.length c0, .int .i64 0] rfl zm ?_; (with_reducible refine (impl_cubeForm.calls kj2 _ _ l0 0 t438 _ ?side1 ?side2 A5.out).mono ?_); (case side1 => repeat (first | exact (Kd.C_below HR0.out HB.out) | (with_reducible refine Kd.C_alloc ?_ _) | (with_reducible refine Kd.C_drewN ?_ _) | (with_reducible refine Kd.C_drew ?_))); (case side2 => exact HC0.out); rintro e w6 ⟨v439, rfl, ho0, hb⟩; refine ⟨_, rfl, ?_⟩; have n0_ := aM (Kd.R_lower ho0 (below_size zb)); have n1_ := aM (below_step zb hb); clear HB; have HO440 := n0_; have HB := n1_; clear n0_ n1_; (try clear hb); (try clear hb2); (try clear hk); (try clear hi); (try clear ho0)))
   go_loopg [6, 7] kj2 (fun kq v6 v7 w' => ∃ (x6_2 : List (S43)) (x7_2 : Int), v7 = .int .i64 x7_2 ∧ Aside0 (impl_leastSolid.l0 kq l0 x5_2 x6_2 x7_2 = some r) ∧ Aside0 (kq ≤ kj2) ∧ Aside0 (Kd.R k43 43 w' w.heap.size (fun _ => True) v6 x6_2) ∧ Aside0 (Below w.heap.size w w'))
   case atStart => exact ⟨(t438), (1), zr, H', ⟨Nat.le_refl _⟩, ⟨mR_ HO440.out⟩, ⟨zb⟩⟩
   case round =>
    clear H'
    try clear p2
    try clear c4
    try clear c6
    try clear p2
    obtain ⟨x6_2, x7_2, rfl, HA, HK2, HO_6, HB⟩ := hrel
    cases gk with
    | zero => exact absurd HA.out (by simp [impl_leastSolid.l0])
    | succ k2 =>
     have H := HA.out
     clear HA
     simp only [impl_leastSolid.l0] at H
     by_cases c7 : x7_2 < x5_2
     rotate_left
     ·rw [if_neg c7] at H
      have c7b0 : decide (x7_2 < x5_2) = false := decide_eq_false c7
      clear c7
      obtain rfl := Option.some.inj H
      go_wp2
      go_ret
      exact ⟨_, zw, mR_ HO_6.out, zb⟩
     rw [if_pos c7] at H
     have c7b0 : decide (x7_2 < x5_2) = true := decide_eq_true c7
     clear c7
     replace H := Option.bind_eq_some_iff.mp H
     obtain ⟨t441, A80, H⟩ := H
     replace H : ((impl_compareSolids.f k2 t441 x6_2).bind fun t444 => (if t444 < 0 then (impl_leastSolid.l0 k2 l0 x5_2 t441 (wrap64 (x7_2 + 1))) else (impl_leastSolid.l0 k2 l0 x5_2 x6_2 (wrap64 (x7_2 + 1))))) = some r := H
     have A8 := aM A80
     clear A80
     replace H := Option.bind_eq_some_iff.mp H
     obtain ⟨t444, A90, H⟩ := H
     replace H : (if t444 < 0 then (impl_leastSolid.l0 k2 l0 x5_2 t441 (wrap64 (x7_2 + 1))) else (impl_leastSolid.l0 k2 l0 x5_2 x6_2 (wrap64 (x7_2 + 1)))) = some r := H
     have A9 := aM A90
     clear A90
     by_cases c10 : t444 < 0
     ·rw [if_pos c10] at H
      have c10b0 : decide (t444 < 0) = true := decide_eq_true c10
      clear c10
      have H' := aM H
      clear H
      go_wp2_with (first | ((with_reducible refine gate_callee (f := 60) rfl ?_); refine goesL_ (some 19) rfl rfl Try.func60 (by kernel_rfl) rfl #[.slice A0 l0.length c0, .int .i64 x7_2] rfl zm ?_; (with_reducible refine (impl_cubeForm.calls k2 _ _ l0 x7_2 t441 _ ?side1 ?side2 A8.out).mono ?_); (case side1 => repeat (first | exact (Kd.C_below HR0.out HB.out) | (with_reducible refine Kd.C_alloc ?_ _) | (with_reducible refine Kd.C_drewN ?_ _) | (with_reducible refine Kd.C_drew ?_))); (case side2 => exact HC0.out); rintro e w11 ⟨v442, rfl, ho0, hb⟩; refine ⟨_, rfl, ?_⟩; have n0_ := aM (Kd.R_elder' (mR_ HO_6.out) (Kd.R_base ho0) hb); have n1_ := aM (Kd.R_lower (Kd.R_new' ho0 (Kd.R_lt (mR_ HO_6.out))) (below_size zb)); have n2_ := aM (below_step zb hb); clear HO_6 HB; have HO_6 := n0_; have HO443 := n1_; have HB := n2_; clear n0_ n1_ n2_; (try clear hb); (try clear hb2); (try clear hk); (try clear hi); (try clear ho0); obtain ⟨Ao12, co12, eo12⟩ := Kd.R_slice HO443.out; subst eo12; obtain ⟨Ao13, co13, eo13⟩ := Kd.R_slice HO_6.out; subst eo13) | ((with_reducible refine gate_callee (f := 41) rfl ?_); refine goesL_ (some 22) rfl rfl Try.func41 (by kernel_rfl) rfl #[.slice Ao12 t441.length co12, .slice Ao13 x6_2.length co13] rfl zm ?_; (with_reducible refine (impl_compareSolids.calls k2 _ _ t441 _ _ x6_2 t444 _ ?side1 ?side2 ?side3 ?side4 A9.out).mono ?_); (case side1 => exact zc HO443.out); (case side2 => exact (Kd.R_reads' HO443.out).2.1); (case side3 => exact zc HO_6.out); (case side4 => exact (Kd.R_reads' HO_6.out).2.1); rintro e w14 ⟨rfl, hb⟩; refine ⟨_, rfl, ?_⟩; have n0_ := aM (Kd.R_below (mR_ HO_6.out) hb); have n1_ := aM (Kd.R_below (mR_ HO443.out) hb); have n2_ := aM (below_step zb hb); clear HO_6 HO443 HB; have HO_6 := n0_; have HO443 := n1_; have HB := n2_; clear n0_ n1_ n2_; (try clear hb); (try clear hb2); (try clear hk); (try clear hi)))
      go_roundg k2
      case measure => have := HJ2.out; have := HK2.out; omega
      case rel => exact ⟨(t441), (wrap64 (x7_2 + 1)), zr, H', ⟨by have := HJ2.out; have := HK2.out; omega⟩, ⟨zd6 HO443.out⟩, ⟨zb⟩⟩
     rw [if_neg c10] at H
     have c10b0 : decide (t444 < 0) = false := decide_eq_false c10
     clear c10
     have H' := aM H
     clear H
     go_wp2_with (first | ((with_reducible refine gate_callee (f := 60) rfl ?_); refine goesL_ (some 19) rfl rfl Try.func60 (by kernel_rfl) rfl #[.slice A0 l0.length c0, .int .i64 x7_2] rfl zm ?_; (with_reducible refine (impl_cubeForm.calls k2 _ _ l0 x7_2 t441 _ ?side1 ?side2 A8.out).mono ?_); (case side1 => repeat (first | exact (Kd.C_below HR0.out HB.out) | (with_reducible refine Kd.C_alloc ?_ _) | (with_reducible refine Kd.C_drewN ?_ _) | (with_reducible refine Kd.C_drew ?_))); (case side2 => exact HC0.out); rintro e w15 ⟨v442, rfl, ho0, hb⟩; refine ⟨_, rfl, ?_⟩; have n0_ := aM (Kd.R_elder' (mR_ HO_6.out) (Kd.R_base ho0) hb); have n1_ := aM (Kd.R_lower (Kd.R_new' ho0 (Kd.R_lt (mR_ HO_6.out))) (below_size zb)); have n2_ := aM (below_step zb hb); clear HO_6 HB; have HO_6 := n0_; have HO443 := n1_; have HB := n2_; clear n0_ n1_ n2_; (try clear hb); (try clear hb2); (try clear hk); (try clear hi); (try clear ho0); obtain ⟨Ao16, co16, eo16⟩ := Kd.R_slice HO443.out; subst eo16; obtain ⟨Ao17, co17, eo17⟩ := Kd.R_slice HO_6.out; subst eo17) | ((with_reducible refine gate_callee (f := 41) rfl ?_); refine goesL_ (some 22) rfl rfl Try.func41 (by kernel_rfl) rfl #[.slice Ao16 t441.length co16, .slice Ao17 x6_2.length co17] rfl zm ?_; (with_reducible refine (impl_compareSolids.calls k2 _ _ t441 _ _ x6_2 t444 _ ?side1 ?side2 ?side3 ?side4 A9.out).mono ?_); (case side1 => exact zc HO443.out); (case side2 => exact (Kd.R_reads' HO443.out).2.1); (case side3 => exact zc HO_6.out); (case side4 => exact (Kd.R_reads' HO_6.out).2.1); rintro e w18 ⟨rfl, hb⟩; refine ⟨_, rfl, ?_⟩; have n0_ := aM (Kd.R_below (mR_ HO_6.out) hb); have n1_ := aM (Kd.R_below (mR_ HO443.out) hb); have n2_ := aM (below_step zb hb); clear HO_6 HO443 HB; have HO_6 := n0_; have HO443 := n1_; have HB := n2_; clear n0_ n1_ n2_; (try clear hb); (try clear hb2); (try clear hk); (try clear hi)))
     go_roundg k2
     case measure => have := HJ2.out; have := HK2.out; omega
     case rel => exact ⟨(x6_2), (wrap64 (x7_2 + 1)), zr, H', ⟨by have := HJ2.out; have := HK2.out; omega⟩, ⟨zd6 HO_6.out⟩, ⟨zb⟩⟩
def impl_ownSolids.l0 : Nat → Bool → List (List (S43)) → List (List (S43)) → Int → Int → Option ((List (List (S43))))
 | 0, _, _, _, _, _ => none
 | k + 1, x1, x5, x9, x10, x11 => if x11 < x10 then (if 0 ≤ x11 then (if x11 < (x9.length : Int) then ((impl_leastSolid.f k (rd_L2 x9 x11) x1).bind fun t449 => ((impl_Cube_44.f k t449 (rd_L2 x9 x11)).bind fun t452 => (if t452 = true then (if x5.length < 5864062014805 then (impl_ownSolids.l0 k x1 (x5 ++ [rd_L2 x9 x11]) x9 x10 (wrap64 (x11 + 1))) else (none)) else (impl_ownSolids.l0 k x1 x5 x9 x10 (wrap64 (x11 + 1)))))) else (none)) else (none)) else (some x5)
def impl_ownSolids.f (k : Nat) (l0 : List (List (S43))) (a1 : Bool) : Option ((List (List (S43)))) := (impl_ownSolids.l0 k a1 (([] : List (List (S43)))) l0 (l0.length : Int) 0).bind fun r_ => if apartB r_ = true then some r_ else none
theorem impl_ownSolids.calls (k : Nat) (P0_ : Nat → Prop) (A0 : Option Addr) (c0 : Nat) (l0 : List (List (S43))) (a1 : Bool) (r : List (List (S43))) (w : World) {b_ : Nat} (hb_ : b_ ≤ w.heap.size) (hs0 : Kd.V (own b_ 43 k43) 40 w w.heap.size (fun k_ => P0_ k_) (.slice A0 l0.length c0) l0) (h : impl_ownSolids.f k l0 a1 = some r) :
  Calls Try.prog 20 #[.slice A0 l0.length c0, .bool a1] w fun e w' => ∃ v0_ : Value, e = .returned (v0_) ∧ Kd.S (Kd.slice 43 k43) 40 w' b_ (fun k_ => (P0_ k_ ∨ w.heap.size ≤ k_)) v0_ r ∧ Below w.heap.size w w' := by
 have HO0 := aM (show Kd.V (own b_ 43 k43) 40 w w.heap.size (fun k_ => (P0_ k_ ∨ w.heap.size ≤ k_)) (.slice A0 l0.length c0) l0 from Kd.V_mono hs0 (fun k_ hk => .inl hk))
 have HB := aM (Below.refl w.heap.size w)
 obtain ⟨H, HAP⟩ : (impl_ownSolids.l0 k a1 (([] : List (List (S43)))) l0 (l0.length : Int) 0) = some r ∧ apartB r = true := by
  unfold impl_ownSolids.f at h
  obtain ⟨r_, h1_, h2_⟩ := Option.bind_eq_some_iff.mp h
  by_cases h3_ : apartB r_ = true
  rotate_left
  ·rw [if_neg h3_] at h2_
   cases h2_
  rw [if_pos h3_] at h2_
  obtain rfl := Option.some.inj h2_
  exact ⟨h1_, h3_⟩
 clear h
 obtain ⟨y445, hy445⟩ : ∃ y_ : List (List (S43)), y_ = (([] : List (List (S43)))) := ⟨_, rfl⟩
 replace H : (impl_ownSolids.l0 k a1 y445 l0 (l0.length : Int) 0) = some r := zy H hy445
 have Ny445 := aM hy445
 clear hy445
 have H' := aM H
 clear H
 go_enter Try.func20, Try.ntmps20
 go_wp2_with (first | ((with_reducible refine gate_dst (N := 8) rfl ?_); refine Kd.N_lit (own b_ 43 k43) _ 40 ?hg (N' := 8) ?hd (xs := ([] : List (List (S43)))) (inner := []) (ok := (fun k_ => (P0_ k_ ∨ w.heap.size ≤ k_))) (okp := (fun k_ => (P0_ k_ ∨ w.heap.size ≤ k_))) ?hr ?hp (fun _ hk => hk) ((show ∀ k_, w.heap.size ≤ k_ → (fun k_ => (P0_ k_ ∨ w.heap.size ≤ k_)) k_ from fun k_ hk => (.inr (Nat.le_trans (below_size zb) hk))) _ (Nat.le_refl _)) (Below.refl _ _) (Nat.le_refl _) (by simp) ?_; (case hd => rfl); (case hg => rfl); (case hr => first | (go_simp; done) | (go_simp; rfl)); (case hp => exact (Reps.none _ _)); intro v446 w3 ho4 hb hg_ hnew_; clear hg_ hnew_; (first | rw [← Ny445.out] at ho4 | (simp only [Int.reduceToNat] at ho4; rw [← Ny445.out] at ho4)); have n0_ := aM (Kd.V_elder' (mV_ HO0.out) (by first | exact Kd.N_base ho4 | exact Kd.S_base ho4 | exact Kd.R_base ho4) hb); have n1_ := aM (Kd.N_lower ho4 (below_size zb)); have n2_ := aM (below_step zb hb); clear HO0 HB; have HO0 := n0_; have HO447 := n1_; have HB := n2_; clear n0_ n1_ n2_; clear hb ho4))
 go_loopg [5, 11] k (fun kq v5 v11 w' => ∃ (x5_1 : List (List (S43))) (x11_1 : Int), v11 = .int .i64 x11_1 ∧ Aside0 (impl_ownSolids.l0 kq a1 x5_1 l0 (l0.length : Int) x11_1 = some r) ∧ Aside0 (kq ≤ k) ∧ Aside0 (Kd.N (own b_ 43 k43) 40 w' w.heap.size (fun k_ => (P0_ k_ ∨ w.heap.size ≤ k_)) v5 x5_1) ∧ Aside0 (Kd.V (own b_ 43 k43) 40 w' w.heap.size (fun k_ => (P0_ k_ ∨ w.heap.size ≤ k_) ∧ some k_ ≠ (v5 : Value).ownBlock) (.slice A0 l0.length c0) l0) ∧ Aside0 (Below w.heap.size w w'))
 case atStart => exact ⟨(y445), (0), zr, H', ⟨Nat.le_refl _⟩, ⟨mN_ HO447.out⟩, ⟨mV_ HO0.out⟩, ⟨zb⟩⟩
 case round =>
  clear H'
  try clear c2
  try clear p2
  obtain ⟨x5_1, x11_1, rfl, HA, HK1, HO_5, HO_9, HB⟩ := hrel
  cases gk with
  | zero => exact absurd HA.out (by simp [impl_ownSolids.l0])
  | succ k1 =>
   have H := HA.out
   clear HA
   simp only [impl_ownSolids.l0] at H
   by_cases c5 : x11_1 < (l0.length : Int)
   rotate_left
   ·rw [if_neg c5] at H
    have c5b0 : decide (x11_1 < (l0.length : Int)) = false := decide_eq_false c5
    clear c5
    obtain rfl := Option.some.inj H
    go_wp2
    go_ret
    exact ⟨_, zw, S_of_NB (mN_ HO_5.out) hb_ HAP, zb⟩
   rw [if_pos c5] at H
   have c5b0 : decide (x11_1 < (l0.length : Int)) = true := decide_eq_true c5
   clear c5
   by_cases c6 : 0 ≤ x11_1
   rotate_left
   ·rw [if_neg c6] at H
    exact absurd H (by simp)
   rw [if_pos c6] at H
   have c6b0 : decide (0 ≤ x11_1) = true := decide_eq_true c6
   clear c6
   by_cases c7 : x11_1 < (l0.length : Int)
   rotate_left
   ·rw [if_neg c7] at H
    exact absurd H (by simp)
   rw [if_pos c7] at H
   have c7b0 : decide (x11_1 < (l0.length : Int)) = true := decide_eq_true c7
   clear c7
   replace H := Option.bind_eq_some_iff.mp H
   obtain ⟨t449, A80, H⟩ := H
   replace H : ((impl_Cube_44.f k1 t449 (rd_L2 l0 x11_1)).bind fun t452 => (if t452 = true then (if x5_1.length < 5864062014805 then (impl_ownSolids.l0 k1 a1 (x5_1 ++ [rd_L2 l0 x11_1]) l0 (l0.length : Int) (wrap64 (x11_1 + 1))) else (none)) else (impl_ownSolids.l0 k1 a1 x5_1 l0 (l0.length : Int) (wrap64 (x11_1 + 1))))) = some r := H
   have A8 := aM A80
   clear A80
   replace H := Option.bind_eq_some_iff.mp H
   obtain ⟨t452, A90, H⟩ := H
   replace H : (if t452 = true then (if x5_1.length < 5864062014805 then (impl_ownSolids.l0 k1 a1 (x5_1 ++ [rd_L2 l0 x11_1]) l0 (l0.length : Int) (wrap64 (x11_1 + 1))) else (none)) else (impl_ownSolids.l0 k1 a1 x5_1 l0 (l0.length : Int) (wrap64 (x11_1 + 1)))) = some r := H
   have A9 := aM A90
   clear A90
   by_cases c10 : t452 = true
   rotate_left
   ·replace c10 := Bool.eq_false_iff.mpr c10
    subst c10
    have H1 : (impl_ownSolids.l0 k1 a1 x5_1 l0 (l0.length : Int) (wrap64 (x11_1 + 1))) = some r := by rw [if_neg (show ¬ (false = true) by decide)] at H; exact H
    clear H
    have H := H1
    clear H1
    have H' := aM H
    clear H
    have p448 : 0 ≤ (x11_1 : Int) := of_decide_eq_true za
    have q448 : x11_1 < (l0.length : Int) := of_decide_eq_true za
    obtain ⟨ad448, A448_0, c448_0, e448, hx448_0, hl448_0, hi448_0⟩ := at_L2 (Kd.V_reads' (VO_slice HO_9.out)).2.2 x11_1 p448 q448
    cases e448
    obtain ⟨ce448, hce448, hMe448, hcc448⟩ := Kd.V_get HO_9.out [] x11_1 p448 (by first | exact q448 | exact of_decide_eq_true za | (have e_ := (Kd.V_reads' HO_9.out).1; omega))
    obtain ⟨ua448_0, uc448_0, rfl, ul448_0, ge448_0⟩ := Kd.FK_slice_open (FKO_slice hMe448)
    have hv448_0 := hcc448 0 _ rfl
    rw [Nat.add_zero, show ((own b_ 43 k43)).sz = 1 from rfl, Nat.mul_one] at hv448_0
    replace hv448_0 := Option.some.inj (hv448_0.symm.trans hx448_0)
    injection hv448_0 with hva_ hvn_ hvc_
    rw [hva_] at ge448_0
    rw [hvc_] at ul448_0
    rw [hva_, hvc_] at hMe448
    have HL448_0 := aM (show OV b_ 43 k43 _ _ _ (rd_L2 l0 x11_1) from hMe448)
    clear hva_ hvn_ hvc_ ge448_0 ul448_0
    clear hcc448 hce448
    have HR448_0 := aM hi448_0
    have HC448_0 := aM hl448_0
    clear hi448_0 hl448_0
    replace p448 := eq_true p448
    replace q448 := eq_true q448
    go_wp2_with (first | ((with_reducible refine gate_callee (f := 45) rfl ?_); refine goesL_ (some 17) rfl rfl Try.func45 (by kernel_rfl) rfl #[.slice A448_0 (rd_L2 l0 x11_1).length c448_0, .bool a1] rfl zm ?_; (with_reducible refine (impl_leastSolid.calls k1 _ _ (rd_L2 l0 x11_1) a1 t449 _ ?side1 ?side2 A8.out).mono ?_); (case side1 => repeat (first | exact (mQ_ HR448_0.out) | (with_reducible refine Kd.C_alloc ?_ _) | (with_reducible refine Kd.C_drewN ?_ _) | (with_reducible refine Kd.C_drew ?_))); (case side2 => exact HC448_0.out); rintro e w15 ⟨v450, rfl, ho0, hb⟩; refine ⟨_, rfl, ?_⟩; have n0_ := aM (Kd.N_elder' (mN_ HO_5.out) (Kd.R_base ho0) hb); have n1_ := aM (Kd.V_elder' (mV_ HO_9.out) (Kd.R_base ho0) hb); have n2_ := aM (OV_elder' (by (with_reducible repeat (first | apply OV_alloc | apply OV_drewN | apply OV_drew)); exact HL448_0.out) (Kd.R_base ho0) hb); have n3_ := aM (Kd.R_lower (Kd.R_newM (M := fun k_ => (w.heap.size ≤ k_)) ho0 (below_size zb) (fun k_ h_ => h_)) (below_size zb)); have n4_ := aM (Kd.C_below (mQ_ HR448_0.out) hb); have n5_ := aM (below_step zb hb); clear HO_5 HO_9 HL448_0 HR448_0 HB; have HO_5 := n0_; have HO_9 := n1_; have HL448_0 := n2_; have HO451 := n3_; have HR448_0 := n4_; have HB := n5_; clear n0_ n1_ n2_ n3_ n4_ n5_; (try clear hb); (try clear hb2); (try clear hk); (try clear hi); (try clear ho0); obtain ⟨Ao16, co16, eo16⟩ := Kd.R_slice HO451.out; subst eo16) | ((with_reducible refine gate_callee (f := 44) rfl ?_); refine goesL_ (some 19) rfl rfl Try.func44 (by kernel_rfl) rfl #[.slice Ao16 t449.length co16, .slice A448_0 (rd_L2 l0 x11_1).length c448_0] rfl zm ?_; (with_reducible refine (impl_Cube_44.calls k1 _ _ t449 _ _ (rd_L2 l0 x11_1) false _ ?side1 ?side2 ?side3 ?side4 A9.out).mono ?_); (case side1 => exact zc HO451.out); (case side2 => exact (Kd.R_reads' HO451.out).2.1); (case side3 => repeat (first | exact (mQ_ HR448_0.out) | (with_reducible refine Kd.C_alloc ?_ _) | (with_reducible refine Kd.C_drewN ?_ _) | (with_reducible refine Kd.C_drew ?_))); (case side4 => exact HC448_0.out); rintro e w' ⟨rfl, ⟨nd, rfl⟩⟩; refine ⟨_, rfl, ?_⟩))
    go_roundg k1
    case measure => have := HK1.out; omega
    case rel => exact ⟨(x5_1), (wrap64 (x11_1 + 1)), zr, H', ⟨by have := HK1.out; omega⟩, ⟨zd4 HO_5.out⟩, ⟨zd31 HO_9.out⟩, ⟨zb⟩⟩
   subst c10
   have H1 : (if x5_1.length < 5864062014805 then (impl_ownSolids.l0 k1 a1 (x5_1 ++ [rd_L2 l0 x11_1]) l0 (l0.length : Int) (wrap64 (x11_1 + 1))) else (none)) = some r := by rw [if_pos rfl] at H; exact H
   clear H
   have H := H1
   clear H1
   by_cases c11 : x5_1.length < 5864062014805
   rotate_left
   ·rw [if_neg c11] at H
    exact absurd H (by simp)
   rw [if_pos c11] at H
   have LMc11 := aM c11
   clear c11
   obtain ⟨y453, hy453⟩ : ∃ y_ : List (List (S43)), y_ = (x5_1 ++ [rd_L2 l0 x11_1]) := ⟨_, rfl⟩
   replace H : (impl_ownSolids.l0 k1 a1 y453 l0 (l0.length : Int) (wrap64 (x11_1 + 1))) = some r := zy H hy453
   have Ny453 := aM hy453
   clear hy453
   have H' := aM H
   clear H
   have p448 : 0 ≤ (x11_1 : Int) := of_decide_eq_true za
   have q448 : x11_1 < (l0.length : Int) := of_decide_eq_true za
   obtain ⟨ad448, A448_0, c448_0, e448, hx448_0, hl448_0, hi448_0⟩ := at_L2 (Kd.V_reads' (VO_slice HO_9.out)).2.2 x11_1 p448 q448
   cases e448
   obtain ⟨ce448, hce448, hMe448, hcc448⟩ := Kd.V_get HO_9.out [] x11_1 p448 (by first | exact q448 | exact of_decide_eq_true za | (have e_ := (Kd.V_reads' HO_9.out).1; omega))
   obtain ⟨ua448_0, uc448_0, rfl, ul448_0, ge448_0⟩ := Kd.FK_slice_open (FKO_slice hMe448)
   have hv448_0 := hcc448 0 _ rfl
   rw [Nat.add_zero, show ((own b_ 43 k43)).sz = 1 from rfl, Nat.mul_one] at hv448_0
   replace hv448_0 := Option.some.inj (hv448_0.symm.trans hx448_0)
   injection hv448_0 with hva_ hvn_ hvc_
   rw [hva_] at ge448_0
   rw [hvc_] at ul448_0
   rw [hva_, hvc_] at hMe448
   have HL448_0 := aM (show OV b_ 43 k43 _ _ _ (rd_L2 l0 x11_1) from hMe448)
   clear hva_ hvn_ hvc_ ge448_0 ul448_0
   clear hcc448 hce448
   have HR448_0 := aM hi448_0
   have HC448_0 := aM hl448_0
   clear hi448_0 hl448_0
   replace p448 := eq_true p448
   replace q448 := eq_true q448
   go_wp2_with (first | ((with_reducible refine gate_callee (f := 45) rfl ?_); refine goesL_ (some 17) rfl rfl Try.func45 (by kernel_rfl) rfl #[.slice A448_0 (rd_L2 l0 x11_1).length c448_0, .bool a1] rfl zm ?_; (with_reducible refine (impl_leastSolid.calls k1 _ _ (rd_L2 l0 x11_1) a1 t449 _ ?side1 ?side2 A8.out).mono ?_); (case side1 => repeat (first | exact (mQ_ HR448_0.out) | (with_reducible refine Kd.C_alloc ?_ _) | (with_reducible refine Kd.C_drewN ?_ _) | (with_reducible refine Kd.C_drew ?_))); (case side2 => exact HC448_0.out); rintro e w12 ⟨v450, rfl, ho0, hb⟩; refine ⟨_, rfl, ?_⟩; have n0_ := aM (Kd.N_elder' (mN_ HO_5.out) (Kd.R_base ho0) hb); have n1_ := aM (Kd.V_elder' (mV_ HO_9.out) (Kd.R_base ho0) hb); have n2_ := aM (OV_elder' (by (with_reducible repeat (first | apply OV_alloc | apply OV_drewN | apply OV_drew)); exact HL448_0.out) (Kd.R_base ho0) hb); have n3_ := aM (Kd.R_lower (Kd.R_newM (M := fun k_ => (w.heap.size ≤ k_)) ho0 (below_size zb) (fun k_ h_ => h_)) (below_size zb)); have n4_ := aM (Kd.C_below (mQ_ HR448_0.out) hb); have n5_ := aM (below_step zb hb); clear HO_5 HO_9 HL448_0 HR448_0 HB; have HO_5 := n0_; have HO_9 := n1_; have HL448_0 := n2_; have HO451 := n3_; have HR448_0 := n4_; have HB := n5_; clear n0_ n1_ n2_ n3_ n4_ n5_; (try clear hb); (try clear hb2); (try clear hk); (try clear hi); (try clear ho0); obtain ⟨Ao13, co13, eo13⟩ := Kd.R_slice HO451.out; subst eo13) | ((with_reducible refine gate_callee (f := 44) rfl ?_); refine goesL_ (some 19) rfl rfl Try.func44 (by kernel_rfl) rfl #[.slice Ao13 t449.length co13, .slice A448_0 (rd_L2 l0 x11_1).length c448_0] rfl zm ?_; (with_reducible refine (impl_Cube_44.calls k1 _ _ t449 _ _ (rd_L2 l0 x11_1) true _ ?side1 ?side2 ?side3 ?side4 A9.out).mono ?_); (case side1 => exact zc HO451.out); (case side2 => exact (Kd.R_reads' HO451.out).2.1); (case side3 => repeat (first | exact (mQ_ HR448_0.out) | (with_reducible refine Kd.C_alloc ?_ _) | (with_reducible refine Kd.C_drewN ?_ _) | (with_reducible refine Kd.C_drew ?_))); (case side4 => exact HC448_0.out); rintro e w' ⟨rfl, ⟨nd, rfl⟩⟩; refine ⟨_, rfl, ?_⟩) | ((with_reducible refine gate_builtin (b := .append) (xs := #[.tmp 20, .tmp 22]) rfl ?_); at_builtin; refine Kd.N_append (own b_ 43 k43) (w0 := w) w.heap.size rfl (.tmp 20) (.tmp 22) 28 40 (.slice none 0 0) 24 rfl Try.underlying28 info40 rfl (Nat.lt_succ_self 0) (by omega) u5 x5_1 (rd_L2 l0 x11_1) [.slice A448_0 (rd_L2 l0 x11_1).length c448_0] (fun k_ => (P0_ k_ ∨ w.heap.size ≤ k_) ∧ some k_ ≠ (.slice Ao13 t449.length co13 : Value).ownBlock) (fun k_ => ((fun k_ => (P0_ k_ ∨ w.heap.size ≤ k_) ∧ some k_ ≠ (.slice Ao13 t449.length co13 : Value).ownBlock)) k_ ∧ some k_ ≠ (u5 : Value).ownBlock) rfl rfl ?aP (fun _ hk => hk) ?aF ?aO ?aB ?aS ?aL ?_; (case aP => first | exact OV_mono (OV_drewN HL448_0.out _) (fun k_ hk => ⟨⟨hk.1.1, hk.2⟩, hk.1.2⟩) | exact OV_mono HL448_0.out (fun k_ hk => ⟨⟨hk.1.1, hk.2⟩, hk.1.2⟩) | exact OV_mono (OV_alloc (OV_drewN HL448_0.out _) _) (fun k_ hk => ⟨⟨hk.1.1, hk.2⟩, hk.1.2⟩)); (case aB => exact zb); (case aF => exact (fun k_ hk => ⟨(.inr (Nat.le_trans (below_size zb) hk)), Kd.fresh' (Kd.R_lt (mR_ HO451.out)) k_ hk⟩)); (case aO => exact (mN_ HO_5.out)); (case aS => exact (below_size zb)); (case aL => have := LMc11.out; omega); intro v454 w14 ho hb hg hat; rw [← Ny453.out] at ho; have n0_ := aM (Kd.V_afterv (ok := (fun k_ => (P0_ k_ ∨ w.heap.size ≤ k_) ∧ some k_ ≠ (.slice Ao13 t449.length co13 : Value).ownBlock)) (zd1 HO_9.out) hg hat); have n1_ := aM (OV_after (ok := (fun k_ => (P0_ k_ ∨ w.heap.size ≤ k_) ∧ some k_ ≠ (.slice Ao13 t449.length co13 : Value).ownBlock)) (by (with_reducible repeat (first | apply OV_alloc | apply OV_drewN | apply OV_drew)); exact OV_mono HL448_0.out (fun _ hk => ⟨⟨hk.1.1, hk.2⟩, hk.1.2⟩)) hg hat); have n2_ := aM (Kd.R_over' (mR_ HO451.out) (Kd.N_typed (mN_ HO_5.out)) (by decide) hg); have n3_ := aM (hb); have n4_ := aM (ho); clear HO_9 HL448_0 HO451 HB HO_5; have HO_9 := n0_; have HL448_0 := n1_; have HO451 := n2_; have HB := n3_; have HO455 := n4_; clear n0_ n1_ n2_ n3_ n4_; clear ho hb hg hat))
   go_roundg k1
   case measure => have := HK1.out; omega
   case rel => exact ⟨(y453), (wrap64 (x11_1 + 1)), zr, H', ⟨by have := HK1.out; omega⟩, ⟨zd4 HO455.out⟩, ⟨zd32 HO_9.out⟩, ⟨zb⟩⟩
def spec_CountSolids.f (k : Nat) (a0 : Int) : Option (Int × Int × Int × Int) := (spec_l01In.f a0 1 4).bind fun t328 => (if t328 = true then ((spec_l09All.f k a0).bind fun t329 => ((spec_l09Own.f k t329 false).bind fun t332 => ((spec_l09Own.f k t329 true).bind fun t335 => (some ((t329.length : Int), (t332.length : Int), (t335.length : Int), 0))))) else (some (0, 0, 0, 2)))
theorem spec_CountSolids.calls (k : Nat) (a0 : Int) (r1 : Int) (r2 : Int) (r3 : Int) (r4 : Int) (w : World) (h : spec_CountSolids.f k a0 = some (r1, r2, r3, r4)) :
  Calls Try.prog 6 #[.int .i64 a0] w fun e w' => e = .returned (.tuple #[.int .i64 r1, .int .i64 r2, .int .i64 r3, .int .i64 r4]) ∧ Below w.heap.size w w' := by
 have HB := aM (Below.refl w.heap.size w)
 have H : ((spec_l01In.f a0 1 4).bind fun t328 => (if t328 = true then ((spec_l09All.f k a0).bind fun t329 => ((spec_l09Own.f k t329 false).bind fun t332 => ((spec_l09Own.f k t329 true).bind fun t335 => (some ((t329.length : Int), (t332.length : Int), (t335.length : Int), 0))))) else (some (0, 0, 0, 2)))) = some (r1, r2, r3, r4) := h
 clear h
 replace H := Option.bind_eq_some_iff.mp H
 obtain ⟨t328, A20, H⟩ := H
 replace H : (if t328 = true then ((spec_l09All.f k a0).bind fun t329 => ((spec_l09Own.f k t329 false).bind fun t332 => ((spec_l09Own.f k t329 true).bind fun t335 => (some ((t329.length : Int), (t332.length : Int), (t335.length : Int), 0))))) else (some (0, 0, 0, 2))) = some (r1, r2, r3, r4) := H
 have A2 := aM A20
 clear A20
 by_cases c3 : t328 = true
 rotate_left
 ·replace c3 := Bool.eq_false_iff.mpr c3
  subst c3
  have H1 : (some (0, 0, 0, 2)) = some (r1, r2, r3, r4) := by rw [if_neg (show ¬ (false = true) by decide)] at H; exact H
  clear H
  have H := H1
  clear H1
  simp only [Option.some.injEq, Prod.mk.injEq] at H
  obtain ⟨rfl, rfl, rfl, rfl⟩ := H
  go_enter Try.func6, Try.ntmps6
  go_wp2_with (first | ((with_reducible refine gate_callee (f := 15) rfl ?_); refine goesL_ (some 8) rfl rfl Try.func15 (by kernel_rfl) rfl #[.int .i64 a0, .int .i64 1, .int .i64 4] rfl zm ?_; (with_reducible refine (spec_l01In.calls a0 1 4 false _ A2.out).mono ?_); rintro e w' ⟨rfl, ⟨nd, rfl⟩⟩; refine ⟨_, rfl, ?_⟩))
  refine bodyPost_ret (results_list (rs := [.tmp 2, .tmp 3, .tmp 4, .tmp 5]) rfl (by simp) (.tmp (.tmp (.tmp (.tmp .nil))))) rfl ?_
  exact ⟨zw, zb⟩
 subst c3
 have H1 : ((spec_l09All.f k a0).bind fun t329 => ((spec_l09Own.f k t329 false).bind fun t332 => ((spec_l09Own.f k t329 true).bind fun t335 => (some ((t329.length : Int), (t332.length : Int), (t335.length : Int), 0))))) = some (r1, r2, r3, r4) := by rw [if_pos rfl] at H; exact H
 clear H
 have H := H1
 clear H1
 replace H := Option.bind_eq_some_iff.mp H
 obtain ⟨t329, A40, H⟩ := H
 replace H : ((spec_l09Own.f k t329 false).bind fun t332 => ((spec_l09Own.f k t329 true).bind fun t335 => (some ((t329.length : Int), (t332.length : Int), (t335.length : Int), 0)))) = some (r1, r2, r3, r4) := H
 have A4 := aM A40
 clear A40
 replace H := Option.bind_eq_some_iff.mp H
 obtain ⟨t332, A50, H⟩ := H
 replace H : ((spec_l09Own.f k t329 true).bind fun t335 => (some ((t329.length : Int), (t332.length : Int), (t335.length : Int), 0))) = some (r1, r2, r3, r4) := H
 have A5 := aM A50
 clear A50
 replace H := Option.bind_eq_some_iff.mp H
 obtain ⟨t335, A60, H⟩ := H
 replace H : (some ((t329.length : Int), (t332.length : Int), (t335.length : Int), 0)) = some (r1, r2, r3, r4) := H
 have A6 := aM A60
 clear A60
 simp only [Option.some.injEq, Prod.mk.injEq] at H
 obtain ⟨rfl, rfl, rfl, rfl⟩ := H
 go_enter Try.func6, Try.ntmps6
 go_wp2_with (first | ((with_reducible refine gate_callee (f := 15) rfl ?_); refine goesL_ (some 8) rfl rfl Try.func15 (by kernel_rfl) rfl #[.int .i64 a0, .int .i64 1, .int .i64 4] rfl zm ?_; (with_reducible refine (spec_l01In.calls a0 1 4 true _ A2.out).mono ?_); rintro e w' ⟨rfl, ⟨nd, rfl⟩⟩; refine ⟨_, rfl, ?_⟩) | ((with_reducible refine gate_callee (f := 16) rfl ?_); refine goesL_ (some 11) rfl rfl Try.func16 (by kernel_rfl) rfl #[.int .i64 a0] rfl zm ?_; (with_reducible refine (spec_l09All.calls k a0 t329 _ A4.out).mono ?_); rintro e w7 ⟨v330, rfl, ho0, hb⟩; refine ⟨_, rfl, ?_⟩; have n0_ := aM (Kd.V_lower (Kd.V_mono (ok' := fun k_ => True) ho0 (fun k_ hk_ => trivial)) (below_size zb)); have n1_ := aM (below_step zb hb); clear HB; have HO331 := n0_; have HB := n1_; clear n0_ n1_; (try clear hb); (try clear hb2); (try clear hk); (try clear hi); (try clear ho0); obtain ⟨Ao8, co8, eo8⟩ := Kd.V_slice HO331.out; subst eo8) | ((with_reducible refine gate_callee (f := 17) rfl ?_); refine goesL_ (some 15) rfl rfl Try.func17 (by kernel_rfl) rfl #[.slice Ao8 t329.length co8, .bool false] rfl zm ?_; (with_reducible refine (spec_l09Own.calls k (fun k_ => True) _ _ t329 false t332 _ ?side1 A5.out).mono ?_); (case side1 => exact HO331.out); rintro e w9 ⟨v333, rfl, ho0, hb⟩; refine ⟨_, rfl, ?_⟩; have n0_ := aM (Kd.V_elder' (mV_ HO331.out) (by first | exact Kd.N_base ho0 | exact Kd.S_base ho0 | exact Kd.R_base ho0) hb); have n1_ := aM (Kd.N_lower (Kd.N_mono (ok' := fun k_ => True) ho0 (fun k_ hk_ => trivial)) (below_size zb)); have n2_ := aM (below_step zb hb); clear HO331 HB; have HO331 := n0_; have HO334 := n1_; have HB := n2_; clear n0_ n1_ n2_; (try clear hb); (try clear hb2); (try clear hk); (try clear hi); (try clear ho0); obtain ⟨Ao10, co10, eo10⟩ := Kd.N_slice HO334.out; subst eo10) | ((with_reducible refine gate_callee (f := 17) rfl ?_); refine goesL_ (some 18) rfl rfl Try.func17 (by kernel_rfl) rfl #[.slice Ao8 t329.length co8, .bool true] rfl zm ?_; (with_reducible refine (spec_l09Own.calls k (fun k_ => (True ∧ some k_ ≠ (.slice Ao10 t332.length co10 : Value).ownBlock)) _ _ t329 true t335 _ ?side1 A6.out).mono ?_); (case side1 => exact HO331.out); rintro e w11 ⟨v336, rfl, ho0, hb⟩; refine ⟨_, rfl, ?_⟩; have n0_ := aM (Kd.V_elder' (mV_ HO331.out) (by first | exact Kd.N_base ho0 | exact Kd.S_base ho0 | exact Kd.R_base ho0) hb); have n1_ := aM (Kd.N_elder' (mN_ HO334.out) (by first | exact Kd.N_base ho0 | exact Kd.S_base ho0 | exact Kd.R_base ho0) hb); have n2_ := aM (Kd.N_lower (Kd.N_mono (ok' := fun k_ => some k_ ≠ (.slice Ao10 t332.length co10 : Value).ownBlock) ho0 (fun k_ hk_ => Or.elim hk_ (fun hs_ => hs_.2) (fun hn_ => (Kd.fresh' (Kd.N_lt (mN_ HO334.out)) k_ hn_)))) (below_size zb)); have n3_ := aM (below_step zb hb); clear HO331 HO334 HB; have HO331 := n0_; have HO334 := n1_; have HO337 := n2_; have HB := n3_; clear n0_ n1_ n2_ n3_; (try clear hb); (try clear hb2); (try clear hk); (try clear hi); (try clear ho0); obtain ⟨Ao12, co12, eo12⟩ := Kd.N_slice HO337.out; subst eo12))
 refine bodyPost_ret (results_list (rs := [.tmp 2, .tmp 3, .tmp 4, .tmp 5]) rfl (by simp) (.tmp (.tmp (.tmp (.tmp .nil))))) rfl ?_
 exact ⟨zw, zb⟩
def impl_CountSolids.f (k : Nat) (a0 : Int) : Option (Int × Int × Int × Int) := (impl_within.f a0 1 4).bind fun t456 => (if t456 = true then ((impl_allSolids.f k a0).bind fun t457 => ((impl_ownSolids.f k t457 false).bind fun t460 => ((impl_ownSolids.f k t457 true).bind fun t463 => (some ((t457.length : Int), (t460.length : Int), (t463.length : Int), 0))))) else (some (0, 0, 0, 2)))
theorem impl_CountSolids.calls (k : Nat) (a0 : Int) (r1 : Int) (r2 : Int) (r3 : Int) (r4 : Int) (w : World) (h : impl_CountSolids.f k a0 = some (r1, r2, r3, r4)) :
  Calls Try.prog 7 #[.int .i64 a0] w fun e w' => e = .returned (.tuple #[.int .i64 r1, .int .i64 r2, .int .i64 r3, .int .i64 r4]) ∧ Below w.heap.size w w' := by
 have HB := aM (Below.refl w.heap.size w)
 have H : ((impl_within.f a0 1 4).bind fun t456 => (if t456 = true then ((impl_allSolids.f k a0).bind fun t457 => ((impl_ownSolids.f k t457 false).bind fun t460 => ((impl_ownSolids.f k t457 true).bind fun t463 => (some ((t457.length : Int), (t460.length : Int), (t463.length : Int), 0))))) else (some (0, 0, 0, 2)))) = some (r1, r2, r3, r4) := h
 clear h
 replace H := Option.bind_eq_some_iff.mp H
 obtain ⟨t456, A20, H⟩ := H
 replace H : (if t456 = true then ((impl_allSolids.f k a0).bind fun t457 => ((impl_ownSolids.f k t457 false).bind fun t460 => ((impl_ownSolids.f k t457 true).bind fun t463 => (some ((t457.length : Int), (t460.length : Int), (t463.length : Int), 0))))) else (some (0, 0, 0, 2))) = some (r1, r2, r3, r4) := H
 have A2 := aM A20
 clear A20
 by_cases c3 : t456 = true
 rotate_left
 ·replace c3 := Bool.eq_false_iff.mpr c3
  subst c3
  have H1 : (some (0, 0, 0, 2)) = some (r1, r2, r3, r4) := by rw [if_neg (show ¬ (false = true) by decide)] at H; exact H
  clear H
  have H := H1
  clear H1
  simp only [Option.some.injEq, Prod.mk.injEq] at H
  obtain ⟨rfl, rfl, rfl, rfl⟩ := H
  go_enter Try.func7, Try.ntmps7
  go_wp2_with (first | ((with_reducible refine gate_callee (f := 18) rfl ?_); refine goesL_ (some 8) rfl rfl Try.func18 (by kernel_rfl) rfl #[.int .i64 a0, .int .i64 1, .int .i64 4] rfl zm ?_; (with_reducible refine (impl_within.calls a0 1 4 false _ A2.out).mono ?_); rintro e w' ⟨rfl, ⟨nd, rfl⟩⟩; refine ⟨_, rfl, ?_⟩))
  refine bodyPost_ret (results_list (rs := [.tmp 2, .tmp 3, .tmp 4, .tmp 5]) rfl (by simp) (.tmp (.tmp (.tmp (.tmp .nil))))) rfl ?_
  exact ⟨zw, zb⟩
 subst c3
 have H1 : ((impl_allSolids.f k a0).bind fun t457 => ((impl_ownSolids.f k t457 false).bind fun t460 => ((impl_ownSolids.f k t457 true).bind fun t463 => (some ((t457.length : Int), (t460.length : Int), (t463.length : Int), 0))))) = some (r1, r2, r3, r4) := by rw [if_pos rfl] at H; exact H
 clear H
 have H := H1
 clear H1
 replace H := Option.bind_eq_some_iff.mp H
 obtain ⟨t457, A40, H⟩ := H
 replace H : ((impl_ownSolids.f k t457 false).bind fun t460 => ((impl_ownSolids.f k t457 true).bind fun t463 => (some ((t457.length : Int), (t460.length : Int), (t463.length : Int), 0)))) = some (r1, r2, r3, r4) := H
 have A4 := aM A40
 clear A40
 replace H := Option.bind_eq_some_iff.mp H
 obtain ⟨t460, A50, H⟩ := H
 replace H : ((impl_ownSolids.f k t457 true).bind fun t463 => (some ((t457.length : Int), (t460.length : Int), (t463.length : Int), 0))) = some (r1, r2, r3, r4) := H
 have A5 := aM A50
 clear A50
 replace H := Option.bind_eq_some_iff.mp H
 obtain ⟨t463, A60, H⟩ := H
 replace H : (some ((t457.length : Int), (t460.length : Int), (t463.length : Int), 0)) = some (r1, r2, r3, r4) := H
 have A6 := aM A60
 clear A60
 simp only [Option.some.injEq, Prod.mk.injEq] at H
 obtain ⟨rfl, rfl, rfl, rfl⟩ := H
 go_enter Try.func7, Try.ntmps7
 go_wp2_with (first | ((with_reducible refine gate_callee (f := 18) rfl ?_); refine goesL_ (some 8) rfl rfl Try.func18 (by kernel_rfl) rfl #[.int .i64 a0, .int .i64 1, .int .i64 4] rfl zm ?_; (with_reducible refine (impl_within.calls a0 1 4 true _ A2.out).mono ?_); rintro e w' ⟨rfl, ⟨nd, rfl⟩⟩; refine ⟨_, rfl, ?_⟩) | ((with_reducible refine gate_callee (f := 19) rfl ?_); refine goesL_ (some 11) rfl rfl Try.func19 (by kernel_rfl) rfl #[.int .i64 a0] rfl zm ?_; (with_reducible refine (impl_allSolids.calls k a0 t457 _ A4.out).mono ?_); rintro e w7 ⟨v458, rfl, ho0, hb⟩; refine ⟨_, rfl, ?_⟩; have n0_ := aM (VO_low (Kd.V_mono (ok' := fun k_ => True) ho0 (fun k_ hk_ => trivial)) (below_size zb)); have n1_ := aM (below_step zb hb); clear HB; have HO459 := n0_; have HB := n1_; clear n0_ n1_; (try clear hb); (try clear hb2); (try clear hk); (try clear hi); (try clear ho0); obtain ⟨Ao8, co8, eo8⟩ := Kd.V_slice HO459.out; subst eo8) | ((with_reducible refine gate_callee (f := 20) rfl ?_); refine goesL_ (some 15) rfl rfl Try.func20 (by kernel_rfl) rfl #[.slice Ao8 t457.length co8, .bool false] rfl zm ?_; (with_reducible refine (impl_ownSolids.calls k (fun k_ => True) _ _ t457 false t460 _ (b_ := w.heap.size) (below_size zb) ?side1 A5.out).mono ?_); (case side1 => exact HO459.out); rintro e w9 ⟨v461, rfl, ho0, hb⟩; refine ⟨_, rfl, ?_⟩; have n0_ := aM (Kd.V_below (mV_ HO459.out) hb); have n1_ := aM (Kd.S_mono (ok' := fun k_ => True) ho0 (fun _ hk_ => trivial)); have n2_ := aM (below_step zb hb); clear HO459 HB; have HO459 := n0_; have HO462 := n1_; have HB := n2_; clear n0_ n1_ n2_; (try clear hb); (try clear hb2); (try clear hk); (try clear hi); (try clear ho0); obtain ⟨Ao10, co10, eo10⟩ := Kd.S_slice HO462.out; subst eo10) | ((with_reducible refine gate_callee (f := 20) rfl ?_); refine goesL_ (some 18) rfl rfl Try.func20 (by kernel_rfl) rfl #[.slice Ao8 t457.length co8, .bool true] rfl zm ?_; (with_reducible refine (impl_ownSolids.calls k (fun k_ => True) _ _ t457 true t463 _ (b_ := w.heap.size) (below_size zb) ?side1 A6.out).mono ?_); (case side1 => exact HO459.out); rintro e w11 ⟨v464, rfl, ho0, hb⟩; refine ⟨_, rfl, ?_⟩; have n0_ := aM (Kd.V_below (mV_ HO459.out) hb); have n1_ := aM (Kd.S_below (mS_ HO462.out) hb); have n2_ := aM (Kd.S_mono (ok' := fun k_ => True) ho0 (fun _ hk_ => trivial)); have n3_ := aM (below_step zb hb); clear HO459 HO462 HB; have HO459 := n0_; have HO462 := n1_; have HO465 := n2_; have HB := n3_; clear n0_ n1_ n2_ n3_; (try clear hb); (try clear hb2); (try clear hk); (try clear hi); (try clear ho0); obtain ⟨Ao12, co12, eo12⟩ := Kd.S_slice HO465.out; subst eo12))
 refine bodyPost_ret (results_list (rs := [.tmp 2, .tmp 3, .tmp 4, .tmp 5]) rfl (by simp) (.tmp (.tmp (.tmp (.tmp .nil))))) rfl ?_
 exact ⟨zw, zb⟩
def laws_FnExactCountSolids.f (k : Nat) (a0 : Int) : Option (Bool) := (spec_CountSolids.f k a0).bind fun bt466 => ((impl_CountSolids.f k a0).bind fun bt470 => (if bt470.1 = bt466.1 then (if bt470.2.1 = bt466.2.1 then (if bt470.2.2.1 = bt466.2.2.1 then (if bt470.2.2.2 = bt466.2.2.2 then (some true) else (some false)) else (some false)) else (some false)) else (some false)))
theorem laws_FnExactCountSolids.calls (k : Nat) (a0 : Int) (r : Bool) (w : World) (h : laws_FnExactCountSolids.f k a0 = some r) :
  Calls Try.prog 3 #[.int .i64 a0] w fun e w' => e = .returned (.bool r) ∧ Below w.heap.size w w' := by
 have HB := aM (Below.refl w.heap.size w)
 have H : ((spec_CountSolids.f k a0).bind fun bt466 => ((impl_CountSolids.f k a0).bind fun bt470 => (if bt470.1 = bt466.1 then (if bt470.2.1 = bt466.2.1 then (if bt470.2.2.1 = bt466.2.2.1 then (if bt470.2.2.2 = bt466.2.2.2 then (some true) else (some false)) else (some false)) else (some false)) else (some false)))) = some r := h
 clear h
 replace H := Option.bind_eq_some_iff.mp H
 obtain ⟨⟨t466, t467, t468, t469⟩, A20, H⟩ := H
 replace H : ((impl_CountSolids.f k a0).bind fun bt470 => (if bt470.1 = t466 then (if bt470.2.1 = t467 then (if bt470.2.2.1 = t468 then (if bt470.2.2.2 = t469 then (some true) else (some false)) else (some false)) else (some false)) else (some false))) = some r := H
 have A2 := aM A20
 clear A20
 replace H := Option.bind_eq_some_iff.mp H
 obtain ⟨⟨t470, t471, t472, t473⟩, A30, H⟩ := H
 replace H : (if t470 = t466 then (if t471 = t467 then (if t472 = t468 then (if t473 = t469 then (some true) else (some false)) else (some false)) else (some false)) else (some false)) = some r := H
 have A3 := aM A30
 clear A30
 by_cases c4 : t470 = t466
 rotate_left
 ·rw [if_neg c4] at H
  have c4b0 : (t470 == t466) = false := beq_eq_false_iff_ne.mpr c4
  have c4b1 : (t470 != t466) = true := bne_iff_ne.mpr c4
  obtain rfl := Option.some.inj H
  go_enter Try.func3, Try.ntmps3
  go_wp2_with (first | ((with_reducible refine gate_callee (f := 6) rfl ?_); refine goesL_ (some 13) rfl rfl Try.func6 (by kernel_rfl) rfl #[.int .i64 a0] rfl zm ?_; (with_reducible refine (spec_CountSolids.calls k a0 t466 t467 t468 t469 _ A2.out).mono ?_); rintro e w16 ⟨rfl, hb⟩; refine ⟨_, rfl, ?_⟩; have n0_ := aM (below_step zb hb); clear HB; have HB := n0_; clear n0_; (try clear hb); (try clear hb2); (try clear hk); (try clear hi)) | ((with_reducible refine gate_callee (f := 7) rfl ?_); refine goesL_ (some 20) rfl rfl Try.func7 (by kernel_rfl) rfl #[.int .i64 a0] rfl zm ?_; (with_reducible refine (impl_CountSolids.calls k a0 t470 t471 t472 t473 _ A3.out).mono ?_); rintro e w17 ⟨rfl, hb⟩; refine ⟨_, rfl, ?_⟩; have n0_ := aM (below_step zb hb); clear HB; have HB := n0_; clear n0_; (try clear hb); (try clear hb2); (try clear hk); (try clear hi)))
  go_ret
  exact ⟨zw, zb⟩
 rw [if_pos c4] at H
 have c4b0 : (t470 == t466) = true := beq_iff_eq.mpr c4
 have c4b1 : (t470 != t466) = false := bne_eq_false_iff_eq.mpr c4
 clear c4
 by_cases c5 : t471 = t467
 rotate_left
 ·rw [if_neg c5] at H
  have c5b0 : (t471 == t467) = false := beq_eq_false_iff_ne.mpr c5
  have c5b1 : (t471 != t467) = true := bne_iff_ne.mpr c5
  obtain rfl := Option.some.inj H
  go_enter Try.func3, Try.ntmps3
  go_wp2_with (first | ((with_reducible refine gate_callee (f := 6) rfl ?_); refine goesL_ (some 13) rfl rfl Try.func6 (by kernel_rfl) rfl #[.int .i64 a0] rfl zm ?_; (with_reducible refine (spec_CountSolids.calls k a0 t466 t467 t468 t469 _ A2.out).mono ?_); rintro e w14 ⟨rfl, hb⟩; refine ⟨_, rfl, ?_⟩; have n0_ := aM (below_step zb hb); clear HB; have HB := n0_; clear n0_; (try clear hb); (try clear hb2); (try clear hk); (try clear hi)) | ((with_reducible refine gate_callee (f := 7) rfl ?_); refine goesL_ (some 20) rfl rfl Try.func7 (by kernel_rfl) rfl #[.int .i64 a0] rfl zm ?_; (with_reducible refine (impl_CountSolids.calls k a0 t470 t471 t472 t473 _ A3.out).mono ?_); rintro e w15 ⟨rfl, hb⟩; refine ⟨_, rfl, ?_⟩; have n0_ := aM (below_step zb hb); clear HB; have HB := n0_; clear n0_; (try clear hb); (try clear hb2); (try clear hk); (try clear hi)))
  go_ret
  exact ⟨zw, zb⟩
 rw [if_pos c5] at H
 have c5b0 : (t471 == t467) = true := beq_iff_eq.mpr c5
 have c5b1 : (t471 != t467) = false := bne_eq_false_iff_eq.mpr c5
 clear c5
 by_cases c6 : t472 = t468
 rotate_left
 ·rw [if_neg c6] at H
  have c6b0 : (t472 == t468) = false := beq_eq_false_iff_ne.mpr c6
  have c6b1 : (t472 != t468) = true := bne_iff_ne.mpr c6
  obtain rfl := Option.some.inj H
  go_enter Try.func3, Try.ntmps3
  go_wp2_with (first | ((with_reducible refine gate_callee (f := 6) rfl ?_); refine goesL_ (some 13) rfl rfl Try.func6 (by kernel_rfl) rfl #[.int .i64 a0] rfl zm ?_; (with_reducible refine (spec_CountSolids.calls k a0 t466 t467 t468 t469 _ A2.out).mono ?_); rintro e w12 ⟨rfl, hb⟩; refine ⟨_, rfl, ?_⟩; have n0_ := aM (below_step zb hb); clear HB; have HB := n0_; clear n0_; (try clear hb); (try clear hb2); (try clear hk); (try clear hi)) | ((with_reducible refine gate_callee (f := 7) rfl ?_); refine goesL_ (some 20) rfl rfl Try.func7 (by kernel_rfl) rfl #[.int .i64 a0] rfl zm ?_; (with_reducible refine (impl_CountSolids.calls k a0 t470 t471 t472 t473 _ A3.out).mono ?_); rintro e w13 ⟨rfl, hb⟩; refine ⟨_, rfl, ?_⟩; have n0_ := aM (below_step zb hb); clear HB; have HB := n0_; clear n0_; (try clear hb); (try clear hb2); (try clear hk); (try clear hi)))
  go_ret
  exact ⟨zw, zb⟩
 rw [if_pos c6] at H
 have c6b0 : (t472 == t468) = true := beq_iff_eq.mpr c6
 have c6b1 : (t472 != t468) = false := bne_eq_false_iff_eq.mpr c6
 clear c6
 by_cases c7 : t473 = t469
 rotate_left
 ·rw [if_neg c7] at H
  have c7b0 : (t473 == t469) = false := beq_eq_false_iff_ne.mpr c7
  have c7b1 : (t473 != t469) = true := bne_iff_ne.mpr c7
  obtain rfl := Option.some.inj H
  go_enter Try.func3, Try.ntmps3
  go_wp2_with (first | ((with_reducible refine gate_callee (f := 6) rfl ?_); refine goesL_ (some 13) rfl rfl Try.func6 (by kernel_rfl) rfl #[.int .i64 a0] rfl zm ?_; (with_reducible refine (spec_CountSolids.calls k a0 t466 t467 t468 t469 _ A2.out).mono ?_); rintro e w10 ⟨rfl, hb⟩; refine ⟨_, rfl, ?_⟩; have n0_ := aM (below_step zb hb); clear HB; have HB := n0_; clear n0_; (try clear hb); (try clear hb2); (try clear hk); (try clear hi)) | ((with_reducible refine gate_callee (f := 7) rfl ?_); refine goesL_ (some 20) rfl rfl Try.func7 (by kernel_rfl) rfl #[.int .i64 a0] rfl zm ?_; (with_reducible refine (impl_CountSolids.calls k a0 t470 t471 t472 t473 _ A3.out).mono ?_); rintro e w11 ⟨rfl, hb⟩; refine ⟨_, rfl, ?_⟩; have n0_ := aM (below_step zb hb); clear HB; have HB := n0_; clear n0_; (try clear hb); (try clear hb2); (try clear hk); (try clear hi)))
  go_ret
  exact ⟨zw, zb⟩
 rw [if_pos c7] at H
 have c7b0 : (t473 == t469) = true := beq_iff_eq.mpr c7
 have c7b1 : (t473 != t469) = false := bne_eq_false_iff_eq.mpr c7
 clear c7
 obtain rfl := Option.some.inj H
 go_enter Try.func3, Try.ntmps3
 go_wp2_with (first | ((with_reducible refine gate_callee (f := 6) rfl ?_); refine goesL_ (some 13) rfl rfl Try.func6 (by kernel_rfl) rfl #[.int .i64 a0] rfl zm ?_; (with_reducible refine (spec_CountSolids.calls k a0 t466 t467 t468 t469 _ A2.out).mono ?_); rintro e w8 ⟨rfl, hb⟩; refine ⟨_, rfl, ?_⟩; have n0_ := aM (below_step zb hb); clear HB; have HB := n0_; clear n0_; (try clear hb); (try clear hb2); (try clear hk); (try clear hi)) | ((with_reducible refine gate_callee (f := 7) rfl ?_); refine goesL_ (some 20) rfl rfl Try.func7 (by kernel_rfl) rfl #[.int .i64 a0] rfl zm ?_; (with_reducible refine (impl_CountSolids.calls k a0 t470 t471 t472 t473 _ A3.out).mono ?_); rintro e w9 ⟨rfl, hb⟩; refine ⟨_, rfl, ?_⟩; have n0_ := aM (below_step zb hb); clear HB; have HB := n0_; clear n0_; (try clear hb); (try clear hb2); (try clear hk); (try clear hi)))
 go_ret
 exact ⟨zw, zb⟩
end Go.Proofs.Ytlompfboheiliaa.F
end
section
namespace Go.Proofs.Ytlompfboheiliaa.L
open Go.RowKit Go.Proofs.YtlompfboheiliaaW.PrintWords
theorem Ev.pos {α : Type} {c : Prop} [Decidable c] {f g : Nat → Option α} {r : α} (h : c) (e : Ev f r) : Ev (fun k => if c then f k else g k) r := by
  obtain ⟨K, e⟩ := e
  exact ⟨K, fun k hk => (if_pos h).trans (e k hk)⟩
theorem Ev.neg {α : Type} {c : Prop} [Decidable c] {f g : Nat → Option α} {r : α} (h : ¬ c) (e : Ev g r) : Ev (fun k => if c then f k else g k) r := by
  obtain ⟨K, e⟩ := e
  exact ⟨K, fun k hk => (if_neg h).trans (e k hk)⟩
theorem Ev.if_ {α : Type} {c : Prop} [Decidable c] {f g : Nat → Option α} {r s : α} (h : c → Ev f r) (h' : ¬ c → Ev g s) : Ev (fun k => if c then f k else g k) (if c then r else s) := by
  by_cases hc : c
  · rw [if_pos hc]; exact Ev.pos hc (h hc)
  · rw [if_neg hc]; exact Ev.neg hc (h' hc)
theorem Ev.of_eq {α : Type} {g : Nat → Option α} {r s : α} (h : Ev g r) (e : r = s) : Ev g s := e ▸ h
theorem Ev.bind0 {α β : Type} {o : Option α} {f : Nat → α → Option β} {a : α} {r : β} (h : o = some a) (k : Ev (fun n => f n a) r) : Ev (fun n => o.bind (f n)) r := by
  subst h
  exact k
theorem Ev.succ {α : Type} {g : Nat → Option α} {r : α} (h : Ev (fun k => g (k + 1)) r) : Ev g r := by
  obtain ⟨K, h⟩ := h
  refine ⟨K + 1, fun n hn => ?_⟩
  obtain ⟨m, rfl⟩ : ∃ m, n = m + 1 := ⟨n - 1, by omega⟩
  exact h m (by omega)
theorem w64 {n : Int} (h : -9223372036854775808 ≤ n) (h' : n ≤ 9223372036854775807) : wrap64 n = n := by
  unfold wrap64
  omega
theorem getD_at {α : Type} (pre suf : List α) (c d : α) : (pre ++ c :: suf).getD (pre.length : Int).toNat d = c := by
  simp [List.getD]
end Go.Proofs.Ytlompfboheiliaa.L
namespace Go.Proofs.Ytlompfboheiliaa.L
open Go.RowKit Go.Proofs.YtlompfboheiliaaW.PrintWords
theorem loop_list {α σ ρ : Type} (xs : List α) (l : Nat → Int → σ → Option ρ) (g : List α → List α → σ → ρ) (Inv : List α → σ → Prop)
    (hn : ∀ s, Inv xs s → Ev (fun k => l (k + 1) (xs.length : Int) s) (g xs [] s))
    (hs : ∀ (pre : List α) (c : α) (suf : List α) (s : σ), xs = pre ++ c :: suf → Inv pre s → (∀ s', Inv (pre ++ [c]) s' → Ev (fun k => l k ((pre.length : Int) + 1) s') (g (pre ++ [c]) suf s')) → Ev (fun k => l (k + 1) (pre.length : Int) s) (g pre (c :: suf) s)) :
    ∀ s, Inv [] s → Ev (fun k => l k 0 s) (g [] xs s) := by
  have key : ∀ (suf pre : List α), xs = pre ++ suf → ∀ s, Inv pre s → Ev (fun k => l k (pre.length : Int) s) (g pre suf s) := by
    intro suf
    induction suf with
    | nil =>
      intro pre hx s hi
      rw [List.append_nil] at hx
      subst hx
      exact Ev.succ (hn s hi)
    | cons c suf ih =>
      intro pre hx s hi
      refine Ev.succ (hs pre c suf s hx hi fun s' hi' => ?_)
      have := ih (pre ++ [c]) (by rw [hx]; simp) s' hi'
      rw [List.length_append] at this
      exact this
  intro s hi
  exact key xs [] rfl s hi
end Go.Proofs.Ytlompfboheiliaa.L
end
section
namespace Go.Proofs.Ytlompfboheiliaa.L
open Go.RowKit Go.Proofs.YtlompfboheiliaaW.PrintWords Go.Proofs.YtlompfboheiliaaW.PrintLast Go.Proofs.YtlompfboheiliaaW.PrintMore Go.Proofs.Ytlompfboheiliaa.F
set_option linter.unusedVariables false
set_option linter.unusedSimpArgs false
def ok1 (n : Int) : Prop := -100 ≤ n ∧ n ≤ 100
instance (n : Int) : Decidable (ok1 n) := by unfold ok1; infer_instance
def small {α : Type} (l : List α) : Prop := l.length ≤ 4611686018427387904
theorem pre_lt {α : Type} {xs pre suf : List α} {c : α} (h : xs = pre ++ c :: suf) : ((pre.length : Int) < (xs.length : Int)) = True := by
  subst h; simp; omega
theorem pre_w {α : Type} {xs pre suf : List α} {c : α} (h : xs = pre ++ c :: suf) (hs : small xs) : wrap64 ((pre.length : Int) + 1) = (pre.length : Int) + 1 := by
  subst h
  unfold small at hs
  rw [List.length_append, List.length_cons] at hs
  exact w64 (by omega) (by omega)
theorem pre_0 {α : Type} (pre : List α) : (0 ≤ (pre.length : Int)) = True := by simp
theorem len_lt {α : Type} (xs : List α) : ((xs.length : Int) < (xs.length : Int)) = False := by simp
theorem pre_len {α : Type} {xs pre suf : List α} {c : α} (h : xs = pre ++ c :: suf) : pre.length < xs.length := by
  subst h; simp
abbrev Cube := S43
def okQ (c : Cube) : Prop := ok1 c.f0 ∧ ok1 c.f1 ∧ ok1 c.f2
instance (c : Cube) : Decidable (okQ c) := by unfold okQ; infer_instance
def ltQ (a b : Cube) : Prop := a.f2 < b.f2 ∨ a.f2 = b.f2 ∧ (a.f1 < b.f1 ∨ a.f1 = b.f1 ∧ a.f0 < b.f0)
instance (a b : Cube) : Decidable (ltQ a b) := by unfold ltQ; infer_instance
theorem ltQ_irrefl (a : Cube) : ¬ ltQ a a := by unfold ltQ; omega
theorem ltQ_total {a b : Cube} (h : ¬ ltQ a b) (h' : ¬ ltQ b a) : a = b := by
  obtain ⟨a0, a1, a2⟩ := a
  obtain ⟨b0, b1, b2⟩ := b
  unfold ltQ at h h'
  simp only at h h'
  simp only [S43.mk.injEq]
  omega
theorem at_preQ {xs pre suf : List Cube} {c : Cube} (h : xs = pre ++ c :: suf) : rd_T43 xs (pre.length : Int) = c := by
  subst h; exact getD_at pre suf c _
theorem less9_eq (a b : Cube) : spec_l09Less.f a.f0 a.f1 a.f2 b.f0 b.f1 b.f2 = some (decide (ltQ a b)) := by
  unfold spec_l09Less.f ltQ
  by_cases h2 : a.f2 < b.f2
  · simp [h2]
  · by_cases e2 : a.f2 = b.f2
    · by_cases h1 : a.f1 < b.f1
      · simp [e2, h1]
      · by_cases e1 : a.f1 = b.f1
        · simp [e2, e1]
        · simp [e2, h1, e1]
    · simp [h2, e2]
theorem cmpV_lt (a b : Cube) : cmpV a b < 0 ↔ ltQ a b := by
  have h := ltV a b
  unfold Go.Proofs.ltOf at h
  have h2 : (cmpV a b < 0) = (a.f2 < b.f2 ∨ a.f2 = b.f2 ∧ (a.f1 < b.f1 ∨ a.f1 = b.f1 ∧ a.f0 < b.f0)) := by
    have := congrArg (· = true) h
    simpa using this
  rw [h2]
  rfl
theorem cmpV_val (a b : Cube) : cmpV a b = if ltQ a b then -1 else if ltQ b a then 1 else 0 := by
  unfold cmpV cI ltQ
  repeat' split
  all_goals omega
def insQ (c : Cube) : List Cube → List Cube
  | [] => [c]
  | a :: r => if ltQ a c then a :: insQ c r else c :: a :: r
theorem insQ_perm (c : Cube) : ∀ l : List Cube, (insQ c l).Perm (c :: l)
  | [] => List.Perm.refl _
  | a :: r => by
    unfold insQ
    split
    · exact ((insQ_perm c r).cons a).trans (List.Perm.swap c a r)
    · exact List.Perm.refl _
theorem specIns_l (l : List Cube) (i : Int) (c : Cube) (hi0 : 0 ≤ i) (hi1 : i < (l.length : Int)) (hc : rd_T43 l i = c) {r : List Cube} (xs : List Cube) (hl : xs.length ≤ 1048576) : ∀ (suf pre : List Cube), xs = pre ++ suf →
    Ev (fun k => spec_l09Sort.l0 k l (pre ++ insQ c suf) (wrap64 (i + 1))) r → Ev (fun k => spec_l09Sort.l1 k l xs i (pre.length : Int)) r := by
  have hs : small xs := by unfold small; omega
  have done : ∀ (suf pre : List Cube), xs = pre ++ suf → Ev (fun k => spec_l09Sort.l0 k l (pre ++ c :: suf) (wrap64 (i + 1))) r →
      Ev (fun k => if (pre.length : Int) ≤ (xs.length : Int) then (if ([] : List Cube).length + (xs.take ((pre.length : Int)).toNat).length < 5864062014805 then (if (([] : List Cube) ++ xs.take ((pre.length : Int)).toNat).length + ([(⟨(rd_T43 l i).f0, (rd_T43 l i).f1, (rd_T43 l i).f2⟩ : S43)] : List Cube).length < 5864062014805 then (if ((([] : List Cube) ++ xs.take ((pre.length : Int)).toNat) ++ ([(⟨(rd_T43 l i).f0, (rd_T43 l i).f1, (rd_T43 l i).f2⟩ : S43)] : List Cube)).length + (xs.drop ((pre.length : Int)).toNat).length < 5864062014805 then spec_l09Sort.l0 k l ((([] : List Cube) ++ xs.take ((pre.length : Int)).toNat) ++ ([(⟨(rd_T43 l i).f0, (rd_T43 l i).f1, (rd_T43 l i).f2⟩ : S43)] : List Cube) ++ xs.drop ((pre.length : Int)).toNat) (wrap64 (i + 1)) else none) else none) else none) else none) r := by
    intro suf pre hx h
    have e1 : xs.take pre.length = pre := by rw [hx]; simp
    have e2 : xs.drop pre.length = suf := by rw [hx]; simp
    have hn : xs.length = pre.length + suf.length := by rw [hx]; simp
    rw [hc]
    simp only [Int.toNat_natCast, e1, e2, List.nil_append, List.append_assoc, List.singleton_append, List.length_append, List.length_nil, List.length_singleton]
    exact Ev.pos (by omega) (Ev.pos (by omega) (Ev.pos (by omega) (Ev.pos (by omega) h)))
  intro suf
  induction suf with
  | nil =>
    intro pre hx h
    have hd := done [] pre hx h
    refine Ev.succ ?_
    simp only [spec_l09Sort.l1, Option.bind_some]
    have hlt : ¬ ((pre.length : Int) < (xs.length : Int)) := by rw [hx]; simp
    have h1 : pre.length ≤ xs.length := by rw [hx]; simp
    refine Ev.neg hlt (Ev.pos (by omega) ?_)
    have hi0' : (0 ≤ i) = True := eq_true hi0
    have hi1' : (i < (l.length : Int)) = True := eq_true hi1
    simp only [hi0', hi1', if_true]
    exact hd
  | cons a suf ih =>
    intro pre hx h
    refine Ev.succ ?_
    have hi0' : (0 ≤ i) = True := eq_true hi0
    have hi1' : (i < (l.length : Int)) = True := eq_true hi1
    simp only [spec_l09Sort.l1, Option.bind_some, pre_lt hx, pre_0, if_true, at_preQ hx, hi0', hi1', pre_w hx hs]
    have hless : spec_l09Less.f a.f0 a.f1 a.f2 (rd_T43 l i).f0 (rd_T43 l i).f1 (rd_T43 l i).f2 = some (decide (ltQ a c)) := by rw [hc]; exact less9_eq a c
    rw [hless]
    simp only [Option.bind_some]
    unfold insQ at h
    by_cases hac : ltQ a c
    · rw [if_pos hac] at h
      refine Ev.pos (by simpa using hac) ?_
      have := ih (pre ++ [a]) (by rw [hx]; simp) (by rw [List.append_assoc]; exact h)
      rw [List.length_append] at this
      exact this
    · rw [if_neg hac] at h
      refine Ev.neg (by simpa using hac) ?_
      exact done (a :: suf) pre hx h
def insAllQ : List Cube → List Cube → List Cube
  | acc, [] => acc
  | acc, c :: r => insAllQ (insQ c acc) r
theorem loop_tailQ {α σ ρ : Type} (c : α) (r : List α) (l : Nat → Int → σ → Option ρ) (g : List α → List α → σ → ρ) (Inv : List α → σ → Prop)
    (hn : ∀ s, Inv (c :: r) s → Ev (fun k => l (k + 1) ((c :: r).length : Int) s) (g (c :: r) [] s))
    (hs : ∀ (pre : List α) (d : α) (suf : List α) (s : σ), c :: r = pre ++ d :: suf → pre ≠ [] → Inv pre s → (∀ s', Inv (pre ++ [d]) s' → Ev (fun k => l k ((pre.length : Int) + 1) s') (g (pre ++ [d]) suf s')) → Ev (fun k => l (k + 1) (pre.length : Int) s) (g pre (d :: suf) s)) :
    ∀ s, Inv [c] s → Ev (fun k => l k 1 s) (g [c] r s) := by
  have key : ∀ (suf pre : List α), c :: r = pre ++ suf → pre ≠ [] → ∀ s, Inv pre s → Ev (fun k => l k (pre.length : Int) s) (g pre suf s) := by
    intro suf
    induction suf with
    | nil =>
      intro pre hx _ s hi
      rw [List.append_nil] at hx
      subst hx
      exact Ev.succ (hn s hi)
    | cons d suf ih =>
      intro pre hx hp s hi
      refine Ev.succ (hs pre d suf s hx hp hi fun s' hi' => ?_)
      have := ih (pre ++ [d]) (by rw [hx]; simp) (by simp) s' hi'
      rw [List.length_append] at this
      exact this
  intro s hi
  exact key r [c] rfl (by simp) s hi
def minQ (z : Int × Int × Int) (l : List Cube) : Int × Int × Int := l.foldl (fun m c => (mn m.1 c.f0, mn m.2.1 c.f1, mn m.2.2 c.f2)) z
def leastQ (l : List Cube) : Int × Int × Int := match l with | [] => (0, 0, 0) | c :: r => minQ (c.f0, c.f1, c.f2) r
def moveQ (l : List Cube) (m : Int × Int × Int) : List Cube := l.map fun c => ⟨wrap64 (c.f0 - m.1), wrap64 (c.f1 - m.2.1), wrap64 (c.f2 - m.2.2)⟩
theorem moveQ_len (l : List Cube) (m : Int × Int × Int) : (moveQ l m).length = l.length := by simp [moveQ]
def normalQ (l : List Cube) : List Cube := moveQ l (leastQ l)
theorem normalQ_len (l : List Cube) : (normalQ l).length = l.length := moveQ_len _ _
theorem wsub (a b : Int) : wrap64 (a + wrap64 (-b)) = wrap64 (a - b) := by unfold wrap64; omega
theorem specMoveQ_ev (l : List Cube) (m : Int × Int × Int) (hl : l.length ≤ 1048576) : Ev (fun k => spec_l09Move.f k l (wrap64 (-m.1)) (wrap64 (-m.2.1)) (wrap64 (-m.2.2))) (moveQ l m) := by
  have hs : small l := by unfold small; omega
  unfold spec_l09Move.f
  have := loop_list l (fun k i (s : List Cube) => spec_l09Move.l0 k l s i (wrap64 (-m.1)) (wrap64 (-m.2.1)) (wrap64 (-m.2.2))) (fun pre suf s => s ++ moveQ suf m) (fun pre s => s.length = pre.length) ?_ ?_ [] rfl
  · simpa using this
  · intro s _
    simp only [spec_l09Move.l0, len_lt, if_false]
    exact Ev.of_eq (Ev.now _) (by simp [moveQ])
  · intro pre c suf s hx hi ih
    have hp := pre_len hx
    simp only [spec_l09Move.l0, pre_lt hx, pre_0, if_true, at_preQ hx, pre_w hx hs, spec_l09Add.f, Option.bind_some, wsub]
    refine Ev.pos (by omega) (Ev.of_eq (ih _ (by simp [hi])) ?_)
    simp [moveQ]
theorem specNormalQ_ev (l : List Cube) (hl : l.length ≤ 1048576) (h0 : 0 < l.length) : Ev (fun k => spec_l09Normal.f k l) (normalQ l) := by
  have hs : small l := by unfold small; omega
  unfold spec_l09Normal.f
  obtain ⟨c, r, rfl⟩ : ∃ c r, l = c :: r := by cases l with | nil => simp at h0 | cons c r => exact ⟨c, r, rfl⟩
  refine Ev.pos (by simp <;> omega) ?_
  have h1 : rd_T43 (c :: r) 0 = c := rfl
  rw [h1]
  refine loop_tailQ c r (fun k i (s : Int × Int × Int) => spec_l09Normal.l0 k (c :: r) s.1 s.2.1 s.2.2 i) (fun _ suf s => moveQ (c :: r) (minQ s suf)) (fun _ _ => True) ?_ ?_ (c.f0, c.f1, c.f2) trivial
  · rintro s _
    simp only [spec_l09Normal.l0, len_lt, if_false]
    exact Ev.bind (specMoveQ_ev (c :: r) s hl) (Ev.now _)
  · rintro pre d suf s hx _ _ ih
    simp only [spec_l09Normal.l0, pre_lt hx, pre_0, if_true, at_preQ hx, pre_w hx hs]
    exact ih (mn s.1 d.f0, mn s.2.1 d.f1, mn s.2.2 d.f2) trivial
theorem implMoveQ_ev (l : List Cube) (m : Int × Int × Int) (hl : l.length ≤ 1048576) : Ev (fun k => impl_normalCubes.l1 k [] l (l.length : Int) 0 m.1 m.2.1 m.2.2) (moveQ l m) := by
  have hs : small l := by unfold small; omega
  have := loop_list l (fun k i (s : List Cube) => impl_normalCubes.l1 k s l (l.length : Int) i m.1 m.2.1 m.2.2) (fun pre suf s => s ++ moveQ suf m) (fun pre s => s.length = pre.length) ?_ ?_ [] rfl
  · simpa using this
  · intro s _
    simp only [impl_normalCubes.l1, len_lt, if_false]
    exact Ev.of_eq (Ev.now _) (by simp [moveQ])
  · intro pre c suf s hx hi ih
    have hp := pre_len hx
    simp only [impl_normalCubes.l1, pre_lt hx, pre_0, if_true, at_preQ hx, pre_w hx hs]
    refine Ev.pos (by omega) (Ev.of_eq (ih _ (by simp [hi])) ?_)
    simp [moveQ]
theorem implNormalQ_ev (l : List Cube) (hl : l.length ≤ 1048576) (h0 : 0 < l.length) : Ev (fun k => impl_normalCubes.f k l) (normalQ l) := by
  have hs : small l := by unfold small; omega
  unfold impl_normalCubes.f
  obtain ⟨c, r, rfl⟩ : ∃ c r, l = c :: r := by cases l with | nil => simp at h0 | cons c r => exact ⟨c, r, rfl⟩
  refine Ev.pos (by simp <;> omega) ?_
  have h1 : rd_T43 (c :: r) 0 = c := rfl
  rw [h1]
  have := loop_list (c :: r) (fun k i (s : Int × Int × Int) => impl_normalCubes.l0 k (c :: r) (c :: r) ((c :: r).length : Int) i s.1 s.2.1 s.2.2) (fun _ suf s => moveQ (c :: r) (minQ s suf)) (fun _ _ => True) ?_ ?_ (c.f0, c.f1, c.f2) trivial
  · refine Ev.of_eq this ?_
    simp [normalQ, leastQ, minQ, mn]
  · rintro s _
    simp only [impl_normalCubes.l0, len_lt, if_false]
    exact Ev.pos (by omega) (Ev.pos (by omega) (implMoveQ_ev (c :: r) s hl))
  · rintro pre d suf s hx _ ih
    simp only [impl_normalCubes.l0, pre_lt hx, pre_0, if_true, at_preQ hx, pre_w hx hs]
    exact ih (mn s.1 d.f0, mn s.2.1 d.f1, mn s.2.2 d.f2) trivial
theorem sortedQ_le (x y : Cube) : (!Go.Proofs.ltOf cmpV y x) = decide (¬ ltQ y x) := by
  unfold Go.Proofs.ltOf
  by_cases h : ltQ y x
  · simp [h, (cmpV_lt y x).2 h]
  · have : ¬ cmpV y x < 0 := fun h' => h ((cmpV_lt y x).1 h')
    simp [h, this]
theorem sortQ_perm (l : List Cube) : (sortC l).Perm l := List.mergeSort_perm _ _
theorem sortQ_len (l : List Cube) : (sortC l).length = l.length := (sortQ_perm l).length_eq
theorem sortQ_sorted (l : List Cube) : (sortC l).Pairwise fun a b => ¬ ltQ b a := by
  have := List.pairwise_mergeSort (le := fun x y : Cube => !Go.Proofs.ltOf cmpV y x) (fun a b c h1 h2 => by
    rw [sortedQ_le, decide_eq_true_eq] at *
    unfold ltQ at *
    omega) (fun a b => by
    rw [sortedQ_le, sortedQ_le, Bool.or_eq_true, decide_eq_true_eq, decide_eq_true_eq]
    unfold ltQ
    omega) l
  exact this.imp fun h => by rw [sortedQ_le, decide_eq_true_eq] at h; exact h
theorem eq_of_sortedQ : ∀ (l l' : List Cube), l.Perm l' → (l.Pairwise fun a b => ¬ ltQ b a) → (l'.Pairwise fun a b => ¬ ltQ b a) → l = l'
  | [], l', hp, _, _ => (List.Perm.nil_eq hp)
  | a :: r, [], hp, _, _ => absurd hp.symm (by simp)
  | a :: r, b :: s, hp, h1, h2 => by
    obtain ⟨h3, h4⟩ := List.pairwise_cons.1 h1
    obtain ⟨h5, h6⟩ := List.pairwise_cons.1 h2
    have hab : a = b := by
      have ha : a ∈ b :: s := hp.mem_iff.1 List.mem_cons_self
      have hb : b ∈ a :: r := hp.mem_iff.2 List.mem_cons_self
      have n1 : ¬ ltQ b a := by
        rcases List.mem_cons.1 hb with e | e
        · rw [e]; exact ltQ_irrefl a
        · exact h3 b e
      have n2 : ¬ ltQ a b := by
        rcases List.mem_cons.1 ha with e | e
        · rw [e]; exact ltQ_irrefl b
        · exact h5 a e
      exact ltQ_total n2 n1
    subst hab
    rw [eq_of_sortedQ r s (List.Perm.cons_inv hp) h4 h6]
theorem sortQ_eq {l l' : List Cube} (hp : l'.Perm l) (hs : l'.Pairwise fun a b => ¬ ltQ b a) : sortC l = l' :=
  eq_of_sortedQ _ _ ((sortQ_perm l).trans hp.symm) (sortQ_sorted l) hs
theorem insQ_sorted (c : Cube) : ∀ l : List Cube, (l.Pairwise fun a b => ¬ ltQ b a) → (insQ c l).Pairwise fun a b => ¬ ltQ b a
  | [], _ => by simp [insQ]
  | a :: r, h => by
    obtain ⟨h1, h2⟩ := List.pairwise_cons.1 h
    unfold insQ
    split
    · rename_i hc
      refine List.pairwise_cons.2 ⟨fun b hb => ?_, insQ_sorted c r h2⟩
      rcases List.mem_cons.1 ((insQ_perm c r).mem_iff.1 hb) with rfl | hb
      · unfold ltQ at *; omega
      · exact h1 b hb
    · rename_i hc
      refine List.pairwise_cons.2 ⟨fun b hb => ?_, h⟩
      rcases List.mem_cons.1 hb with rfl | hb
      · exact hc
      · have := h1 b hb
        unfold ltQ at *; omega
theorem insAllQ_spec : ∀ (l acc : List Cube), (acc.Pairwise fun a b => ¬ ltQ b a) → (insAllQ acc l).Perm (acc ++ l) ∧ (insAllQ acc l).Pairwise fun a b => ¬ ltQ b a
  | [], acc, h => ⟨by simp [insAllQ], h⟩
  | c :: r, acc, h => by
    obtain ⟨h1, h2⟩ := insAllQ_spec r (insQ c acc) (insQ_sorted c acc h)
    refine ⟨h1.trans ?_, h2⟩
    refine ((insQ_perm c acc).append_right r).trans ?_
    exact List.perm_middle.symm
theorem insAllQ_eq (l : List Cube) : insAllQ [] l = sortC l := by
  obtain ⟨h1, h2⟩ := insAllQ_spec l [] List.Pairwise.nil
  exact (sortQ_eq (by simpa using h1) h2).symm
theorem specSortQ_ev (l : List Cube) (hl : l.length ≤ 1048576) : Ev (fun k => spec_l09Sort.f k l) (sortC l) := by
  have hs : small l := by unfold small; omega
  unfold spec_l09Sort.f
  rw [← insAllQ_eq]
  refine loop_list l (fun k i (s : List Cube) => spec_l09Sort.l0 k l s i) (fun pre suf s => insAllQ s suf) (fun pre s => s.length = pre.length) ?_ ?_ [] rfl
  · intro s _
    simp only [spec_l09Sort.l0, len_lt, if_false]
    exact Ev.now _
  · intro pre c suf s hx hi ih
    have hp := pre_len hx
    simp only [spec_l09Sort.l0, pre_lt hx, if_true]
    refine specIns_l l (pre.length : Int) c (by omega) (by omega) (at_preQ hx) s (by omega) s [] rfl ?_
    rw [List.nil_append, pre_w hx hs]
    exact ih _ (by rw [(insQ_perm c s).length_eq]; simp [hi])
theorem implSortQ_eq (l : List Cube) (h0 : 0 < l.length) (h1 : l.length ≤ 1000000000000) : impl_Cube_37__impl_compareCubes.f l = some (sortC l) := by
  unfold impl_Cube_37__impl_compareCubes.f
  rw [if_pos ⟨h0, by omega⟩]
def rotZ : Nat → Int × Int × Int → Int × Int × Int
  | 0, p => p
  | n + 1, p => rotZ n (wrap64 (-p.2.1), p.1, p.2.2)
def rotX : Nat → Int × Int × Int → Int × Int × Int
  | 0, p => p
  | n + 1, p => rotX n (p.1, wrap64 (-p.2.2), p.2.1)
def tiltQ (f : Int) (p : Int × Int × Int) : Int × Int × Int := if f < 4 then rotX f.toNat p else if f = 5 then (wrap64 (-p.2.2), p.2.1, p.1) else (p.2.2, p.2.1, wrap64 (-p.1))
def turnQ (c : Cube) (t : Int) : Int × Int × Int := tiltQ (t / 4 % 6) (rotZ (t % 4).toNat (if t ≥ 24 then (wrap64 (-c.f0), c.f1, c.f2) else (c.f0, c.f1, c.f2)))
def turnE (t : Int) (c : Cube) : Cube := ⟨(turnQ c t).1, (turnQ c t).2.1, (turnQ c t).2.2⟩
theorem w64_rng (n : Int) : -9223372036854775808 ≤ wrap64 n ∧ wrap64 n ≤ 9223372036854775807 := by unfold wrap64; omega
theorem wneg2 {x : Int} (h : -9223372036854775808 ≤ x) (h' : x ≤ 9223372036854775807) : wrap64 (-wrap64 (-x)) = x := by unfold wrap64; omega
def inr (p : Int × Int × Int) : Prop := (-9223372036854775808 ≤ p.1 ∧ p.1 ≤ 9223372036854775807) ∧ (-9223372036854775808 ≤ p.2.1 ∧ p.2.1 ≤ 9223372036854775807)
theorem tdf {t : Int} (h : 0 ≤ t) (h' : t ≤ 1000) : Int.tmod (wrap64 (Int.tdiv t 4)) 6 = t / 4 % 6 := by
  have e : Int.tdiv t 4 = t / 4 := Int.tdiv_eq_ediv_of_nonneg h
  rw [e, w64 (by omega) (by omega), Int.tmod_eq_emod_of_nonneg (by omega)]
theorem tmod4' {t : Int} (h : 0 ≤ t) : Int.tmod t 4 = ((t % 4).toNat : Int) := by
  rw [Int.tmod_eq_emod_of_nonneg h]
  omega
theorem specTilt_l (n : Nat) (hn : n ≤ 1048576) : ∀ p : Int × Int × Int, Ev (fun k => spec_l09Turn.l1 k (n : Int) p.1 p.2.1 p.2.2) (rotX n p) := by
  induction n with
  | zero =>
    intro p
    refine Ev.succ ?_
    simp only [spec_l09Turn.l1]
    exact Ev.neg (by simp) (Ev.now _)
  | succ n ih =>
    intro p
    refine Ev.succ ?_
    simp only [spec_l09Turn.l1]
    have e1 : wrap64 (((n + 1 : Nat) : Int) - 1) = (n : Int) := by rw [w64 (by omega) (by omega)]; omega
    refine Ev.pos (by omega) ?_
    simp only [e1]
    exact ih (by omega) (p.1, wrap64 (-p.2.2), p.2.1)
theorem specTurnQ_l (t : Int) (h0 : 0 ≤ t) (h1 : t ≤ 1000) (n : Nat) (hn : n ≤ 1048576) : ∀ p : Int × Int × Int, Ev (fun k => spec_l09Turn.l0 k t (n : Int) p.1 p.2.1 p.2.2) (tiltQ (t / 4 % 6) (rotZ n p)) := by
  induction n with
  | zero =>
    intro p
    refine Ev.succ ?_
    simp only [spec_l09Turn.l0, tdf h0 h1]
    refine Ev.neg (by simp) ?_
    unfold tiltQ rotZ
    by_cases h4 : t / 4 % 6 = 4
    · rw [if_neg (by omega), if_neg (by omega)]
      exact Ev.pos h4 (Ev.now _)
    · by_cases h5 : t / 4 % 6 = 5
      · rw [if_neg (by omega), if_pos h5]
        exact Ev.neg h4 (Ev.pos h5 (Ev.now _))
      · rw [if_pos (by omega)]
        refine Ev.neg h4 (Ev.neg h5 ?_)
        have := specTilt_l (t / 4 % 6).toNat (by omega) p
        rw [Int.toNat_of_nonneg (by omega)] at this
        exact this
  | succ n ih =>
    intro p
    refine Ev.succ ?_
    simp only [spec_l09Turn.l0]
    have e1 : wrap64 (((n + 1 : Nat) : Int) - 1) = (n : Int) := by rw [w64 (by omega) (by omega)]; omega
    refine Ev.pos (by omega) ?_
    simp only [e1]
    exact ih (by omega) (wrap64 (-p.2.1), p.1, p.2.2)
theorem specTurnQ_ev (c : Cube) (t : Int) (h0 : 0 ≤ t) (h1 : t ≤ 1000) : Ev (fun k => spec_l09Turn.f k c.f0 c.f1 c.f2 t) (turnQ c t) := by
  unfold spec_l09Turn.f turnQ
  have := specTurnQ_l t h0 h1 (t % 4).toNat (by omega)
  by_cases h4 : t ≥ 24
  · rw [if_pos h4]
    refine Ev.pos h4 (Ev.step (fun k => spec_l09Turn.j0.eq_2 _ _ _ _ _) ?_)
    simp only [tmod4' h0]
    exact this (wrap64 (-c.f0), c.f1, c.f2)
  · rw [if_neg h4]
    refine Ev.neg h4 (Ev.step (fun k => spec_l09Turn.j0.eq_2 _ _ _ _ _) ?_)
    simp only [tmod4' h0]
    exact this (c.f0, c.f1, c.f2)
theorem implTilt_l (m : Nat) (hm : m ≤ 1048576) (n : Nat) : ∀ (i : Nat) (p : Int × Int × Int), i + n = m → Ev (fun k => impl_turnCube.l1 k (m : Int) (i : Int) p.1 p.2.1 p.2.2) (rotX n p) := by
  induction n with
  | zero =>
    intro i p hi
    refine Ev.succ ?_
    simp only [impl_turnCube.l1]
    exact Ev.neg (by omega) (Ev.now _)
  | succ n ih =>
    intro i p hi
    refine Ev.succ ?_
    simp only [impl_turnCube.l1]
    have e1 : wrap64 ((i : Int) + 1) = ((i + 1 : Nat) : Int) := by rw [w64 (by omega) (by omega)]; omega
    refine Ev.pos (by omega) ?_
    simp only [e1]
    exact ih (i + 1) (p.1, wrap64 (-p.2.2), p.2.1) (by omega)
theorem implFlip1 (p : Int × Int × Int) : Ev (fun k => impl_turnCube.j3 k 1 p.1 p.2.1 p.2.2) (p.2.2, p.2.1, wrap64 (-p.1)) := by
  refine Ev.step (fun k => impl_turnCube.j3.eq_2 _ _ _ _ _) (Ev.succ ?_)
  simp only [impl_turnCube.l2]
  refine Ev.pos (by decide) (Ev.succ ?_)
  simp only [impl_turnCube.l2]
  exact Ev.neg (by unfold wrap64; omega) (Ev.now _)
theorem implFlip3 (p : Int × Int × Int) (h : inr p) : Ev (fun k => impl_turnCube.j3 k 3 p.1 p.2.1 p.2.2) (wrap64 (-p.2.2), p.2.1, p.1) := by
  refine Ev.step (fun k => impl_turnCube.j3.eq_2 _ _ _ _ _) (Ev.succ ?_)
  simp only [impl_turnCube.l2]
  refine Ev.pos (by decide) (Ev.succ ?_)
  simp only [impl_turnCube.l2]
  refine Ev.pos (by unfold wrap64; omega) (Ev.succ ?_)
  simp only [impl_turnCube.l2]
  refine Ev.pos (by unfold wrap64; omega) (Ev.succ ?_)
  simp only [impl_turnCube.l2]
  refine Ev.neg (by unfold wrap64; omega) (Ev.of_eq (Ev.now _) ?_)
  rw [wneg2 h.1.1 h.1.2]
theorem implTurnQ_l (t : Int) (h0 : 0 ≤ t) (h1 : t ≤ 1000) (m : Nat) (hm : m ≤ 1048576) (n : Nat) : ∀ (i : Nat) (p : Int × Int × Int), i + n = m → inr p → Ev (fun k => impl_turnCube.l0 k t (m : Int) (i : Int) p.1 p.2.1 p.2.2) (tiltQ (t / 4 % 6) (rotZ n p)) := by
  induction n with
  | zero =>
    intro i p hi hp
    refine Ev.succ ?_
    simp only [impl_turnCube.l0, tdf h0 h1]
    refine Ev.neg (by omega) ?_
    unfold tiltQ rotZ
    by_cases h4 : t / 4 % 6 < 4
    · rw [if_pos h4]
      refine Ev.pos h4 ?_
      have := implTilt_l (t / 4 % 6).toNat (by omega) (t / 4 % 6).toNat 0 p (by omega)
      rw [Int.toNat_of_nonneg (by omega)] at this
      exact this
    · rw [if_neg h4]
      refine Ev.neg h4 ?_
      by_cases h5 : t / 4 % 6 = 5
      · rw [if_pos h5]
        exact Ev.pos h5 (implFlip3 p hp)
      · rw [if_neg h5]
        exact Ev.neg h5 (implFlip1 p)
  | succ n ih =>
    intro i p hi hp
    refine Ev.succ ?_
    simp only [impl_turnCube.l0]
    have e1 : wrap64 ((i : Int) + 1) = ((i + 1 : Nat) : Int) := by rw [w64 (by omega) (by omega)]; omega
    refine Ev.pos (by omega) ?_
    simp only [e1]
    exact ih (i + 1) (wrap64 (-p.2.1), p.1, p.2.2) (by omega) ⟨w64_rng _, hp.1⟩
theorem implTurnQ_ev (c : Cube) (t : Int) (h0 : 0 ≤ t) (h1 : t ≤ 1000) (hc : okQ c) : Ev (fun k => impl_turnCube.f k c.f0 c.f1 c.f2 t) (turnQ c t) := by
  unfold impl_turnCube.f turnQ
  have := implTurnQ_l t h0 h1 (t % 4).toNat (by omega) (t % 4).toNat 0
  obtain ⟨c0, c1, c2⟩ := hc
  unfold ok1 at c0 c1 c2
  by_cases h4 : t ≥ 24
  · rw [if_pos h4]
    refine Ev.pos h4 (Ev.step (fun k => impl_turnCube.j0.eq_2 _ _ _ _ _) ?_)
    simp only [tmod4' h0]
    exact this (wrap64 (-c.f0), c.f1, c.f2) (by omega) ⟨w64_rng _, (by show -9223372036854775808 ≤ c.f1; omega), (by show c.f1 ≤ 9223372036854775807; omega)⟩
  · rw [if_neg h4]
    refine Ev.neg h4 (Ev.step (fun k => impl_turnCube.j0.eq_2 _ _ _ _ _) ?_)
    simp only [tmod4' h0]
    exact this (c.f0, c.f1, c.f2) (by omega) ⟨⟨(by show -9223372036854775808 ≤ c.f0; omega), (by show c.f0 ≤ 9223372036854775807; omega)⟩, (by show -9223372036854775808 ≤ c.f1; omega), (by show c.f1 ≤ 9223372036854775807; omega)⟩
def formQ (l : List Cube) (t : Int) : List Cube := normalQ (sortC (l.map (turnE t)))
theorem formQ_len (l : List Cube) (t : Int) : (formQ l t).length = l.length := by unfold formQ; rw [normalQ_len, sortQ_len]; simp
theorem specFormQ_ev (l : List Cube) (t : Int) (h0 : 0 ≤ t) (h1 : t ≤ 1000) (hl : l.length ≤ 1048576) (hp : 0 < l.length) : Ev (fun k => spec_l09Form.f k l t) (formQ l t) := by
  have hs : small l := by unfold small; omega
  unfold spec_l09Form.f formQ
  have := loop_list l (fun k i (s : List Cube) => spec_l09Form.l0 k l t s i) (fun pre suf s => normalQ (sortC (s ++ suf.map (turnE t)))) (fun pre s => s.length = pre.length) ?_ ?_ [] rfl
  · simpa using this
  · intro s hi
    have hi' : s.length = l.length := hi
    simp only [spec_l09Form.l0, len_lt, if_false]
    exact Ev.bind (specSortQ_ev s (by omega)) (Ev.bind (specNormalQ_ev _ (by rw [sortQ_len]; omega) (by rw [sortQ_len]; omega)) (Ev.of_eq (Ev.now _) (by simp)))
  · intro pre c suf s hx hi ih
    have hp := pre_len hx
    simp only [spec_l09Form.l0, pre_lt hx, pre_0, if_true, at_preQ hx, pre_w hx hs]
    refine Ev.bind (specTurnQ_ev c t h0 h1) (Ev.pos (by omega) (Ev.of_eq (ih (s ++ [turnE t c]) (by simp [hi])) (by simp)))
theorem implFormQ_ev (l : List Cube) (t : Int) (h0 : 0 ≤ t) (h1 : t ≤ 1000) (hl : l.length ≤ 1048576) (hp : 0 < l.length) (ho : ∀ c ∈ l, okQ c) : Ev (fun k => impl_cubeForm.f k l t) (formQ l t) := by
  have hs : small l := by unfold small; omega
  unfold impl_cubeForm.f formQ
  refine Ev.pos (by omega) (Ev.pos (by omega) ?_)
  have := loop_list l (fun k i (s : List Cube) => impl_cubeForm.l0 k t s l (l.length : Int) i) (fun pre suf s => normalQ (sortC (s ++ suf.map (turnE t)))) (fun pre s => s.length = pre.length) ?_ ?_ [] rfl
  · simpa using this
  · intro s hi
    have hi' : s.length = l.length := hi
    simp only [impl_cubeForm.l0, len_lt, if_false, implSortQ_eq s (by omega) (by omega), Option.bind_some]
    exact Ev.bind (implNormalQ_ev _ (by rw [sortQ_len]; omega) (by rw [sortQ_len]; omega)) (Ev.of_eq (Ev.now _) (by simp))
  · intro pre c suf s hx hi ih
    have hp := pre_len hx
    simp only [impl_cubeForm.l0, pre_lt hx, pre_0, if_true, at_preQ hx, pre_w hx hs]
    refine Ev.bind (implTurnQ_ev c t h0 h1 (ho c (by rw [hx]; simp))) (Ev.pos (by omega) (Ev.of_eq (ih (s ++ [turnE t c]) (by simp [hi])) (by simp)))
instance decEqCube : DecidableEq Cube := fun a b => decidable_of_iff (a.f0 = b.f0 ∧ a.f1 = b.f1 ∧ a.f2 = b.f2) (by cases a; cases b; simp)
def cmpLQ : List Cube → List Cube → Int
  | [], _ => 0
  | _ :: _, [] => 0
  | a :: r, b :: s => if ltQ a b then -1 else if ltQ b a then 1 else cmpLQ r s
def cmpSQ (a b : List Cube) : Int := if a.length = b.length then cmpLQ a b else if a.length < b.length then -1 else 1
theorem cmpLQ_zero : ∀ (a b : List Cube), a.length = b.length → (cmpLQ a b = 0 ↔ a = b)
  | [], b, h => by
    have : b = [] := List.length_eq_zero_iff.1 h.symm
    simp [cmpLQ, this]
  | a :: r, [], h => by simp at h
  | a :: r, b :: s, h => by
    unfold cmpLQ
    by_cases h1 : ltQ a b
    · rw [if_pos h1]
      have : a ≠ b := fun e => ltQ_irrefl b (e ▸ h1)
      simp [this]
    · rw [if_neg h1]
      by_cases h2 : ltQ b a
      · rw [if_pos h2]
        have : a ≠ b := fun e => ltQ_irrefl b (e ▸ h2)
        simp [this]
      · rw [if_neg h2, cmpLQ_zero r s (by simpa using h)]
        simp [ltQ_total h1 h2]
theorem cmpSQ_zero (a b : List Cube) : cmpSQ a b = 0 ↔ a = b := by
  unfold cmpSQ
  by_cases h : a.length = b.length
  · rw [if_pos h]; exact cmpLQ_zero a b h
  · rw [if_neg h]
    have : a ≠ b := fun e => h (by rw [e])
    split <;> simp [this]
theorem rdQ (b : List Cube) (i : Nat) (h : i < b.length) : rd_T43 b (i : Int) = b[i] := by
  unfold rd_T43
  rw [List.getD_eq_getElem?_getD, Int.toNat_natCast, List.getElem?_eq_getElem h]
  rfl
theorem specCompareQ_ev (a b : List Cube) (ha : small a) : Ev (fun k => spec_l09Compare.f k a b) (cmpSQ a b) := by
  unfold spec_l09Compare.f cmpSQ
  by_cases hl : a.length = b.length
  · rw [if_pos hl]
    refine Ev.pos (by omega) ?_
    refine loop_list a (fun k i (_ : Unit) => spec_l09Compare.l0 k a b i) (fun pre suf _ => cmpLQ suf (b.drop pre.length)) (fun _ _ => True) ?_ ?_ () trivial
    · intro _ _
      simp only [spec_l09Compare.l0, len_lt, if_false]
      exact Ev.of_eq (Ev.now _) (by simp [cmpLQ])
    · intro pre c suf _ hx _ ih
      have hp := pre_len hx
      have hpb : pre.length < b.length := by omega
      have hlt : ((pre.length : Int) < (b.length : Int)) = True := by simp; omega
      have eb := rdQ b pre.length hpb
      have e1 := less9_eq c b[pre.length]
      have e2 := less9_eq b[pre.length] c
      simp only [spec_l09Compare.l0, pre_lt hx, pre_0, if_true, hlt, at_preQ hx, pre_w hx ha, eb]
      rw [List.drop_eq_getElem_cons hpb, cmpLQ]
      have hih := ih () trivial
      rw [List.length_append, List.length_singleton] at hih
      rw [e1, e2]
      generalize b.drop (pre.length + 1) = R at hih ⊢
      generalize b[pre.length] = d at hih ⊢
      simp only [Option.bind_some, decide_eq_true_eq]
      by_cases h1 : ltQ c d
      · rw [if_pos h1]
        exact Ev.pos h1 (Ev.now _)
      · rw [if_neg h1]
        refine Ev.neg h1 ?_
        by_cases h2 : ltQ d c
        · rw [if_pos h2]
          exact Ev.pos h2 (Ev.now _)
        · rw [if_neg h2]
          exact Ev.neg h2 hih
  · rw [if_neg hl]
    refine Ev.neg (by omega) ?_
    by_cases h : a.length < b.length
    · rw [if_pos h]; exact Ev.pos (by omega) (Ev.now _)
    · rw [if_neg h]; exact Ev.neg (by omega) (Ev.now _)
def cmpJ (a b : Int) : Int := if a < b then -1 else if a > b then 1 else 0
theorem cmpJ_zero {a b : Int} : cmpJ a b = 0 ↔ a = b := by
  unfold cmpJ
  split
  · constructor <;> intro h <;> omega
  · split
    · constructor <;> intro h <;> omega
    · constructor <;> intro h <;> omega
theorem compareInt_eq (a b : Int) : cmp_Compare_int.f a b = some (cmpJ a b) := by
  unfold cmp_Compare_int.f cmp_isNaN_int.f cmpJ
  simp only [bne_self_eq_false, Option.bind_some, Bool.false_eq_true, if_false]
  split
  · rfl
  · split <;> rfl
theorem implCompareQ_ev (a b : List Cube) (ha : small a) : Ev (fun k => impl_compareSolids.f k a b) (cmpSQ a b) := by
  unfold impl_compareSolids.f cmpSQ
  rw [compareInt_eq]
  simp only [Option.bind_some]
  by_cases hl : a.length = b.length
  · rw [if_pos hl]
    refine Ev.pos (cmpJ_zero.2 (by omega)) (Ev.bind ?_ (Ev.now _))
    unfold impl_Cube_59__impl_compareCubes.f
    refine loop_list a (fun k i (_ : Unit) => impl_Cube_59__impl_compareCubes.l0 k a b a (a.length : Int) i) (fun pre suf _ => cmpLQ suf (b.drop pre.length)) (fun _ _ => True) ?_ ?_ () trivial
    · intro _ _
      simp only [impl_Cube_59__impl_compareCubes.l0, len_lt, if_false]
      exact Ev.neg (by omega) (Ev.of_eq (Ev.now _) (by simp [cmpLQ]))
    · intro pre c suf _ hx _ ih
      have hp := pre_len hx
      have hpb : pre.length < b.length := by omega
      have eb := rdQ b pre.length hpb
      have e1 := cmpV_eq c b[pre.length]
      simp only [impl_Cube_59__impl_compareCubes.l0, pre_lt hx, pre_0, if_true, at_preQ hx, pre_w hx ha, eb]
      refine Ev.neg (by omega) (Ev.pos (by omega) ?_)
      rw [e1]
      rw [List.drop_eq_getElem_cons hpb, cmpLQ]
      have hih := ih () trivial
      rw [List.length_append, List.length_singleton] at hih
      generalize b.drop (pre.length + 1) = R at hih ⊢
      generalize b[pre.length] = d at hih ⊢
      simp only [Option.bind_some]
      have hv := cmpV_val c d
      by_cases h1 : ltQ c d
      · rw [if_pos h1] at hv ⊢
        exact Ev.neg (by omega) (Ev.of_eq (Ev.now _) hv)
      · rw [if_neg h1] at hv ⊢
        by_cases h2 : ltQ d c
        · rw [if_pos h2] at hv ⊢
          exact Ev.neg (by omega) (Ev.of_eq (Ev.now _) hv)
        · rw [if_neg h2] at hv ⊢
          exact Ev.pos hv hih
  · rw [if_neg hl]
    refine Ev.neg (fun h => hl (by have := cmpJ_zero.1 h; omega)) (Ev.of_eq (Ev.now _) ?_)
    unfold cmpJ
    by_cases h : a.length < b.length
    · rw [if_pos h, if_pos (by omega)]
    · rw [if_neg h, if_neg (by omega), if_pos (by omega)]
def lessQ (l : List Cube) : Nat → Int → List Cube → List Cube
  | 0, _, b => b
  | n + 1, t, b => lessQ l n (t + 1) (if cmpSQ (formQ l t) b < 0 then formQ l t else b)
def leastForm (l : List Cube) (n : Nat) : List Cube := lessQ l (n - 1) 1 (formQ l 0)
theorem lessQ_len (l : List Cube) (m : Nat) (hm : l.length ≤ m) : ∀ (n : Nat) (t : Int) (b : List Cube), b.length ≤ m → (lessQ l n t b).length ≤ m
  | 0, _, _, h => h
  | n + 1, t, b, h => by
    unfold lessQ
    refine lessQ_len l m hm n _ _ ?_
    split
    · rw [formQ_len]; exact hm
    · exact h
theorem leastForm_len (l : List Cube) (n : Nat) : (leastForm l n).length ≤ l.length := lessQ_len l l.length (Nat.le_refl _) _ _ _ (by rw [formQ_len]; exact Nat.le_refl _)
theorem specLessQ_l (l : List Cube) (m : Int) (hm : m ≤ 1000) (hl : l.length ≤ 1048576) (hp : 0 < l.length) : ∀ (n : Nat) (t : Int) (b : List Cube), 0 ≤ t → t + (n : Int) = m → Ev (fun k => spec_l09Least.l0 k l m b t) (lessQ l n t b)
  | 0, t, b, h0, h1 => by
    refine Ev.succ ?_
    simp only [spec_l09Least.l0]
    exact Ev.neg (by omega) (Ev.now _)
  | n + 1, t, b, h0, h1 => by
    refine Ev.succ ?_
    simp only [spec_l09Least.l0]
    have ew : wrap64 (t + 1) = t + 1 := w64 (by omega) (by omega)
    have hf : small (formQ l t) := by unfold small; rw [formQ_len]; omega
    refine Ev.pos (by omega) (Ev.bind (specFormQ_ev l t h0 (by omega) hl hp) (Ev.bind (specCompareQ_ev _ b hf) ?_))
    simp only [ew]
    unfold lessQ
    by_cases h : cmpSQ (formQ l t) b < 0
    · rw [if_pos h]; exact Ev.pos h (specLessQ_l l m hm hl hp n (t + 1) _ (by omega) (by omega))
    · rw [if_neg h]; exact Ev.neg h (specLessQ_l l m hm hl hp n (t + 1) _ (by omega) (by omega))
theorem specLeastQ_ev (l : List Cube) (n : Nat) (h1 : 1 ≤ n) (hn : n ≤ 1000) (hl : l.length ≤ 1048576) (hp : 0 < l.length) : Ev (fun k => spec_l09Least.f k l (n : Int)) (leastForm l n) := by
  unfold spec_l09Least.f leastForm
  exact Ev.bind (specFormQ_ev l 0 (by omega) (by omega) hl hp) (specLessQ_l l n (by omega) hl hp (n - 1) 1 _ (by omega) (by omega))
theorem implLessQ_l (l : List Cube) (m : Int) (hm : m ≤ 1000) (hl : l.length ≤ 1048576) (hp : 0 < l.length) (ho : ∀ c ∈ l, okQ c) : ∀ (n : Nat) (t : Int) (b : List Cube), 0 ≤ t → t + (n : Int) = m → Ev (fun k => impl_leastSolid.l0 k l m b t) (lessQ l n t b)
  | 0, t, b, h0, h1 => by
    refine Ev.succ ?_
    simp only [impl_leastSolid.l0]
    exact Ev.neg (by omega) (Ev.now _)
  | n + 1, t, b, h0, h1 => by
    refine Ev.succ ?_
    simp only [impl_leastSolid.l0]
    have ew : wrap64 (t + 1) = t + 1 := w64 (by omega) (by omega)
    have hf : small (formQ l t) := by unfold small; rw [formQ_len]; omega
    refine Ev.pos (by omega) (Ev.bind (implFormQ_ev l t h0 (by omega) hl hp ho) (Ev.bind (implCompareQ_ev _ b hf) ?_))
    simp only [ew]
    unfold lessQ
    by_cases h : cmpSQ (formQ l t) b < 0
    · rw [if_pos h]; exact Ev.pos h (implLessQ_l l m hm hl hp ho n (t + 1) _ (by omega) (by omega))
    · rw [if_neg h]; exact Ev.neg h (implLessQ_l l m hm hl hp ho n (t + 1) _ (by omega) (by omega))
def turnsQ (b : Bool) : Nat := if b = true then 48 else 24
theorem implLeastQ_ev (l : List Cube) (b : Bool) (hl : l.length ≤ 1048576) (hp : 0 < l.length) (ho : ∀ c ∈ l, okQ c) : Ev (fun k => impl_leastSolid.f k l b) (leastForm l (turnsQ b)) := by
  unfold impl_leastSolid.f leastForm turnsQ
  refine Ev.of_eq (Ev.if_ (r := lessQ l 47 1 (formQ l 0)) (s := lessQ l 23 1 (formQ l 0)) (fun _ => ?_) (fun _ => ?_)) ?_
  · refine Ev.step (fun k => impl_leastSolid.j0.eq_2 _ _ _) ?_
    exact Ev.bind (implFormQ_ev l 0 (by omega) (by omega) hl hp ho) (implLessQ_l l 48 (by omega) hl hp ho 47 1 _ (by omega) (by omega))
  · refine Ev.step (fun k => impl_leastSolid.j0.eq_2 _ _ _) ?_
    exact Ev.bind (implFormQ_ev l 0 (by omega) (by omega) hl hp ho) (implLessQ_l l 24 (by omega) hl hp ho 23 1 _ (by omega) (by omega))
  · split <;> rfl
theorem ordL_eq : ∀ a b : List Cube, ordL a b = cmpLQ a b
  | [], _ => by simp [ordL, cmpLQ]
  | _ :: _, [] => by simp [ordL, cmpLQ]
  | a :: r, b :: s => by
    unfold ordL cmpLQ
    rw [cmpV_val, ordL_eq r s]
    by_cases h1 : ltQ a b
    · rw [if_pos h1, if_pos h1, if_neg (by omega)]
    · rw [if_neg h1, if_neg h1]
      by_cases h2 : ltQ b a
      · rw [if_pos h2, if_pos h2, if_neg (by omega)]
      · rw [if_neg h2, if_neg h2, if_pos rfl]
theorem ordS_eq (a b : List Cube) : ordS a b = cmpSQ a b := by unfold ordS cmpSQ; rw [ordL_eq]
theorem cmpZ_self (a : List Cube) : cmpSQ a a = 0 := (cmpSQ_zero a a).2 rfl
theorem cmpZ_anti (a b : List Cube) : cmpSQ b a = -cmpSQ a b := by rw [← ordS_eq, ← ordS_eq]; exact ordS_anti a b
theorem cmpZ_trans {a b c : List Cube} (h1 : cmpSQ a b ≤ 0) (h2 : cmpSQ b c ≤ 0) : cmpSQ a c ≤ 0 := by
  rw [← ordS_eq] at *
  exact ordS_trans h1 h2
theorem cmpZ_lt_trans {a b c : List Cube} (h1 : cmpSQ a b < 0) (h2 : cmpSQ b c < 0) : cmpSQ a c < 0 := by
  have h3 := cmpZ_trans (a := a) (b := b) (c := c) (by omega) (by omega)
  by_cases e : cmpSQ a c = 0
  · have := (cmpSQ_zero a c).1 e
    subst this
    have := cmpZ_anti a b
    omega
  · omega
def asc (l : List (List Cube)) : Prop := l.Pairwise fun a b => cmpSQ a b < 0
theorem asc_eq : ∀ (a b : List (List Cube)), asc a → asc b → (∀ x, x ∈ a ↔ x ∈ b) → a = b
  | [], [], _, _, _ => rfl
  | [], b :: s, _, _, h => absurd ((h b).2 List.mem_cons_self) (by simp)
  | a :: r, [], _, _, h => absurd ((h a).1 List.mem_cons_self) (by simp)
  | a :: r, b :: s, ha, hb, h => by
    obtain ⟨h1, h2⟩ := List.pairwise_cons.1 ha
    obtain ⟨h3, h4⟩ := List.pairwise_cons.1 hb
    have e : a = b := by
      rcases List.mem_cons.1 ((h a).1 List.mem_cons_self) with e | e
      · exact e
      · rcases List.mem_cons.1 ((h b).2 List.mem_cons_self) with e' | e'
        · exact e'.symm
        · have := h1 b e'
          have := h3 a e
          have := cmpZ_anti a b
          omega
    subst e
    congr 1
    refine asc_eq r s h2 h4 fun x => ⟨fun hx => ?_, fun hx => ?_⟩
    · rcases List.mem_cons.1 ((h x).1 (List.mem_cons_of_mem _ hx)) with e | e
      · have := h1 x hx
        rw [e, cmpZ_self] at this
        omega
      · exact e
    · rcases List.mem_cons.1 ((h x).2 (List.mem_cons_of_mem _ hx)) with e | e
      · have := h3 x hx
        rw [e, cmpZ_self] at this
        omega
      · exact e
theorem sortS_sorted (l : List (List Cube)) : (sortS l).Pairwise fun a b => cmpSQ a b ≤ 0 := by
  have := List.pairwise_mergeSort (le := fun x y : List Cube => !Go.Proofs.ltOf ordS y x) (fun a b c h1 h2 => by
    simp only [Bool.not_eq_true'] at *
    exact swoS.ntrans c b a h2 h1) (fun a b => by
    rw [Bool.or_eq_true]
    by_cases e : Go.Proofs.ltOf ordS b a = true
    · right
      simp only [Bool.not_eq_true']
      rw [ltS_iff]
      unfold Go.Proofs.ltOf at e
      rw [decide_eq_true_eq] at e
      rw [ordS_anti]
      omega
    · left
      simpa using e) l
  refine this.imp fun {a b} h => ?_
  simp only [Bool.not_eq_true'] at h
  rw [ltS_iff, ordS_eq] at h
  have := cmpZ_anti a b
  omega
theorem sortS_mem {l : List (List Cube)} {x : List Cube} : x ∈ sortS l ↔ x ∈ l := (List.mergeSort_perm _ _).mem_iff
theorem compG_mem {β : Type} [DecidableEq β] : ∀ (l : List β) (p x : β), x ∈ compG p l ∨ x = p ↔ x ∈ l ∨ x = p
  | [], p, x => by simp [compG]
  | a :: r, p, x => by
    have ih := compG_mem r a x
    rw [compG]
    by_cases h : a = p
    · subst h
      rw [if_pos rfl, ih, List.mem_cons]
      constructor
      · rintro (h1 | h1)
        · exact .inl (.inr h1)
        · exact .inr h1
      · rintro ((h1 | h1) | h1)
        · exact .inr h1
        · exact .inl h1
        · exact .inr h1
    · rw [if_neg h, List.mem_cons, List.mem_cons]
      constructor
      · rintro ((h1 | h1) | h1)
        · exact .inl (.inl h1)
        · rcases ih.1 (.inl h1) with h2 | h2
          · exact .inl (.inr h2)
          · exact .inl (.inl h2)
        · exact .inr h1
      · rintro ((h1 | h1) | h1)
        · exact .inl (.inl h1)
        · rcases ih.2 (.inl h1) with h2 | h2
          · exact .inl (.inr h2)
          · exact .inl (.inl h2)
        · exact .inr h1
theorem compF_mem {β : Type} [DecidableEq β] {l : List β} {x : β} : x ∈ compF l ↔ x ∈ l := by
  cases l with
  | nil => simp [compF]
  | cons a r =>
    have := compG_mem r a x
    rw [compF, List.mem_cons, List.mem_cons]
    constructor
    · rintro (h | h)
      · exact .inl h
      · rcases this.1 (.inl h) with h | h
        · exact .inr h
        · exact .inl h
    · rintro (h | h)
      · exact .inl h
      · rcases this.2 (.inl h) with h | h
        · exact .inr h
        · exact .inl h
theorem compG_asc : ∀ (l : List (List Cube)) (p : List Cube), (p :: l).Pairwise (fun a b => cmpSQ a b ≤ 0) → asc (p :: compG p l)
  | [], p, _ => by simp [compG, asc]
  | a :: r, p, h => by
    obtain ⟨h1, h2⟩ := List.pairwise_cons.1 h
    have ih := compG_asc r a h2
    rw [compG]
    by_cases e : a = p
    · subst e
      rw [if_pos rfl]
      exact ih
    · rw [if_neg e]
      have hpa : cmpSQ p a < 0 := by
        have := h1 a List.mem_cons_self
        have hne : cmpSQ p a ≠ 0 := fun h => e ((cmpSQ_zero p a).1 h).symm
        omega
      refine List.pairwise_cons.2 ⟨fun b hb => ?_, ih⟩
      rcases List.mem_cons.1 hb with rfl | hb
      · exact hpa
      · exact cmpZ_lt_trans hpa ((List.pairwise_cons.1 ih).1 b hb)
theorem compF_asc {l : List (List Cube)} (h : l.Pairwise fun a b => cmpSQ a b ≤ 0) : asc (compF l) := by
  cases l with
  | nil => exact List.Pairwise.nil
  | cons a r => rw [compF]; exact compG_asc r a h
def tidyL (l : List (List Cube)) : List (List Cube) := compF (sortS l)
theorem tidyL_mem {l : List (List Cube)} {x : List Cube} : x ∈ tidyL l ↔ x ∈ l := compF_mem.trans sortS_mem
theorem tidyL_asc (l : List (List Cube)) : asc (tidyL l) := compF_asc (sortS_sorted l)
theorem implSortS_eq (l : List (List Cube)) (h0 : 0 < l.length) (h1 : l.length < 4611686018427387904) : impl_Cube_40__impl_compareSolids.f l = some (sortS l) := by
  unfold impl_Cube_40__impl_compareSolids.f
  rw [if_pos ⟨h0, h1⟩]
theorem implCompS_eq (l : List (List Cube)) (h0 : 0 < l.length) (h1 : l.length < 4611686018427387904) : impl_Cube_42__impl_allSolids_1.f l = some (compF l) := by
  unfold impl_Cube_42__impl_allSolids_1.f
  rw [if_pos ⟨h0, h1⟩]
  exact congrArg (fun i => some (@compF _ i l)) (Subsingleton.elim _ _)
def addL (l : List (List Cube)) (x : List Cube) : List (List Cube) := match l with
  | [] => [x]
  | a :: r => if cmpSQ a x < 0 then a :: addL r x else if cmpSQ a x = 0 then a :: r else x :: a :: r
theorem addL_mem : ∀ {l : List (List Cube)} {x y : List Cube}, y ∈ addL l x ↔ y = x ∨ y ∈ l
  | [], x, y => by simp [addL]
  | a :: r, x, y => by
    rw [addL]
    split
    · rw [List.mem_cons, addL_mem (l := r), List.mem_cons]
      constructor
      · rintro (h | h | h)
        · exact .inr (.inl h)
        · exact .inl h
        · exact .inr (.inr h)
      · rintro (h | h | h)
        · exact .inr (.inl h)
        · exact .inl h
        · exact .inr (.inr h)
    · split
      · rename_i h
        have e := (cmpSQ_zero a x).1 h
        subst e
        constructor
        · exact .inr
        · rintro (h | h)
          · rw [h]; exact List.mem_cons_self
          · exact h
      · rw [List.mem_cons]
theorem addL_asc : ∀ {l : List (List Cube)} {x : List Cube}, asc l → asc (addL l x)
  | [], x, _ => by simp [addL, asc]
  | a :: r, x, h => by
    obtain ⟨h1, h2⟩ := List.pairwise_cons.1 h
    rw [addL]
    split
    · rename_i hc
      refine List.pairwise_cons.2 ⟨fun b hb => ?_, addL_asc h2⟩
      rcases addL_mem.1 hb with rfl | hb
      · exact hc
      · exact h1 b hb
    · split
      · exact h
      · have hax : cmpSQ x a < 0 := by
          have := cmpZ_anti a x
          omega
        refine List.pairwise_cons.2 ⟨fun b hb => ?_, h⟩
        rcases List.mem_cons.1 hb with rfl | hb
        · exact hax
        · exact cmpZ_lt_trans hax (h1 b hb)
theorem addL_len : ∀ (l : List (List Cube)) (x : List Cube), (addL l x).length ≤ l.length + 1
  | [], x => by simp [addL]
  | a :: r, x => by
    have := addL_len r x
    rw [addL]
    split
    · simp; omega
    · split
      · simp
      · simp
theorem at_preLQS {xs pre suf : List (List Cube)} {c : List Cube} (h : xs = pre ++ c :: suf) : rd_L2 xs (pre.length : Int) = c := by
  subst h; unfold rd_L2; rw [getD_at]
theorem specAdd_ev (l : List (List Cube)) (x : List Cube) (hl : l.length ≤ 1000000000) (hx_ : ∀ y ∈ l, small y) : Ev (fun k => spec_l09Insert.f k l x) (addL l x) := by
  have hs : small l := by unfold small; omega
  unfold spec_l09Insert.f
  refine loop_list l (fun k i (_ : Unit) => spec_l09Insert.l0 k l x i) (fun pre suf _ => pre ++ addL suf x) (fun _ _ => True) ?_ ?_ () trivial
  · intro _ _
    simp only [spec_l09Insert.l0, len_lt, if_false, Option.bind_some, Int.toNat_natCast, List.take_length, List.drop_length, List.nil_append, List.length_nil, List.length_singleton, List.append_nil, List.length_append]
    refine Ev.pos (by omega) (Ev.pos (by omega) (Ev.pos (by omega) (Ev.pos (by omega) (Ev.pos (by omega) (Ev.of_eq (Ev.now _) ?_)))))
    simp [addL]
  · intro pre c suf _ hx _ ih
    have hp := pre_len hx
    have ht : l.take pre.length = pre := by rw [hx]; simp
    have hd : l.drop pre.length = c :: suf := by rw [hx]; simp
    have hlen : l.length = pre.length + (suf.length + 1) := by rw [hx]; simp
    have hcs := hx_ c (by rw [hx]; simp)
    simp only [spec_l09Insert.l0, pre_lt hx, pre_0, if_true, at_preLQS hx, pre_w hx hs, Option.bind_some, Int.toNat_natCast, List.nil_append, List.length_nil, List.length_singleton, List.length_append, ht, hd, List.length_cons]
    refine Ev.bind (specCompareQ_ev c x hcs) ?_
    rw [addL]
    by_cases h1 : cmpSQ c x < 0
    · rw [if_pos h1]
      refine Ev.pos h1 (Ev.of_eq (ih () trivial) ?_)
      simp
    · rw [if_neg h1]
      refine Ev.neg h1 (Ev.bind (specCompareQ_ev c x hcs) ?_)
      by_cases h2 : cmpSQ c x = 0
      · exact Ev.pos h2 (Ev.of_eq (Ev.now _) (by rw [if_pos h2]; exact hx))
      · refine Ev.neg h2 (Ev.pos (by omega) (Ev.pos (by omega) (Ev.pos (by omega) (Ev.pos (by omega) (Ev.of_eq (Ev.now _) ?_)))))
        rw [if_neg h2]
        simp
def sameQ (a b : Cube) : Bool := decide (a.f0 = b.f0) && (decide (a.f1 = b.f1) && decide (a.f2 = b.f2))
theorem sameQ_iff {a b : Cube} : sameQ a b = true ↔ a = b := by
  obtain ⟨a0, a1, a2⟩ := a
  obtain ⟨b0, b1, b2⟩ := b
  simp [sameQ]
def idxFQ : List Cube → Cube → Int → Int
  | [], _, _ => -1
  | a :: r, c, i => if sameQ a c = true then i else idxFQ r c (i + 1)
def idxQ (l : List Cube) (c : Cube) : Int := idxFQ l c 0
theorem specIndexQ_ev (l : List Cube) (c : Cube) (hs : small l) : Ev (fun k => spec_l09Index.f k l c.f0 c.f1 c.f2) (idxQ l c) := by
  unfold spec_l09Index.f
  refine loop_list l (fun k i (_ : Unit) => spec_l09Index.l0 k l i c.f0 c.f1 c.f2) (fun pre suf _ => idxFQ suf c (pre.length : Int)) (fun _ _ => True) ?_ ?_ () trivial
  · intro _ _
    simp only [spec_l09Index.l0, len_lt, if_false]
    exact Ev.now _
  · intro pre d suf _ hx _ ih
    simp only [spec_l09Index.l0, pre_lt hx, pre_0, if_true, at_preQ hx, pre_w hx hs, idxFQ]
    have e : (d.f0 == c.f0 && (d.f1 == c.f1 && d.f2 == c.f2)) = sameQ d c := by simp [sameQ, BEq.beq]
    rw [e]
    refine Ev.if_ (fun _ => Ev.now _) (fun _ => Ev.of_eq (ih () trivial) ?_)
    simp
theorem implIndexQ_ev (l : List Cube) (c : Cube) (hs : small l) : Ev (fun k => impl_Cube_52.f k l c.f0 c.f1 c.f2) (idxQ l c) := by
  unfold impl_Cube_52.f
  refine loop_list l (fun k i (_ : Unit) => impl_Cube_52.l0 k l (l.length : Int) i c.f0 c.f1 c.f2) (fun pre suf _ => idxFQ suf c (pre.length : Int)) (fun _ _ => True) ?_ ?_ () trivial
  · intro _ _
    simp only [impl_Cube_52.l0, len_lt, if_false]
    exact Ev.now _
  · intro pre d suf _ hx _ ih
    simp only [impl_Cube_52.l0, pre_lt hx, pre_0, if_true, at_preQ hx, pre_w hx hs, idxFQ]
    have e : (c.f0 == d.f0 && (c.f1 == d.f1 && c.f2 == d.f2)) = sameQ d c := by
      rw [Bool.eq_iff_iff]
      simp only [sameQ, Bool.and_eq_true, beq_iff_eq, decide_eq_true_eq]
      constructor <;> (rintro ⟨h, h', h''⟩; exact ⟨h.symm, h'.symm, h''.symm⟩)
    rw [e]
    refine Ev.if_ (fun _ => Ev.now _) (fun _ => Ev.of_eq (ih () trivial) ?_)
    simp
theorem implContainsQ_ev (l : List Cube) (c : Cube) (hs : small l) : Ev (fun k => impl_Cube_35.f k l c.f0 c.f1 c.f2) (decide (idxQ l c ≥ 0)) := by
  unfold impl_Cube_35.f
  exact Ev.bind (implIndexQ_ev l c hs) (Ev.now _)
def stepsQ : List Cube := [⟨0, 0, -1⟩, ⟨0, -1, 0⟩, ⟨-1, 0, 0⟩, ⟨1, 0, 0⟩, ⟨0, 1, 0⟩, ⟨0, 0, 1⟩]
theorem steps_eq : spec_l09Steps.f = some stepsQ := rfl
def addQ (c d : Cube) : Cube := ⟨wrap64 (c.f0 + d.f0), wrap64 (c.f1 + d.f1), wrap64 (c.f2 + d.f2)⟩
def nbQ (c : Cube) : List Cube := [⟨c.f0, c.f1, wrap64 (c.f2 - 1)⟩, ⟨c.f0, wrap64 (c.f1 - 1), c.f2⟩, ⟨wrap64 (c.f0 - 1), c.f1, c.f2⟩, ⟨wrap64 (c.f0 + 1), c.f1, c.f2⟩, ⟨c.f0, wrap64 (c.f1 + 1), c.f2⟩, ⟨c.f0, c.f1, wrap64 (c.f2 + 1)⟩]
theorem nbQ_len (c : Cube) : (nbQ c).length = 6 := rfl
theorem implAroundQ_eq (c : Cube) : impl_cubesAround.f c.f0 c.f1 c.f2 = some (nbQ c) := rfl
theorem steps_nb {c : Cube} (h : okQ c) : stepsQ.map (addQ c) = nbQ c := by
  obtain ⟨x, y, z⟩ := c
  unfold okQ ok1 at h
  simp only at h
  have w (n : Int) (h0 : -1000 ≤ n) (h1 : n ≤ 1000) : wrap64 n = n := w64 (by omega) (by omega)
  simp only [stepsQ, nbQ, addQ, List.map_cons, List.map_nil, Int.add_zero]
  rw [w x (by omega) (by omega), w y (by omega) (by omega), w z (by omega) (by omega)]
  simp [Int.sub_eq_add_neg]
def freeQ (s l : List Cube) : List Cube := l.filter fun d => decide (idxQ s d < 0)
def normS (s : List Cube) (d : Cube) : List Cube := normalQ (sortC (s ++ [d]))
def moreQ (s : List Cube) : List (List Cube) := s.flatMap fun c => (freeQ s (nbQ c)).map (normS s)
def nextQ (l : List (List Cube)) : List (List Cube) := (l.flatMap moreQ).foldl addL []
def allQ : Nat → List (List Cube) → List (List Cube)
  | 0, l => l
  | n + 1, l => allQ n (nextQ l)
theorem foldAdd_asc : ∀ (xs acc : List (List Cube)), asc acc → asc (xs.foldl addL acc)
  | [], _, h => h
  | x :: r, acc, h => foldAdd_asc r _ (addL_asc h)
theorem foldAdd_mem : ∀ (xs acc : List (List Cube)) (y : List Cube), y ∈ xs.foldl addL acc ↔ y ∈ xs ∨ y ∈ acc
  | [], acc, y => by simp
  | x :: r, acc, y => by
    rw [List.foldl_cons, foldAdd_mem r, addL_mem, List.mem_cons]
    constructor
    · rintro (h | h | h)
      · exact .inl (.inr h)
      · exact .inl (.inl h)
      · exact .inr h
    · rintro ((h | h) | h)
      · exact .inr (.inl h)
      · exact .inl h
      · exact .inr (.inr h)
theorem foldAdd_len : ∀ (xs acc : List (List Cube)), (xs.foldl addL acc).length ≤ acc.length + xs.length
  | [], acc => by simp
  | x :: r, acc => by
    have h1 := foldAdd_len r (addL acc x)
    have h2 := addL_len acc x
    rw [List.foldl_cons, List.length_cons]
    omega
theorem tidy_next (l : List (List Cube)) : tidyL (l.flatMap moreQ) = nextQ l := by
  refine asc_eq _ _ (tidyL_asc _) (foldAdd_asc _ _ List.Pairwise.nil) fun x => ?_
  rw [tidyL_mem]
  unfold nextQ
  rw [foldAdd_mem]
  simp
structure GoodQ (m : Int) (n : Nat) (s : List Cube) : Prop where
  len : s.length = n
  pos : 0 < n
  box : ∀ c ∈ s, (0 ≤ c.f0 ∧ c.f0 ≤ m) ∧ (0 ≤ c.f1 ∧ c.f1 ≤ m) ∧ (0 ≤ c.f2 ∧ c.f2 ≤ m)
theorem GoodQ.ok {m : Int} {n : Nat} {s : List Cube} (h : GoodQ m n s) (hm : m ≤ 20) : ∀ c ∈ s, okQ c := fun c hc => by
  have := h.box c hc
  unfold okQ ok1
  omega
theorem minQ_box {a b : Int} : ∀ (l : List Cube) (z : Int × Int × Int), (∀ c ∈ l, (a ≤ c.f0 ∧ c.f0 ≤ b) ∧ (a ≤ c.f1 ∧ c.f1 ≤ b) ∧ (a ≤ c.f2 ∧ c.f2 ≤ b)) → (a ≤ z.1 ∧ z.1 ≤ b) ∧ (a ≤ z.2.1 ∧ z.2.1 ≤ b) ∧ (a ≤ z.2.2 ∧ z.2.2 ≤ b) →
    ((a ≤ (minQ z l).1 ∧ (minQ z l).1 ≤ z.1) ∧ (a ≤ (minQ z l).2.1 ∧ (minQ z l).2.1 ≤ z.2.1) ∧ (a ≤ (minQ z l).2.2 ∧ (minQ z l).2.2 ≤ z.2.2)) ∧ ∀ c ∈ l, (minQ z l).1 ≤ c.f0 ∧ (minQ z l).2.1 ≤ c.f1 ∧ (minQ z l).2.2 ≤ c.f2
  | [], z, _, hz => by
    refine ⟨?_, fun c hc => by simp at hc⟩
    simp only [minQ, List.foldl_nil]
    omega
  | d :: r, z, h, hz => by
    have hd := h d List.mem_cons_self
    have e : minQ z (d :: r) = minQ (mn z.1 d.f0, mn z.2.1 d.f1, mn z.2.2 d.f2) r := rfl
    have hm (x y : Int) : mn x y ≤ x ∧ mn x y ≤ y ∧ (mn x y = x ∨ mn x y = y) := by unfold mn; split <;> omega
    have m0 := hm z.1 d.f0
    have m1 := hm z.2.1 d.f1
    have m2 := hm z.2.2 d.f2
    have ih := minQ_box r (mn z.1 d.f0, mn z.2.1 d.f1, mn z.2.2 d.f2) (fun c hc => h c (List.mem_cons_of_mem _ hc)) (by simp only; omega)
    rw [e]
    simp only at ih
    refine ⟨by omega, fun c hc => ?_⟩
    rcases List.mem_cons.1 hc with rfl | hc
    · omega
    · exact ih.2 c hc
theorem leastQ_box {a b : Int} {l : List Cube} (h0 : l ≠ []) (h : ∀ c ∈ l, (a ≤ c.f0 ∧ c.f0 ≤ b) ∧ (a ≤ c.f1 ∧ c.f1 ≤ b) ∧ (a ≤ c.f2 ∧ c.f2 ≤ b)) :
    ((a ≤ (leastQ l).1 ∧ (leastQ l).1 ≤ b) ∧ (a ≤ (leastQ l).2.1 ∧ (leastQ l).2.1 ≤ b) ∧ (a ≤ (leastQ l).2.2 ∧ (leastQ l).2.2 ≤ b)) ∧ ∀ c ∈ l, (leastQ l).1 ≤ c.f0 ∧ (leastQ l).2.1 ≤ c.f1 ∧ (leastQ l).2.2 ≤ c.f2 := by
  cases l with
  | nil => exact absurd rfl h0
  | cons d r =>
    have hd := h d List.mem_cons_self
    have key := minQ_box (a := a) (b := b) r (d.f0, d.f1, d.f2) (fun c hc => h c (List.mem_cons_of_mem _ hc)) hd
    simp only at key
    show ((a ≤ (minQ (d.f0, d.f1, d.f2) r).1 ∧ _) ∧ _) ∧ _
    have e : leastQ (d :: r) = minQ (d.f0, d.f1, d.f2) r := rfl
    rw [e]
    refine ⟨by omega, fun c hc => ?_⟩
    rcases List.mem_cons.1 hc with rfl | hc
    · omega
    · exact key.2 c hc
theorem nb_box {m : Int} (hm : 0 ≤ m ∧ m ≤ 20) {c d : Cube} (hc : (0 ≤ c.f0 ∧ c.f0 ≤ m) ∧ (0 ≤ c.f1 ∧ c.f1 ≤ m) ∧ (0 ≤ c.f2 ∧ c.f2 ≤ m)) (hd : d ∈ nbQ c) : (-1 ≤ d.f0 ∧ d.f0 ≤ m + 1) ∧ (-1 ≤ d.f1 ∧ d.f1 ≤ m + 1) ∧ (-1 ≤ d.f2 ∧ d.f2 ≤ m + 1) := by
  have w (n : Int) (h0 : -1000 ≤ n) (h1 : n ≤ 1000) : wrap64 n = n := w64 (by omega) (by omega)
  unfold nbQ at hd
  simp only [List.mem_cons, List.not_mem_nil, or_false] at hd
  rcases hd with rfl | rfl | rfl | rfl | rfl | rfl <;> simp only <;> (rw [w _ (by omega) (by omega)]; omega)
theorem good_more {m : Int} {n : Nat} {s x : List Cube} (h : GoodQ m n s) (hm : 0 ≤ m ∧ m ≤ 20) (hx : x ∈ moreQ s) : GoodQ (m + 2) (n + 1) x := by
  obtain ⟨c, hc, hx⟩ := List.mem_flatMap.1 hx
  obtain ⟨d, hd, rfl⟩ := List.mem_map.1 hx
  have hd' := (List.mem_filter.1 hd).1
  have hb := nb_box hm (h.box c hc) hd'
  have hall : ∀ e ∈ sortC (s ++ [d]), (-1 ≤ e.f0 ∧ e.f0 ≤ m + 1) ∧ (-1 ≤ e.f1 ∧ e.f1 ≤ m + 1) ∧ (-1 ≤ e.f2 ∧ e.f2 ≤ m + 1) := fun e he => by
    have he' := (sortQ_perm _).mem_iff.1 he
    rcases List.mem_append.1 he' with he' | he'
    · have := h.box e he'; omega
    · rw [List.mem_singleton.1 he']; exact hb
  have hne : sortC (s ++ [d]) ≠ [] := by
    intro e
    have := sortQ_len (s ++ [d])
    rw [e] at this
    simp at this
  obtain ⟨h1, h2⟩ := leastQ_box hne hall
  refine ⟨by unfold normS; rw [normalQ_len, sortQ_len, List.length_append, List.length_singleton, h.len], by omega, fun e he => ?_⟩
  unfold normS normalQ moveQ at he
  obtain ⟨f, hf, rfl⟩ := List.mem_map.1 he
  have h3 := hall f hf
  have h4 := h2 f hf
  have w (n : Int) (h0 : -1000 ≤ n) (h1 : n ≤ 1000) : wrap64 n = n := w64 (by omega) (by omega)
  simp only
  rw [w _ (by omega) (by omega), w _ (by omega) (by omega), w _ (by omega) (by omega)]
  omega
theorem good_next {m : Int} {n : Nat} {l : List (List Cube)} (h : ∀ s ∈ l, GoodQ m n s) (hm : 0 ≤ m ∧ m ≤ 20) : ∀ x ∈ nextQ l, GoodQ (m + 2) (n + 1) x := fun x hx => by
  unfold nextQ at hx
  rw [foldAdd_mem] at hx
  rcases hx with hx | hx
  · obtain ⟨s, hs, hx⟩ := List.mem_flatMap.1 hx
    exact good_more (h s hs) hm hx
  · simp at hx
theorem freeQ_len (s l : List Cube) : (freeQ s l).length ≤ l.length := List.length_filter_le _ _
theorem flatQ_len {α β : Type} (f : α → List β) (q : Nat) : ∀ l : List α, (∀ a ∈ l, (f a).length ≤ q) → (l.flatMap f).length ≤ l.length * q
  | [], _ => by simp
  | a :: r, h => by
    have h1 := flatQ_len f q r fun b hb => h b (List.mem_cons_of_mem _ hb)
    have h2 := h a List.mem_cons_self
    rw [List.flatMap_cons, List.length_append, List.length_cons, Nat.add_mul, Nat.one_mul]
    omega
theorem moreQ_len (s : List Cube) : (moreQ s).length ≤ s.length * 6 := flatQ_len _ 6 s fun c _ => by
  rw [List.length_map]
  exact freeQ_len s (nbQ c)
theorem nextQ_len {n : Nat} {l : List (List Cube)} (h : ∀ s ∈ l, s.length = n) : (nextQ l).length ≤ l.length * (n * 6) := by
  have h1 := foldAdd_len (l.flatMap moreQ) []
  have h2 := flatQ_len moreQ (n * 6) l fun s hs => by have := moreQ_len s; rw [h s hs] at this; exact this
  unfold nextQ
  simp only [List.length_nil, Nat.zero_add] at h1
  omega
theorem allQ_good : ∀ (q : Nat) (m : Int) (n : Nat) (l : List (List Cube)), (∀ s ∈ l, GoodQ m n s) → 0 ≤ m → m + q * 2 ≤ 20 → ∀ x ∈ allQ q l, GoodQ (m + q * 2) (n + q) x
  | 0, m, n, l, h, _, _ => by simpa [allQ] using h
  | q + 1, m, n, l, h, h0, h1 => by
    intro x hx
    have := allQ_good q (m + 2) (n + 1) (nextQ l) (good_next h (by omega)) (by omega) (by omega) x hx
    have e1 : m + 2 + (q : Int) * 2 = m + ((q + 1 : Nat) : Int) * 2 := by omega
    have e2 : n + 1 + q = n + (q + 1) := by omega
    rw [e1, e2] at this
    exact this
theorem allQ_asc : ∀ (q : Nat) (l : List (List Cube)), asc l → asc (allQ q l)
  | 0, _, h => h
  | q + 1, l, _ => allQ_asc q _ (foldAdd_asc _ _ List.Pairwise.nil)
theorem specAllQ_3 (N x4 i j : Int) (now : List (List Cube)) (s : List Cube) (hs : s.length ≤ 63) (hi0 : 0 ≤ i) (hi1 : i < (now.length : Int)) (hrd : rd_L2 now i = s) (c : Cube) (hj0 : 0 ≤ j) (hj1 : j < (s.length : Int)) (hrc : rd_T43 s j = c) {r : List (List Cube)} : ∀ (suf pre : List Cube) (next : List (List Cube)), stepsQ = pre ++ suf → next.length + suf.length ≤ 900000000 → (∀ y ∈ next, y.length ≤ 64) →
    Ev (fun k => spec_l09All.l2 k N now x4 (((freeQ s (suf.map (addQ c))).map (normS s)).foldl addL next) i (wrap64 (j + 1))) r → Ev (fun k => spec_l09All.l3 k N now x4 next i j (pre.length : Int)) r
  | [], pre, next, hx, hl, hn, hc => by
    refine Ev.succ ?_
    rw [List.append_nil] at hx
    subst hx
    simp only [spec_l09All.l3]
    exact Ev.neg (by simp [stepsQ]) (by simpa [freeQ] using hc)
  | d :: suf, pre, next, hx, hl, hn, hc => by
    refine Ev.succ ?_
    have hsm : small stepsQ := by unfold small; simp [stepsQ]
    have h6 : stepsQ.length = 6 := rfl
    have hp := pre_len hx
    simp only [List.length_cons] at hl
    have hi (next' : List (List Cube)) (ho : next'.length + suf.length ≤ 900000000) (hn' : ∀ y ∈ next', y.length ≤ 64) (hc' : Ev (fun k => spec_l09All.l2 k N now x4 (((freeQ s (suf.map (addQ c))).map (normS s)).foldl addL next') i (wrap64 (j + 1))) r) := specAllQ_3 N x4 i j now s hs hi0 hi1 hrd c hj0 hj1 hrc suf (pre ++ [d]) next' (by rw [hx]; simp) ho hn' hc'
    simp only [List.length_append, List.length_singleton, Int.natCast_add] at hi
    have hl6 : ((pre.length : Int) < 6) := by omega
    simp only [spec_l09All.l3, steps_eq, Option.bind_some, pre_lt hx, pre_0, if_true, at_preQ hx, pre_w hx hsm, hrd, hrc, List.nil_append, List.length_nil, List.length_singleton]
    refine Ev.pos hl6 (Ev.pos hi0 (Ev.pos hi1 (Ev.pos hj0 (Ev.pos hj1 ?_))))
    refine Ev.bind0 (a := (wrap64 (c.f0 + d.f0), wrap64 (c.f1 + d.f1), wrap64 (c.f2 + d.f2))) rfl ?_
    refine Ev.bind (specIndexQ_ev s (addQ c d) (by unfold small; omega)) ?_
    by_cases hm : idxQ s (addQ c d) < 0
    · refine Ev.pos hm (Ev.pos (by omega) (Ev.pos (by omega) (Ev.bind (specSortQ_ev (s ++ [addQ c d]) (by simp; omega)) (Ev.bind (specNormalQ_ev (sortC (s ++ [addQ c d])) (by rw [sortQ_len]; simp; omega) (by rw [sortQ_len]; simp)) ?_))))
      have hnl : (normS s (addQ c d)).length = s.length + 1 := by unfold normS; rw [normalQ_len, sortQ_len]; simp
      have hal := addL_len next (normS s (addQ c d))
      refine Ev.bind (specAdd_ev next (normS s (addQ c d)) (by omega) (fun y hy => by have := hn y hy; unfold small; omega)) (hi _ (by omega) (fun y hy => ?_) ?_)
      · rcases addL_mem.1 hy with rfl | hy
        · omega
        · exact hn y hy
      · have : freeQ s ((d :: suf).map (addQ c)) = addQ c d :: freeQ s (suf.map (addQ c)) := by simp [freeQ, hm]
        rw [this] at hc
        simpa using hc
    · refine Ev.neg hm (hi next (by omega) hn ?_)
      have : freeQ s ((d :: suf).map (addQ c)) = freeQ s (suf.map (addQ c)) := by simp [freeQ, hm]
      rw [this] at hc
      exact hc
theorem foldAdd_le {n : Nat} {xs acc : List (List Cube)} (h : ∀ y ∈ xs, y.length ≤ n) (h' : ∀ y ∈ acc, y.length ≤ n) : ∀ y ∈ xs.foldl addL acc, y.length ≤ n := fun y hy => by
  rcases (foldAdd_mem xs acc y).1 hy with hy | hy
  · exact h y hy
  · exact h' y hy
theorem normS_len (s : List Cube) (d : Cube) : (normS s d).length = s.length + 1 := by unfold normS; rw [normalQ_len, sortQ_len]; simp
theorem specAllQ_2 {m : Int} {n : Nat} (N x4 i : Int) (now : List (List Cube)) (s : List Cube) (h : GoodQ m n s) (hm : 0 ≤ m ∧ m ≤ 20) (hs : s.length ≤ 63) (hi0 : 0 ≤ i) (hi1 : i < (now.length : Int)) (hrd : rd_L2 now i = s) {r : List (List Cube)} : ∀ (suf pre : List Cube) (next : List (List Cube)), s = pre ++ suf → next.length + suf.length * 6 ≤ 800000000 → (∀ y ∈ next, y.length ≤ 64) →
    Ev (fun k => spec_l09All.l1 k N now x4 ((suf.flatMap fun c => (freeQ s (nbQ c)).map (normS s)).foldl addL next) (wrap64 (i + 1))) r → Ev (fun k => spec_l09All.l2 k N now x4 next i (pre.length : Int)) r
  | [], pre, next, hx, hl, hn, hc => by
    refine Ev.succ ?_
    rw [List.append_nil] at hx
    subst hx
    simp only [spec_l09All.l2, hrd]
    exact Ev.pos hi0 (Ev.pos hi1 (Ev.neg (by omega) (by simpa using hc)))
  | c :: suf, pre, next, hx, hl, hn, hc => by
    refine Ev.succ ?_
    have hsm : small s := by unfold small; omega
    simp only [List.length_cons] at hl
    have hcs : c ∈ s := by rw [hx]; simp
    have hp := pre_len hx
    simp only [spec_l09All.l2, hrd]
    refine Ev.pos hi0 (Ev.pos hi1 ?_)
    simp only [pre_lt hx, if_true]
    refine specAllQ_3 N x4 i (pre.length : Int) now s hs hi0 hi1 hrd c (by omega) (by omega) (at_preQ hx) stepsQ [] next rfl (by simp [stepsQ]; omega) hn ?_
    rw [pre_w hx hsm, steps_nb (h.ok hm.2 c hcs)]
    have hfl := foldAdd_len ((freeQ s (nbQ c)).map (normS s)) next
    rw [List.length_map] at hfl
    have hfr := freeQ_len s (nbQ c)
    have h6 := nbQ_len c
    have hn' : ∀ y ∈ ((freeQ s (nbQ c)).map (normS s)).foldl addL next, y.length ≤ 64 := foldAdd_le (fun y hy => by
      obtain ⟨d, _, rfl⟩ := List.mem_map.1 hy
      rw [normS_len]; omega) hn
    have hi := specAllQ_2 N x4 i now s h hm hs hi0 hi1 hrd suf (pre ++ [c]) (((freeQ s (nbQ c)).map (normS s)).foldl addL next) (by rw [hx]; simp) (by omega) hn' (by simpa using hc)
    simp only [List.length_append, List.length_singleton, Int.natCast_add] at hi
    exact hi
theorem moreQ_le {s : List Cube} (hs : s.length ≤ 63) : ∀ y ∈ moreQ s, y.length ≤ 64 := fun y hy => by
  obtain ⟨c, _, hy⟩ := List.mem_flatMap.1 hy
  obtain ⟨d, _, rfl⟩ := List.mem_map.1 hy
  rw [normS_len]; omega
theorem specAllQ_1 {m : Int} {n : Nat} (N x4 : Int) (now : List (List Cube)) (h : ∀ s ∈ now, GoodQ m n s) (hm : 0 ≤ m ∧ m ≤ 20) (hn : n ≤ 6) (hnl : now.length ≤ 20000000) {r : List (List Cube)} : ∀ (suf pre : List (List Cube)) (next : List (List Cube)), now = pre ++ suf → next.length + suf.length * 36 ≤ 720000000 → (∀ y ∈ next, y.length ≤ 64) →
    Ev (fun k => spec_l09All.l0 k N ((suf.flatMap moreQ).foldl addL next) (wrap64 (x4 + 1))) r → Ev (fun k => spec_l09All.l1 k N now x4 next (pre.length : Int)) r
  | [], pre, next, hx, hl, hy, hc => by
    refine Ev.succ ?_
    rw [List.append_nil] at hx
    subst hx
    simp only [spec_l09All.l1]
    exact Ev.neg (by omega) (by simpa using hc)
  | s :: suf, pre, next, hx, hl, hy, hc => by
    refine Ev.succ ?_
    have hsm : small now := by unfold small; omega
    simp only [List.length_cons] at hl
    have hs : s ∈ now := by rw [hx]; simp
    have hg := h s hs
    have hgl := hg.len
    have hp := pre_len hx
    simp only [spec_l09All.l1, pre_lt hx, if_true]
    refine specAllQ_2 N x4 (pre.length : Int) now s hg hm (by omega) (by omega) (by omega) (at_preLQS hx) s [] next rfl (by omega) hy ?_
    rw [pre_w hx hsm]
    have hml := moreQ_len s
    have hfl := foldAdd_len (moreQ s) next
    have hi := specAllQ_1 N x4 now h hm hn hnl suf (pre ++ [s]) ((moreQ s).foldl addL next) (by rw [hx]; simp) (by omega) (foldAdd_le (moreQ_le (by omega)) hy) (by simpa using hc)
    simp only [List.length_append, List.length_singleton, Int.natCast_add] at hi
    exact hi
theorem specAllQ_q (N : Nat) (hN : N ≤ 6) : ∀ (q i : Nat) (m : Int) (n : Nat) (now : List (List Cube)), i + q = N → (∀ s ∈ now, GoodQ m n s) → 0 ≤ m → m + q * 2 ≤ 20 → n + q ≤ 6 → now.length * 36 ^ q ≤ 2000000 →
    Ev (fun k => spec_l09All.l0 k (N : Int) now (i : Int)) (allQ q now)
  | 0, i, m, n, now, hi, h, h0, h1, h2, h4 => by
    refine Ev.succ ?_
    simp only [spec_l09All.l0]
    exact Ev.neg (by omega) (Ev.now _)
  | q + 1, i, m, n, now, hi, h, h0, h1, h2, h4 => by
    have e36 : 36 ^ (q + 1) = 36 ^ q * 36 := Nat.pow_succ ..
    have e1 : 0 < 36 ^ q := Nat.pow_pos (by omega)
    have hnl : now.length * 36 ≤ 2000000 := Nat.le_trans (Nat.mul_le_mul_left _ (by rw [e36]; omega)) h4
    have ew : wrap64 ((i : Int) + 1) = ((i + 1 : Nat) : Int) := by rw [w64 (by omega) (by omega)]; omega
    have hg := good_next h (by omega : 0 ≤ m ∧ m ≤ 20)
    have hnx : (nextQ now).length ≤ now.length * 36 := Nat.le_trans (nextQ_len (n := n) fun s hs => (h s hs).len) (Nat.mul_le_mul_left _ (by omega))
    have hb : (nextQ now).length * 36 ^ q ≤ 2000000 := by
      refine Nat.le_trans (Nat.mul_le_mul_right _ hnx) ?_
      rw [Nat.mul_assoc, Nat.mul_comm 36, ← e36]
      exact h4
    refine Ev.succ ?_
    simp only [spec_l09All.l0]
    refine Ev.pos (by omega) (specAllQ_1 (N : Int) (i : Int) now h (by omega) (by omega) (by omega) now [] [] rfl (by simp; omega) (by simp) ?_)
    rw [ew]
    exact specAllQ_q N hN q (i + 1) (m + 2) (n + 1) _ (by omega) hg (by omega) (by omega) (by omega) hb
theorem implAllQ_3 (x16 x17 x22 x28 : Int) (now : List (List Cube)) (x21 : Int) (s : List Cube) (hs : s.length ≤ 63) (x27 : Int) (arr : List Cube) (ha : arr.length ≤ 64) {r : List (List Cube)} : ∀ (suf pre : List Cube) (acc : List (List Cube)), arr = pre ++ suf → acc.length + suf.length ≤ 900000000 →
    Ev (fun k => impl_allSolids.l2 k (acc ++ (freeQ s suf).map (normS s)) s x16 x17 now x21 x22 s x27 (wrap64 (x28 + 1))) r → Ev (fun k => impl_allSolids.l3 k acc s x16 x17 now x21 x22 s x27 x28 arr (arr.length : Int) (pre.length : Int)) r
  | [], pre, acc, hx, hl, hc => by
    refine Ev.succ ?_
    rw [List.append_nil] at hx
    subst hx
    simp only [impl_allSolids.l3]
    exact Ev.neg (by omega) (by simpa [freeQ] using hc)
  | d :: suf, pre, acc, hx, hl, hc => by
    refine Ev.succ ?_
    have hsm : small arr := by unfold small; omega
    have hp := pre_len hx
    simp only [List.length_cons] at hl
    have hi (acc' : List (List Cube)) (ho : acc'.length + suf.length ≤ 900000000) (hc' : Ev (fun k => impl_allSolids.l2 k (acc' ++ (freeQ s suf).map (normS s)) s x16 x17 now x21 x22 s x27 (wrap64 (x28 + 1))) r) := implAllQ_3 x16 x17 x22 x28 now x21 s hs x27 arr ha suf (pre ++ [d]) acc' (by rw [hx]; simp) ho hc'
    simp only [List.length_append, List.length_singleton, Int.natCast_add] at hi
    simp only [impl_allSolids.l3, pre_lt hx, pre_0, if_true, at_preQ hx, pre_w hx hsm, Option.bind_some, List.length_singleton]
    refine Ev.bind (implContainsQ_ev s d (by unfold small; omega)) ?_
    by_cases hm : idxQ s d < 0
    · have e1 : impl_Cube_36.f s = some s := by
        unfold impl_Cube_36.f
        rw [if_pos (by omega)]
      refine Ev.neg (by simp; omega) (Ev.bind0 e1 ?_)
      refine Ev.pos (by omega) (Ev.bind0 (implSortQ_eq (s ++ [d]) (by simp) (by simp; omega)) (Ev.bind (implNormalQ_ev (sortC (s ++ [d])) (by rw [sortQ_len]; simp; omega) (by rw [sortQ_len]; simp)) (Ev.pos (by omega) (hi _ (by simp; omega) ?_))))
      have : freeQ s (d :: suf) = d :: freeQ s suf := by simp [freeQ, hm]
      rw [this] at hc
      simpa [normS] using hc
    · refine Ev.pos (by simp; omega) (hi acc (by omega) ?_)
      have : freeQ s (d :: suf) = freeQ s suf := by simp [freeQ, hm]
      rw [this] at hc
      exact hc
theorem implAllQ_2 (x16 x17 x22 : Int) (now : List (List Cube)) (x21 : Int) (s : List Cube) (hs : s.length ≤ 63) {r : List (List Cube)} : ∀ (suf pre : List Cube) (acc : List (List Cube)), s = pre ++ suf → acc.length + suf.length * 6 ≤ 800000000 →
    Ev (fun k => impl_allSolids.l1 k (acc ++ suf.flatMap fun c => (freeQ s (nbQ c)).map (normS s)) x16 x17 now x21 (wrap64 (x22 + 1))) r → Ev (fun k => impl_allSolids.l2 k acc s x16 x17 now x21 x22 s (s.length : Int) (pre.length : Int)) r
  | [], pre, acc, hx, hl, hc => by
    refine Ev.succ ?_
    have hp : s.length = pre.length := by rw [hx]; simp
    simp only [impl_allSolids.l2]
    exact Ev.neg (by omega) (by simpa using hc)
  | c :: suf, pre, acc, hx, hl, hc => by
    refine Ev.succ ?_
    have hsm : small s := by unfold small; omega
    simp only [List.length_cons] at hl
    have hp := pre_len hx
    simp only [impl_allSolids.l2, pre_lt hx, pre_0, if_true, at_preQ hx]
    refine Ev.bind0 (implAroundQ_eq c) ?_
    refine implAllQ_3 x16 x17 x22 (pre.length : Int) now x21 s hs (s.length : Int) (nbQ c) (by rw [nbQ_len]; omega) (nbQ c) [] acc rfl (by rw [nbQ_len]; omega) ?_
    rw [pre_w hx hsm]
    have hfr := freeQ_len s (nbQ c)
    have h6 := nbQ_len c
    have hi := implAllQ_2 x16 x17 x22 now x21 s hs suf (pre ++ [c]) (acc ++ (freeQ s (nbQ c)).map (normS s)) (by rw [hx]; simp) (by rw [List.length_append, List.length_map]; omega) (by simpa using hc)
    simp only [List.length_append, List.length_singleton, Int.natCast_add] at hi
    exact hi
theorem implAllQ_1 {m : Int} {n : Nat} (x16 x17 : Int) (now : List (List Cube)) (h : ∀ s ∈ now, GoodQ m n s) (hn : n ≤ 6) (hnl : now.length ≤ 20000000) {r : List (List Cube)} : ∀ (suf pre : List (List Cube)) (acc : List (List Cube)), now = pre ++ suf → acc.length + suf.length * 36 ≤ 720000000 → 0 < (acc ++ suf.flatMap moreQ).length →
    Ev (fun k => impl_allSolids.l0 k (tidyL (acc ++ suf.flatMap moreQ)) x16 (wrap64 (x17 + 1))) r → Ev (fun k => impl_allSolids.l1 k acc x16 x17 now (now.length : Int) (pre.length : Int)) r
  | [], pre, acc, hx, hl, h0, hc => by
    refine Ev.succ ?_
    have hp : now.length = pre.length := by rw [hx]; simp
    simp only [List.flatMap_nil, List.append_nil] at h0 hc
    simp only [impl_allSolids.l1]
    have hsl : (sortS acc).length = acc.length := (List.mergeSort_perm _ _).length_eq
    refine Ev.neg (by omega) (Ev.bind0 (implSortS_eq acc h0 (by omega)) (Ev.bind0 (implCompS_eq (sortS acc) (by omega) (by omega)) hc))
  | s :: suf, pre, acc, hx, hl, h0, hc => by
    refine Ev.succ ?_
    have hsm : small now := by unfold small; omega
    simp only [List.length_cons] at hl
    have hs : s ∈ now := by rw [hx]; simp
    have hgl := (h s hs).len
    have hp := pre_len hx
    simp only [impl_allSolids.l1, pre_lt hx, pre_0, if_true, at_preLQS hx]
    refine implAllQ_2 x16 x17 (pre.length : Int) now (now.length : Int) s (by omega) s [] acc rfl (by omega) ?_
    rw [pre_w hx hsm]
    have hml := moreQ_len s
    have e : acc ++ (s :: suf).flatMap moreQ = (acc ++ moreQ s) ++ suf.flatMap moreQ := by simp
    rw [e] at h0 hc
    have hi := implAllQ_1 x16 x17 now h hn hnl suf (pre ++ [s]) (acc ++ moreQ s) (by rw [hx]; simp) (by rw [List.length_append]; omega) h0 hc
    simp only [List.length_append, List.length_singleton, Int.natCast_add] at hi
    exact hi
theorem idxFQ_in : ∀ (l : List Cube) (c : Cube) (i : Int), 0 ≤ i → (0 ≤ idxFQ l c i ↔ c ∈ l)
  | [], c, i, _ => by simp [idxFQ]
  | a :: r, c, i, hi => by
    rw [idxFQ]
    by_cases h : sameQ a c = true
    · rw [if_pos h]
      simp [sameQ_iff.1 h, hi]
    · rw [if_neg h, idxFQ_in r c (i + 1) (by omega), List.mem_cons]
      have hne : ¬ c = a := fun e => h (sameQ_iff.2 e.symm)
      simp [hne]
theorem idxQ_in (l : List Cube) (c : Cube) : 0 ≤ idxQ l c ↔ c ∈ l := idxFQ_in l c 0 (by omega)
theorem maxQ : ∀ (l : List Cube), l ≠ [] → ∃ c ∈ l, ∀ d ∈ l, d.f0 ≤ c.f0
  | [], h => absurd rfl h
  | [a], _ => ⟨a, by simp, fun d hd => by rw [List.mem_singleton.1 hd]; omega⟩
  | a :: b :: r, _ => by
    obtain ⟨c, hc, h⟩ := maxQ (b :: r) (by simp)
    by_cases hac : a.f0 ≤ c.f0
    · refine ⟨c, List.mem_cons_of_mem _ hc, fun d hd => ?_⟩
      rcases List.mem_cons.1 hd with rfl | hd
      · exact hac
      · exact h d hd
    · refine ⟨a, List.mem_cons_self, fun d hd => ?_⟩
      rcases List.mem_cons.1 hd with rfl | hd
      · omega
      · have := h d hd; omega
theorem more_pos {m : Int} {n : Nat} {s : List Cube} (h : GoodQ m n s) (hm : 0 ≤ m ∧ m ≤ 20) : 0 < (moreQ s).length := by
  have hne : s ≠ [] := by
    intro e
    have h1 := h.len
    have h2 := h.pos
    rw [e] at h1
    simp at h1
    omega
  obtain ⟨c, hc, hmax⟩ := maxQ s hne
  have hb := h.box c hc
  have hw : wrap64 (c.f0 + 1) = c.f0 + 1 := w64 (by omega) (by omega)
  have hd : (⟨c.f0 + 1, c.f1, c.f2⟩ : Cube) ∈ nbQ c := by unfold nbQ; rw [hw]; simp
  have hf : (⟨c.f0 + 1, c.f1, c.f2⟩ : Cube) ∈ freeQ s (nbQ c) := by
    refine List.mem_filter.2 ⟨hd, decide_eq_true ?_⟩
    have : ¬ 0 ≤ idxQ s (⟨c.f0 + 1, c.f1, c.f2⟩ : Cube) := fun h0 => by
      have := hmax _ ((idxQ_in s _).1 h0)
      simp only at this
      omega
    omega
  exact List.length_pos_of_mem (List.mem_flatMap.2 ⟨c, hc, List.mem_map.2 ⟨_, hf, rfl⟩⟩)
theorem implAllQ_q (N : Nat) (hN : N ≤ 6) : ∀ (q i : Nat) (m : Int) (n : Nat) (now : List (List Cube)), i + q = N → (∀ s ∈ now, GoodQ m n s) → 0 ≤ m → m + q * 2 ≤ 20 → n + q ≤ 6 → 0 < now.length → now.length * 36 ^ q ≤ 2000000 →
    Ev (fun k => impl_allSolids.l0 k now (N : Int) (i : Int)) (allQ q now)
  | 0, i, m, n, now, hi, h, h0, h1, h2, h3, h4 => by
    refine Ev.succ ?_
    simp only [impl_allSolids.l0]
    exact Ev.neg (by omega) (Ev.now _)
  | q + 1, i, m, n, now, hi, h, h0, h1, h2, h3, h4 => by
    have e36 : 36 ^ (q + 1) = 36 ^ q * 36 := Nat.pow_succ ..
    have e1 : 0 < 36 ^ q := Nat.pow_pos (by omega)
    have hnl : now.length * 36 ≤ 2000000 := Nat.le_trans (Nat.mul_le_mul_left _ (by rw [e36]; omega)) h4
    have ew : wrap64 ((i : Int) + 1) = ((i + 1 : Nat) : Int) := by rw [w64 (by omega) (by omega)]; omega
    have hg := good_next h (by omega : 0 ≤ m ∧ m ≤ 20)
    have hnx : (nextQ now).length ≤ now.length * 36 := Nat.le_trans (nextQ_len (n := n) fun s hs => (h s hs).len) (Nat.mul_le_mul_left _ (by omega))
    have hb : (nextQ now).length * 36 ^ q ≤ 2000000 := by
      refine Nat.le_trans (Nat.mul_le_mul_right _ hnx) ?_
      rw [Nat.mul_assoc, Nat.mul_comm 36, ← e36]
      exact h4
    obtain ⟨s, hs⟩ := List.exists_mem_of_length_pos h3
    have hsp := more_pos (h s hs) (by omega)
    obtain ⟨x, hx⟩ := List.exists_mem_of_length_pos hsp
    have hfm : x ∈ now.flatMap moreQ := List.mem_flatMap.2 ⟨s, hs, hx⟩
    have hfp : 0 < ([] ++ now.flatMap moreQ).length := by rw [List.nil_append]; exact List.length_pos_of_mem hfm
    have hn0 : 0 < (nextQ now).length := by
      rw [← tidy_next]
      exact List.length_pos_of_mem (tidyL_mem.2 hfm)
    refine Ev.succ ?_
    simp only [impl_allSolids.l0]
    refine Ev.pos (by omega) (implAllQ_1 (N : Int) (i : Int) now h (by omega) (by omega) now [] [] rfl (by simp; omega) hfp ?_)
    rw [ew, List.nil_append, tidy_next]
    exact implAllQ_q N hN q (i + 1) (m + 2) (n + 1) _ (by omega) hg (by omega) (by omega) (by omega) hn0 hb
def oneQ : List (List Cube) := [[⟨0, 0, 0⟩]]
theorem oneQ_good : ∀ s ∈ oneQ, GoodQ 0 1 s := fun s hs => by
  rw [List.mem_singleton.1 hs]
  exact ⟨rfl, by omega, fun c hc => by rw [List.mem_singleton.1 hc]; simp⟩
theorem specAllQ_ev (n : Nat) (h1 : 1 ≤ n) (h2 : n ≤ 4) : Ev (fun k => spec_l09All.f k (n : Int)) (allQ (n - 1) oneQ) := by
  have h36 : 36 ^ (n - 1) ≤ 36 ^ 3 := Nat.pow_le_pow_right (by omega) (by omega)
  unfold spec_l09All.f
  exact specAllQ_q n (by omega) (n - 1) 1 0 1 oneQ (by omega) oneQ_good (by omega) (by omega) (by omega) (by simp [oneQ]; omega)
theorem implAllQ_ev (n : Nat) (h1 : 1 ≤ n) (h2 : n ≤ 4) : Ev (fun k => impl_allSolids.f k (n : Int)) (allQ (n - 1) oneQ) := by
  have h36 : 36 ^ (n - 1) ≤ 36 ^ 3 := Nat.pow_le_pow_right (by omega) (by omega)
  have e : wrap64 ((n : Int) - 1) = ((n - 1 : Nat) : Int) := by rw [w64 (by omega) (by omega)]; omega
  unfold impl_allSolids.f
  rw [e]
  exact implAllQ_q (n - 1) (by omega) (n - 1) 0 0 1 oneQ (by omega) oneQ_good (by omega) (by omega) (by omega) (by simp [oneQ]) (by simp [oneQ]; omega)
theorem allQ_ok (n : Nat) (h1 : 1 ≤ n) (h2 : n ≤ 4) : ∀ x ∈ allQ (n - 1) oneQ, x.length = n ∧ ∀ c ∈ x, okQ c := fun x hx => by
  have h := allQ_good (n - 1) 0 1 oneQ oneQ_good (by omega) (by omega) x hx
  exact ⟨by rw [h.len]; omega, h.ok (by omega)⟩
theorem equalQ_ev (a b : List Cube) (ha : small a) : Ev (fun k => impl_Cube_44.f k a b) (decide (a = b)) := by
  unfold impl_Cube_44.f
  by_cases hl : a.length = b.length
  · refine Ev.pos (by omega) ?_
    refine loop_list a (fun k i (_ : Unit) => impl_Cube_44.l0 k a b (a.length : Int) i) (fun pre suf _ => decide (suf = b.drop pre.length)) (fun _ _ => True) ?_ ?_ () trivial
    · intro _ _
      simp only [impl_Cube_44.l0, len_lt, if_false]
      refine Ev.of_eq (Ev.now _) ?_
      rw [hl, List.drop_length]
      simp
    · intro pre c suf _ hx _ ih
      have hp := pre_len hx
      have hpb : pre.length < b.length := by omega
      have hlt : ((pre.length : Int) < (b.length : Int)) = True := by simp; omega
      have eb := rdQ b pre.length hpb
      simp only [impl_Cube_44.l0, pre_lt hx, pre_0, if_true, hlt, at_preQ hx, pre_w hx ha, eb]
      rw [List.drop_eq_getElem_cons hpb]
      by_cases he : c = b[pre.length]
      · refine Ev.neg (by rw [← he]; simp) (Ev.of_eq (ih () trivial) ?_)
        rw [List.length_append, List.length_singleton]
        generalize b.drop (pre.length + 1) = R
        rw [← he]
        simp only [List.cons.injEq, true_and]
      · refine Ev.pos ?_ (Ev.of_eq (Ev.now _) ?_)
        · refine Decidable.byContradiction fun h => he ?_
          generalize b[pre.length] = d at h
          obtain ⟨c0, c1, c2⟩ := c
          obtain ⟨d0, d1, d2⟩ := d
          simp at h
          simp [h]
        · generalize b.drop (pre.length + 1) = R
          simp only [List.cons.injEq, he, false_and, decide_false]
  · refine Ev.neg (by omega) (Ev.of_eq (Ev.now _) ?_)
    have : a ≠ b := fun e => hl (by rw [e])
    simp [this]
end Go.Proofs.Ytlompfboheiliaa.L
end
section
namespace Go.Proofs.Ytlompfboheiliaa.L
open Go.RowKit Go.Proofs.YtlompfboheiliaaW.PrintWords Go.Proofs.YtlompfboheiliaaW.PrintLast Go.Proofs.YtlompfboheiliaaW.PrintMore Go.Proofs.Ytlompfboheiliaa.F
set_option linter.unusedVariables false
set_option linter.unusedSimpArgs false
def keepQ (b : Bool) (l : List (List Cube)) : List (List Cube) := l.filter fun s => decide (leastForm s (turnsQ b) = s)
theorem keepQ_snoc (b : Bool) (l : List (List Cube)) (s : List Cube) : keepQ b (l ++ [s]) = keepQ b l ++ (if leastForm s (turnsQ b) = s then [s] else []) := by
  unfold keepQ
  rw [List.filter_append]
  congr 1
  by_cases h : leastForm s (turnsQ b) = s
  · rw [if_pos h]; simp [h]
  · rw [if_neg h]; simp [h]
theorem turnsQ_eq (b : Bool) : spec_l09Turns.f b = some ((turnsQ b : Nat) : Int) := by cases b <;> rfl
theorem specOwnQ_ev (b : Bool) (l : List (List Cube)) (hl : l.length ≤ 1000000000) (h : ∀ s ∈ l, 0 < s.length ∧ s.length ≤ 64) : Ev (fun k => spec_l09Own.f k l b) (keepQ b l) := by
  have hsm : small l := by unfold small; omega
  unfold spec_l09Own.f
  refine loop_list l (fun k i (acc : List (List Cube)) => spec_l09Own.l0 k l b acc i) (fun _ _ _ => keepQ b l) (fun pre acc => acc = keepQ b pre) ?_ ?_ [] rfl
  · rintro acc rfl
    simp only [spec_l09Own.l0, len_lt, if_false]
    exact Ev.now _
  · rintro pre s suf acc hx rfl ih
    have hp := pre_len hx
    have hg := h s (by rw [hx]; simp)
    have hk : (keepQ b pre).length ≤ pre.length := List.length_filter_le _ _
    have hn : 1 ≤ turnsQ b ∧ turnsQ b ≤ 1000 := by cases b <;> decide
    have hll := leastForm_len s (turnsQ b)
    simp only [spec_l09Own.l0, pre_lt hx, pre_0, if_true, at_preLQS hx, pre_w hx hsm, turnsQ_eq, Option.bind_some]
    refine Ev.bind (specLeastQ_ev s (turnsQ b) hn.1 hn.2 (by omega) hg.1) (Ev.bind (specCompareQ_ev _ s (by unfold small; omega)) ?_)
    by_cases e : leastForm s (turnsQ b) = s
    · refine Ev.pos ((cmpSQ_zero _ _).2 e) (Ev.pos (by omega) (ih _ ?_))
      rw [keepQ_snoc, if_pos e]
    · refine Ev.neg (fun h0 => e ((cmpSQ_zero _ _).1 h0)) (ih _ ?_)
      rw [keepQ_snoc, if_neg e, List.append_nil]
theorem implOwnQ_ev (b : Bool) (l : List (List Cube)) (hl : l.length ≤ 1000000000) (h : ∀ s ∈ l, 0 < s.length ∧ s.length ≤ 64 ∧ ∀ c ∈ s, okQ c) (hA : apartB (keepQ b l) = true) : Ev (fun k => impl_ownSolids.f k l b) (keepQ b l) := by
  have hsm : small l := by unfold small; omega
  unfold impl_ownSolids.f
  refine Ev.bind (a := keepQ b l) ?_ (Ev.pos hA (Ev.now _))
  refine loop_list l (fun k i (acc : List (List Cube)) => impl_ownSolids.l0 k b acc l (l.length : Int) i) (fun _ _ _ => keepQ b l) (fun pre acc => acc = keepQ b pre) ?_ ?_ [] rfl
  · rintro acc rfl
    simp only [impl_ownSolids.l0, len_lt, if_false]
    exact Ev.now _
  · rintro pre s suf acc hx rfl ih
    have hp := pre_len hx
    have hg := h s (by rw [hx]; simp)
    have hk : (keepQ b pre).length ≤ pre.length := List.length_filter_le _ _
    have hll := leastForm_len s (turnsQ b)
    simp only [impl_ownSolids.l0, pre_lt hx, pre_0, if_true, at_preLQS hx, pre_w hx hsm]
    refine Ev.bind (implLeastQ_ev s b (by omega) hg.1 hg.2.2) (Ev.bind (equalQ_ev (leastForm s (turnsQ b)) s (by unfold small; omega)) ?_)
    by_cases e : leastForm s (turnsQ b) = s
    · refine Ev.pos (by simpa using e) (Ev.pos (by omega) (ih _ ?_))
      rw [keepQ_snoc, if_pos e]
    · refine Ev.neg (by simpa using e) (ih _ ?_)
      rw [keepQ_snoc, if_neg e, List.append_nil]
theorem allQ_len (n : Nat) (h1 : 1 ≤ n) (h2 : n ≤ 4) : (allQ (n - 1) oneQ).length ≤ 1000000 := by
  have key : ∀ (q : Nat) (m : Int) (n : Nat) (l : List (List Cube)), (∀ s ∈ l, GoodQ m n s) → 0 ≤ m → m + q * 2 ≤ 20 → n + q ≤ 6 → (allQ q l).length ≤ l.length * 36 ^ q := by
    intro q
    induction q with
    | zero => intro m n l _ _ _ _; simp [allQ]
    | succ q ih =>
      intro m n l h h0 h1 h2
      have e36 : 36 ^ (q + 1) = 36 ^ q * 36 := Nat.pow_succ ..
      have hnx : (nextQ l).length ≤ l.length * 36 := Nat.le_trans (nextQ_len (n := n) fun s hs => (h s hs).len) (Nat.mul_le_mul_left _ (by omega))
      have := ih (m + 2) (n + 1) (nextQ l) (good_next h (by omega)) (by omega) (by omega) (by omega)
      rw [allQ]
      refine Nat.le_trans this (Nat.le_trans (Nat.mul_le_mul_right _ hnx) ?_)
      rw [Nat.mul_assoc, Nat.mul_comm 36, ← e36]
      exact Nat.le_refl _
  have h36 : 36 ^ (n - 1) ≤ 36 ^ 3 := Nat.pow_le_pow_right (by omega) (by omega)
  have := key (n - 1) 0 1 oneQ oneQ_good (by omega) (by omega) (by omega)
  simp only [oneQ, List.length_singleton, Nat.one_mul] at this
  have h3 : 36 ^ 3 = 46656 := rfl
  exact Nat.le_trans this (by omega)
theorem inQ4 (a b c : Int) : spec_l01In.f a b c = some (decide (b ≤ a ∧ a ≤ c)) := by
  unfold spec_l01In.f
  by_cases h : a ≥ b
  · rw [if_pos h]
    congr 1
    simp
    omega
  · rw [if_neg h]
    congr 1
    simp
    omega
theorem withinQ4 (a b c : Int) : impl_within.f a b c = some (decide (b ≤ a ∧ a ≤ c)) := inQ4 a b c
theorem allQ_h1 (n : Nat) (h1 : 1 ≤ n) (h2 : n ≤ 4) : ∀ s ∈ allQ (n - 1) oneQ, 0 < s.length ∧ s.length ≤ 64 := fun s hs => by
  have := (allQ_ok n h1 h2 s hs).1
  omega
theorem allQ_h2 (n : Nat) (h1 : 1 ≤ n) (h2 : n ≤ 4) : ∀ s ∈ allQ (n - 1) oneQ, 0 < s.length ∧ s.length ≤ 64 ∧ ∀ c ∈ s, okQ c := fun s hs => by
  have := allQ_ok n h1 h2 s hs
  exact ⟨by omega, by omega, this.2⟩
theorem oneQ_asc : asc oneQ := by unfold asc oneQ; simp
theorem keepQ_apart (b : Bool) (n : Nat) (h1 : 1 ≤ n) (h2 : n ≤ 4) : apartB (keepQ b (allQ (n - 1) oneQ)) = true := by
  have ha : asc (keepQ b (allQ (n - 1) oneQ)) := List.Pairwise.filter _ (allQ_asc (n - 1) _ oneQ_asc)
  have hl : ∀ x ∈ keepQ b (allQ (n - 1) oneQ), x.length = n := fun x hx => (allQ_ok n h1 h2 x (List.mem_filter.1 hx).1).1
  unfold apartB
  rw [Bool.and_eq_true, List.all_eq_true]
  refine ⟨decide_eq_true (ha.imp fun h e => by rw [(cmpSQ_zero _ _).2 e] at h; omega), fun x hx => ?_⟩
  have hx' := hl x hx
  have hh : ((keepQ b (allQ (n - 1) oneQ)).headD []).length = n := by
    cases e : keepQ b (allQ (n - 1) oneQ) with
    | nil => rw [e] at hx; simp at hx
    | cons a r => exact hl a (by rw [e]; simp)
  rw [hh, Bool.and_eq_true]
  exact ⟨decide_eq_true hx', decide_eq_true (by omega)⟩
def cntQ (a : Int) : Int × Int × Int × Int := if 1 ≤ a ∧ a ≤ 4 then (((allQ (a.toNat - 1) oneQ).length : Int), ((keepQ false (allQ (a.toNat - 1) oneQ)).length : Int), ((keepQ true (allQ (a.toNat - 1) oneQ)).length : Int), 0) else (0, 0, 0, 2)
end Go.Proofs.Ytlompfboheiliaa.L
end
