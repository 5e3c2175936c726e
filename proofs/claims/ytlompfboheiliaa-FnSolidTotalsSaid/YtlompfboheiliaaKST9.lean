/- The row of FnSolidTotals, with what it needs: text 10 of 12. -/
import Derived.Test.YtlompfboheiliaaKST8
import Derived.ChangeArms
import Derived.ChangeSame
import Derived.Deep.Fields
import Derived.Deep.Slices
import Derived.Deep.Strs
import Derived.WideShapes
set_option maxHeartbeats 8000000
set_option maxRecDepth 100000
section
namespace Go.Proofs.Ytlompfboheiliaa.F
open Go.RowKit Go.Proofs.YtlompfboheiliaaW.PrintWords Go.Proofs.YtlompfboheiliaaW.PrintLast Go.Proofs.YtlompfboheiliaaW.PrintMore
attribute [local go_sem] max2_int min2_int max_two min_two max_three min_three max_four min_four
set_option linter.unusedVariables false
set_option linter.unusedSimpArgs false
theorem impl_cubeForm.calls (k : Nat) (A0 : Option Addr) (c0 : Nat) (l0 : List (S43)) (a1 : Int) (r : List (S43)) (w : World) (hr0 : Kd.C k43 w A0 l0.length l0) (hc0 : l0.length ≤ c0) (h : impl_cubeForm.f k l0 a1 = some r) :
  Calls Try.prog 60 #[.slice A0 l0.length c0, .int .i64 a1] w fun e w' => ∃ v0_ : Value, e = .returned (v0_) ∧ Kd.R k43 43 w' w.heap.size (fun _ => True) v0_ r ∧ Below w.heap.size w w' := by
 have hu43 := Try.underlying43
 have HR0 := aM hr0
 have HC0 := aM hc0
 clear hr0 hc0
 have HB := aM (Below.refl w.heap.size w)
 have H : (if 0 ≤ (l0.length : Int) then (if ((l0.length : Int) : Int).toNat ≤ 11728124029610 then (impl_cubeForm.l0 k a1 (([] : List (S43))) l0 (l0.length : Int) 0) else (none)) else (none)) = some r := h
 clear h
 by_cases c3 : 0 ≤ (l0.length : Int)
 rotate_left
 ·rw [if_neg c3] at H
  exact absurd H (by simp)
 rw [if_pos c3] at H
 have c3b0 := eq_true c3
 have c3b1 : decide (0 ≤ (l0.length : Int)) = true := decide_eq_true c3
 clear c3
 by_cases c4 : ((l0.length : Int) : Int).toNat ≤ 11728124029610
 rotate_left
 ·rw [if_neg c4] at H
  exact absurd H (by simp)
 rw [if_pos c4] at H
 have c4b0 := eq_true c4
 have c4b1 : decide (((l0.length : Int) : Int).toNat ≤ 11728124029610) = true := decide_eq_true c4
 clear c4
 obtain ⟨y423, hy423⟩ : ∃ y_ : List (S43), y_ = (([] : List (S43))) := ⟨_, rfl⟩
 replace H : (impl_cubeForm.l0 k a1 y423 l0 (l0.length : Int) 0) = some r := zy H hy423
 have Ny423 := aM hy423
 clear hy423
 have H' := aM H
 clear H
 go_enter Try.func60, Try.ntmps60
 go_wp2_with (first | ((with_reducible refine gate_dst (N := 10) rfl ?_); refine Kd.R_make0 k43 _ 43 rfl (N := 10) rfl 40 _ _ rfl (l0.length : Int) rfl rfl Try.underlying40 (.agg #[(.int .i64 0), (.int .i64 0), (.int .i64 0)]) 24 info43 rfl (by decide) (by omega) z43 (ok := fun _ => True) (okp := fun _ => True) (k43_mkM _ _ _ z43 ) (fun _ hk => hk) trivial (of_decide_eq_true za) (Nat.le_trans (Nat.mul_le_mul_right _ (of_decide_eq_true za : (l0.length : Int).toNat ≤ 11728124029610)) (by omega)) (Below.refl _ _) (Nat.le_refl _) ?_; intro v424 w5 ho6 hb hg_ hnew_; clear hg_ hnew_; (first | rw [← Ny423.out] at ho6 | (simp only [Int.reduceToNat] at ho6; rw [← Ny423.out] at ho6)); have n0_ := aM (Kd.R_lower ho6 (below_size zb)); have n1_ := aM (below_step zb hb); clear HB; have HO425 := n0_; have HB := n1_; clear n0_ n1_; clear hb ho6))
 go_loopg [5, 13] k (fun kq v5 v13 w' => ∃ (x5_1 : List (S43)) (x13_1 : Int), v13 = .int .i64 x13_1 ∧ Aside0 (impl_cubeForm.l0 kq a1 x5_1 l0 (l0.length : Int) x13_1 = some r) ∧ Aside0 (kq ≤ k) ∧ Aside0 (Kd.R k43 43 w' w.heap.size (fun _ => True) v5 x5_1) ∧ Aside0 (Below w.heap.size w w'))
 case atStart => exact ⟨(y423), (0), zr, H', ⟨Nat.le_refl _⟩, ⟨mR_ HO425.out⟩, ⟨zb⟩⟩
 case round =>
  clear H'
  try clear p2
  try clear c3
  try clear c3b0
  try clear c3b1
  try clear c4
  try clear c4b0
  try clear c4b1
  try clear c6
  obtain ⟨x5_1, x13_1, rfl, HA, HK1, HO_5, HB⟩ := hrel
  cases gk with
  | zero => exact absurd HA.out (by simp [impl_cubeForm.l0])
  | succ k1 =>
   have H := HA.out
   clear HA
   simp only [impl_cubeForm.l0] at H
   by_cases c7 : x13_1 < (l0.length : Int)
   rotate_left
   ·rw [if_neg c7] at H
    have c7b0 : decide (x13_1 < (l0.length : Int)) = false := decide_eq_false c7
    clear c7
    replace H := Option.bind_eq_some_iff.mp H
    obtain ⟨t434, A160, H⟩ := H
    replace H : ((impl_normalCubes.f k1 t434).bind fun t435 => (some t435)) = some r := H
    have A16 := aM A160
    clear A160
    replace H := Option.bind_eq_some_iff.mp H
    obtain ⟨t435, A170, H⟩ := H
    replace H : (some t435) = some r := H
    have A17 := aM A170
    clear A170
    obtain rfl := Option.some.inj H
    obtain ⟨Ao18, co18, eo18⟩ := Kd.R_slice HO_5.out
    subst eo18
    go_wp2_with (first | ((with_reducible refine gate_callee (f := 37) rfl ?_); refine goesL_ (some 25) rfl rfl Try.func37 (by kernel_rfl) rfl #[.slice Ao18 x5_1.length co18, .func (.func 38) #[] #[]] rfl zm ?_; (with_reducible refine (impl_Cube_37__impl_compareCubes.calls (fun k_ => some k_ = (.slice Ao18 x5_1.length co18 : Value).ownBlock) (.slice Ao18 x5_1.length co18) x5_1  t434 w _ ?side1 ?side2 A16.out).mono ?_); (case side1 => repeat (first | (with_reducible first | exact HB.out | apply below_alloc | apply pw_below_drewN | apply below_drew1) | exact HB.out)); (case side2 => exact Kd.R_tight rfl HO_5.out); rintro e w19 ⟨rfl, hy0, hb, hkp⟩; refine ⟨_, rfl, ?_⟩; have n0_ := aM (Kd.R_reok rfl hy0 (fun k_ e_ => HO_5.out.1 k_ e_)); have n1_ := aM (hb); clear HO_5 HB; have HO_5 := n0_; have HB := n1_; clear n0_ n1_; (try clear hb); (try clear hkp); (try clear hy0)) | ((with_reducible refine gate_callee (f := 39) rfl ?_); refine goesL_ (some 27) rfl rfl Try.func39 (by kernel_rfl) rfl #[.slice Ao18 t434.length co18] rfl (by (try simp only [mA, mB, mC]); first | done | (rw [show t434.length = x5_1.length from (Kd.R_reads' HO_5.out).1.symm] <;> rfl) | rfl | (simp only [lD, lT]; rfl)) ?_; (with_reducible refine (impl_normalCubes.calls k1 _ _ t434 t435 _ ?side1 ?side2 A17.out).mono ?_); (case side1 => exact zc HO_5.out); (case side2 => rw [show t434.length = x5_1.length from (Kd.R_reads' HO_5.out).1.symm]; exact (Kd.R_reads' HO_5.out).2.1); rintro e w20 ⟨v436, rfl, ho0, hb⟩; refine ⟨_, rfl, ?_⟩; have n0_ := aM (Kd.R_elder' (mR_ HO_5.out) (Kd.R_base ho0) hb); have n1_ := aM (Kd.R_lower (Kd.R_new' ho0 (Kd.R_lt (mR_ HO_5.out))) (below_size zb)); have n2_ := aM (below_step zb hb); clear HO_5 HB; have HO_5 := n0_; have HO437 := n1_; have HB := n2_; clear n0_ n1_ n2_; (try clear hb); (try clear hb2); (try clear hk); (try clear hi); (try clear ho0)))
    go_ret
    exact ⟨_, zw, zd6 HO437.out, zb⟩
   rw [if_pos c7] at H
   have c7b0 : decide (x13_1 < (l0.length : Int)) = true := decide_eq_true c7
   clear c7
   by_cases c8 : 0 ≤ x13_1
   rotate_left
   ·rw [if_neg c8] at H
    exact absurd H (by simp)
   rw [if_pos c8] at H
   have c8b0 : decide (0 ≤ x13_1) = true := decide_eq_true c8
   clear c8
   by_cases c9 : x13_1 < (l0.length : Int)
   rotate_left
   ·rw [if_neg c9] at H
    exact absurd H (by simp)
   rw [if_pos c9] at H
   have c9b0 : decide (x13_1 < (l0.length : Int)) = true := decide_eq_true c9
   clear c9
   replace H := Option.bind_eq_some_iff.mp H
   obtain ⟨⟨t428, t429, t430⟩, A100, H⟩ := H
   replace H : (if x5_1.length < 5864062014805 then (impl_cubeForm.l0 k1 a1 (x5_1 ++ [(⟨t428, t429, t430⟩ : S43)]) l0 (l0.length : Int) (wrap64 (x13_1 + 1))) else (none)) = some r := H
   have A10 := aM A100
   clear A100
   by_cases c11 : x5_1.length < 5864062014805
   rotate_left
   ·rw [if_neg c11] at H
    exact absurd H (by simp)
   rw [if_pos c11] at H
   have LMc11 := aM c11
   clear c11
   obtain ⟨y431, hy431⟩ : ∃ y_ : List (S43), y_ = (x5_1 ++ [(⟨t428, t429, t430⟩ : S43)]) := ⟨_, rfl⟩
   replace H : (impl_cubeForm.l0 k1 a1 y431 l0 (l0.length : Int) (wrap64 (x13_1 + 1))) = some r := zy H hy431
   have Ny431 := aM hy431
   clear hy431
   have H' := aM H
   clear H
   have p426 : 0 ≤ (x13_1 : Int) := of_decide_eq_true za
   have q426 : x13_1 < (l0.length : Int) := of_decide_eq_true za
   obtain ⟨ad426, e426, hx426_0, hx426_1, hx426_2⟩ := at_T43 HR0.out x13_1 p426 q426
   cases e426
   replace hx426_0 := zk HB.out hx426_0
   replace hx426_1 := zk HB.out hx426_1
   replace hx426_2 := zk HB.out hx426_2
   replace p426 := eq_true p426
   replace q426 := eq_true q426
   go_wp2_with (first | ((with_reducible refine gate_dst (N := 7) rfl ?_); refine zx 7 #[.int .i64 0, .int .i64 0, .int .i64 0] 43 ?_; intro gb427 hg w12 hbox hb; have n0_ := aM (Kd.R_below (Kd.R_elderB (mR_ HO_5.out) gb427 (Nat.le_of_eq hg.symm)) hb); have n1_ := aM (below_step zb hb); have n2_ := aM (hbox); have n3_ := aM ((ze : w.heap.size ≤ gb427)); have n4_ := aM ((ze : w.heap.size ≤ gb427)); clear HO_5 HB; have HO_5 := n0_; have HB := n1_; have BK427 := n2_; have GW427 := n3_; have GE427 := n4_; clear n0_ n1_ n2_ n3_ n4_ hb hbox hg; have hcz13_0 : w12.cell? ⟨gb427, 0, none⟩ = some (.int .i64 0) := (blk_cell BK427.out 0).trans rfl; have hcz13_1 : w12.cell? ⟨gb427, 1, none⟩ = some (.int .i64 0) := (blk_cell BK427.out 1).trans rfl; have hcz13_2 : w12.cell? ⟨gb427, 2, none⟩ = some (.int .i64 0) := (blk_cell BK427.out 2).trans rfl; have hfz13_0 := blk_frozen BK427.out 0; have hfz13_1 := blk_frozen BK427.out 1; have hfz13_2 := blk_frozen BK427.out 2) | ((with_reducible refine gate_callee (f := 82) rfl ?_); refine goesL_ (some 20) rfl rfl Try.func82 (by kernel_rfl) rfl #[.agg #[.int .i64 ((rd_T43 l0 x13_1).f0), .int .i64 ((rd_T43 l0 x13_1).f1), .int .i64 ((rd_T43 l0 x13_1).f2)], .int .i64 a1] rfl zm ?_; (with_reducible refine (impl_turnCube.calls k1 ((rd_T43 l0 x13_1).f0) ((rd_T43 l0 x13_1).f1) ((rd_T43 l0 x13_1).f2) a1 t428 t429 t430 _ A10.out).mono ?_); rintro e w14 ⟨rfl, hb⟩; refine ⟨_, rfl, ?_⟩; have n0_ := aM (Kd.R_below (by (with_reducible repeat (first | apply Kd.R_alloc | apply Kd.R_drewN | apply Kd.R_drew)); exact (Kd.R_mono (Kd.R_far (p := ⟨gb427, 2, none⟩) (Kd.R_far (p := ⟨gb427, 1, none⟩) (Kd.R_far (p := ⟨gb427, 0, none⟩) (Kd.R_mono HO_5.out (fun k_ hk => (⟨hk, hk.2⟩ : _ ∧ k_ ≠ gb427))) (fun _ hk => hk.2) (.int .i64 ((rd_T43 l0 x13_1).f0))) (fun _ hk => hk.2) (.int .i64 ((rd_T43 l0 x13_1).f1))) (fun _ hk => hk.2) (.int .i64 ((rd_T43 l0 x13_1).f2))) (fun _ h_ => h_.1))) hb); have n1_ := aM (blk_below (g := gb427) (o := .cells #[.int .i64 ((rd_T43 l0 x13_1).f0), .int .i64 ((rd_T43 l0 x13_1).f1), .int .i64 ((rd_T43 l0 x13_1).f2)] 43 (0, 0)) (by (with_reducible repeat (first | refine blk_drewN ?_ _ | refine blk_drew ?_ | refine blk_alloc ?_ _)); refine blk_put (cs := #[.int .i64 ((rd_T43 l0 x13_1).f0), .int .i64 ((rd_T43 l0 x13_1).f1), .int .i64 0]) ?_ 2 _ rfl; (with_reducible repeat (first | refine blk_drewN ?_ _ | refine blk_drew ?_ | refine blk_alloc ?_ _)); refine blk_put (cs := #[.int .i64 ((rd_T43 l0 x13_1).f0), .int .i64 0, .int .i64 0]) ?_ 1 _ rfl; (with_reducible repeat (first | refine blk_drewN ?_ _ | refine blk_drew ?_ | refine blk_alloc ?_ _)); refine blk_put (cs := #[.int .i64 0, .int .i64 0, .int .i64 0]) ?_ 0 _ rfl; (with_reducible repeat (first | refine blk_drewN ?_ _ | refine blk_drew ?_ | refine blk_alloc ?_ _)); exact BK427.out) hb); have n2_ := aM (below_step (zs GE427.out) hb); clear HO_5 BK427 HB; have HO_5 := n0_; have BK427 := n1_; have HB := n2_; clear n0_ n1_ n2_; (try clear hb); (try clear hb2); (try clear hk); (try clear hi)) | ((with_reducible refine gate_builtin (b := .append) (xs := #[.tmp 17, .tmp 21]) rfl ?_); at_builtin; refine Kd.R_append k43 (w0 := w) w.heap.size rfl (.tmp 17) (.tmp 21) 40 43 (.agg #[(.int .i64 0), (.int .i64 0), (.int .i64 0)]) 24 rfl Try.underlying40 info43 rfl (by decide) (by omega) u5 x5_1 (⟨t428, t429, t430⟩ : S43) [.int .i64 t428, .int .i64 t429, .int .i64 t430] (fun k_ => k_ ≠ gb427) (fun _ => False) rfl rfl ?aP (fun _ hk => hk.elim) ?aF ?aO ?aB ?aS ?aL ?_; (case aP => exact k43_mkM _ _ _ (⟨t428, t429, t430⟩ : S43)); (case aB => exact (zs GE427.out)); (case aF => exact (fun k_ hk => Kd.freshB (g := gb427) (o := .cells #[.int .i64 ((rd_T43 l0 x13_1).f0), .int .i64 ((rd_T43 l0 x13_1).f1), .int .i64 ((rd_T43 l0 x13_1).f2)] 43 (0, 0)) (mB_ BK427.out) k_ hk)); (case aO => exact (zd5 HO_5.out)); (case aS => exact (below_size (zs GE427.out))); (case aL => have := LMc11.out; omega); intro v432 w15 ho hb hg hat; rw [← Ny431.out] at ho; have n0_ := aM (blk_grown (g := gb427) (o := .cells #[.int .i64 ((rd_T43 l0 x13_1).f0), .int .i64 ((rd_T43 l0 x13_1).f1), .int .i64 ((rd_T43 l0 x13_1).f2)] 43 (0, 0)) (mB_ BK427.out) hg (Kd.R_away HO_5.out (fun _ hk => hk.2))); have n1_ := aM (hb); have n2_ := aM (ho); clear BK427 HB HO_5; have BK427 := n0_; have HB := n1_; have HO433 := n2_; clear n0_ n1_ n2_; clear ho hb hg hat))
   go_roundg k1
   case measure => have := HK1.out; omega
   case rel => exact ⟨(y431), (wrap64 (x13_1 + 1)), zr, H', ⟨by have := HK1.out; omega⟩, ⟨zd6 HO433.out⟩, ⟨zs GE427.out⟩⟩
mutual
def impl_leastSolid.j0 : Nat → List (S43) → Int → Option ((List (S43)))
 | 0, _, _ => none
 | k + 1, x0, x5 => (impl_cubeForm.f k x0 0).bind fun t438 => (impl_leastSolid.l0 k x0 x5 t438 1)
def impl_leastSolid.l0 : Nat → List (S43) → Int → List (S43) → Int → Option ((List (S43)))
 | 0, _, _, _, _ => none
 | k + 1, x0, x5, x6, x7 => if x7 < x5 then ((impl_cubeForm.f k x0 x7).bind fun t441 => ((impl_compareSolids.f k t441 x6).bind fun t444 => (if t444 < 0 then (impl_leastSolid.l0 k x0 x5 t441 (wrap64 (x7 + 1))) else (impl_leastSolid.l0 k x0 x5 x6 (wrap64 (x7 + 1)))))) else (some x6)
end
def impl_leastSolid.f (k : Nat) (l0 : List (S43)) (a1 : Bool) : Option ((List (S43))) := if a1 = true then (impl_leastSolid.j0 k l0 48) else (impl_leastSolid.j0 k l0 24)
theorem impl_leastSolid.calls (k : Nat) (A0 : Option Addr) (c0 : Nat) (l0 : List (S43)) (a1 : Bool) (r : List (S43)) (w : World) (hr0 : Kd.C k43 w A0 l0.length l0) (hc0 : l0.length ≤ c0) (h : impl_leastSolid.f k l0 a1 = some r) :
  Calls Try.prog 45 #[.slice A0 l0.length c0, .bool a1] w fun e w' => ∃ v0_ : Value, e = .returned (v0_) ∧ Kd.R k43 43 w' w.heap.size (fun _ => True) v0_ r ∧ Below w.heap.size w w' := by
 have HR0 := aM hr0
 have HC0 := aM hc0
 clear hr0 hc0
 have HB := aM (Below.refl w.heap.size w)
 have H : (if a1 = true then (impl_leastSolid.j0 k l0 48) else (impl_leastSolid.j0 k l0 24)) = some r := h
 clear h
 have HC3 := aM H
 clear H
 go_enter Try.func45, Try.ntmps45
 go_upto_if 9 with (fail)
 go_cut [5] (fun v5 wc => ∃ (kq : Nat) (x5_2 : Int), v5 = .int .i64 x5_2 ∧ Aside0 (impl_leastSolid.j0 kq l0 x5_2 = some r) ∧ Aside0 (kq ≤ k) ∧ Aside0 (Below w.heap.size w wc))
 case first =>
  have H := HC3.out
  clear HC3
  by_cases c4 : a1 = true
  ·subst c4
   have H1 : (impl_leastSolid.j0 k l0 48) = some r := by rw [if_pos rfl] at H; exact H
   clear H
   have H := H1
   clear H1
   have H' := aM H
   clear H
   go_wp2
   go_meet
   case rel => exact ⟨_, (48), zr, H', ⟨by first | omega | exact Nat.le_refl _⟩, ⟨zb⟩⟩
  replace c4 := Bool.eq_false_iff.mpr c4
  subst c4
  have H1 : (impl_leastSolid.j0 k l0 24) = some r := by rw [if_neg (show ¬ (false = true) by decide)] at H; exact H
  clear H
  have H := H1
  clear H1
  have H' := aM H
  clear H
  go_wp2
  go_meet
  case rel => exact ⟨_, (24), zr, H', ⟨by first | omega | exact Nat.le_refl _⟩, ⟨zb⟩⟩
 case rest =>
  clear HC3
  try clear p2
  try clear c4
  obtain ⟨kq, x5_2, rfl, HA, HJ2, HB⟩ := hcut
  cases kq with
  | zero => exact absurd HA.out (by simp [impl_leastSolid.j0])
  | succ kj2 =>
   have H := HA.out
   clear HA
   simp only [impl_leastSolid.j0] at H
   replace H := Option.bind_eq_some_iff.mp H
   obtain ⟨t438, A50, H⟩ := H
   replace H : (impl_leastSolid.l0 kj2 l0 x5_2 t438 1) = some r := H
   have A5 := aM A50
   clear A50
   have H' := aM H
   clear H
   go_wp2_with (first | ((with_reducible refine gate_callee (f := 60) rfl ?_); refine goesL_ (some 11) rfl rfl Try.func60 (by kernel_rfl) rfl #[.slice A0 l0.length c0, .int .i64 0] rfl zm ?_; (with_reducible refine (impl_cubeForm.calls kj2 _ _ l0 0 t438 _ ?side1 ?side2 A5.out).mono ?_); (case side1 => repeat (first | exact (Kd.C_below HR0.out HB.out) | (with_reducible refine Kd.C_alloc ?_ _) | (with_reducible refine Kd.C_drewN ?_ _) | (with_reducible refine Kd.C_drew ?_))); (case side2 => exact HC0.out); rintro e w6 ⟨v439, rfl, ho0, hb⟩; refine ⟨_, rfl, ?_⟩; have n0_ := aM (Kd.R_lower ho0 (below_size zb)); have n1_ := aM (below_step zb hb); clear HB; have HO440 := n0_; have HB := n1_; clear n0_ n1_; (try clear hb); (try clear hb2); (try clear hk); (try clear hi); (try clear ho0)))
   go_loopg [6, 7] kj2 (fun kq v6 v7 w' => ∃ (x6_2 : List (S43)) (x7_2 : Int), v7 = .int .i64 x7_2 ∧ Aside0 (impl_leastSolid.l0 kq l0 x5_2 x6_2 x7_2 = some r) ∧ Aside0 (kq ≤ kj2) ∧ Aside0 (Kd.R k43 43 w' w.heap.size (fun _ => True) v6 x6_2) ∧ Aside0 (Below w.heap.size w w'))
   case atStart => exact ⟨(t438), (1), zr, H', ⟨Nat.le_refl _⟩, ⟨mR_ HO440.out⟩, ⟨zb⟩⟩
   case round =>
    clear H'
    try clear p2
    try clear c4
    try clear c6
    try clear p2
    obtain ⟨x6_2, x7_2, rfl, HA, HK2, HO_6, HB⟩ := hrel
    cases gk with
    | zero => exact absurd HA.out (by simp [impl_leastSolid.l0])
    | succ k2 =>
     have H := HA.out
     clear HA
     simp only [impl_leastSolid.l0] at H
     by_cases c7 : x7_2 < x5_2
     rotate_left
     ·rw [if_neg c7] at H
      have c7b0 : decide (x7_2 < x5_2) = false := decide_eq_false c7
      clear c7
      obtain rfl := Option.some.inj H
      go_wp2
      go_ret
      exact ⟨_, zw, mR_ HO_6.out, zb⟩
     rw [if_pos c7] at H
     have c7b0 : decide (x7_2 < x5_2) = true := decide_eq_true c7
     clear c7
     replace H := Option.bind_eq_some_iff.mp H
     obtain ⟨t441, A80, H⟩ := H
     replace H : ((impl_compareSolids.f k2 t441 x6_2).bind fun t444 => (if t444 < 0 then (impl_leastSolid.l0 k2 l0 x5_2 t441 (wrap64 (x7_2 + 1))) else (impl_leastSolid.l0 k2 l0 x5_2 x6_2 (wrap64 (x7_2 + 1))))) = some r := H
     have A8 := aM A80
     clear A80
     replace H := Option.bind_eq_some_iff.mp H
     obtain ⟨t444, A90, H⟩ := H
     replace H : (if t444 < 0 then (impl_leastSolid.l0 k2 l0 x5_2 t441 (wrap64 (x7_2 + 1))) else (impl_leastSolid.l0 k2 l0 x5_2 x6_2 (wrap64 (x7_2 + 1)))) = some r := H
     have A9 := aM A90
     clear A90
     by_cases c10 : t444 < 0
     ·rw [if_pos c10] at H
      have c10b0 : decide (t444 < 0) = true := decide_eq_true c10
      clear c10
      have H' := aM H
      clear H
      go_wp2_with (first | ((with_reducible refine gate_callee (f := 60) rfl ?_); refine goesL_ (some 19) rfl rfl Try.func60 (by kernel_rfl) rfl #[.slice A0 l0.length c0, .int .i64 x7_2] rfl zm ?_; (with_reducible refine (impl_cubeForm.calls k2 _ _ l0 x7_2 t441 _ ?side1 ?side2 A8.out).mono ?_); (case side1 => repeat (first | exact (Kd.C_below HR0.out HB.out) | (with_reducible refine Kd.C_alloc ?_ _) | (with_reducible refine Kd.C_drewN ?_ _) | (with_reducible refine Kd.C_drew ?_))); (case side2 => exact HC0.out); rintro e w11 ⟨v442, rfl, ho0, hb⟩; refine ⟨_, rfl, ?_⟩; have n0_ := aM (Kd.R_elder' (mR_ HO_6.out) (Kd.R_base ho0) hb); have n1_ := aM (Kd.R_lower (Kd.R_new' ho0 (Kd.R_lt (mR_ HO_6.out))) (below_size zb)); have n2_ := aM (below_step zb hb); clear HO_6 HB; have HO_6 := n0_; have HO443 := n1_; have HB := n2_; clear n0_ n1_ n2_; (try clear hb); (try clear hb2); (try clear hk); (try clear hi); (try clear ho0); obtain ⟨Ao12, co12, eo12⟩ := Kd.R_slice HO443.out; subst eo12; obtain ⟨Ao13, co13, eo13⟩ := Kd.R_slice HO_6.out; subst eo13) | ((with_reducible refine gate_callee (f := 41) rfl ?_); refine goesL_ (some 22) rfl rfl Try.func41 (by kernel_rfl) rfl #[.slice Ao12 t441.length co12, .slice Ao13 x6_2.length co13] rfl zm ?_; (with_reducible refine (impl_compareSolids.calls k2 _ _ t441 _ _ x6_2 t444 _ ?side1 ?side2 ?side3 ?side4 A9.out).mono ?_); (case side1 => exact zc HO443.out); (case side2 => exact (Kd.R_reads' HO443.out).2.1); (case side3 => exact zc HO_6.out); (case side4 => exact (Kd.R_reads' HO_6.out).2.1); rintro e w14 ⟨rfl, hb⟩; refine ⟨_, rfl, ?_⟩; have n0_ := aM (Kd.R_below (mR_ HO_6.out) hb); have n1_ := aM (Kd.R_below (mR_ HO443.out) hb); have n2_ := aM (below_step zb hb); clear HO_6 HO443 HB; have HO_6 := n0_; have HO443 := n1_; have HB := n2_; clear n0_ n1_ n2_; (try clear hb); (try clear hb2); (try clear hk); (try clear hi)))
      go_roundg k2
      case measure => have := HJ2.out; have := HK2.out; omega
      case rel => exact ⟨(t441), (wrap64 (x7_2 + 1)), zr, H', ⟨by have := HJ2.out; have := HK2.out; omega⟩, ⟨zd6 HO443.out⟩, ⟨zb⟩⟩
     rw [if_neg c10] at H
     have c10b0 : decide (t444 < 0) = false := decide_eq_false c10
     clear c10
     have H' := aM H
     clear H
     go_wp2_with (first | ((with_reducible refine gate_callee (f := 60) rfl ?_); refine goesL_ (some 19) rfl rfl Try.func60 (by kernel_rfl) rfl #[.slice A0 l0.length c0, .int .i64 x7_2] rfl zm ?_; (with_reducible refine (impl_cubeForm.calls k2 _ _ l0 x7_2 t441 _ ?side1 ?side2 A8.out).mono ?_); (case side1 => repeat (first | exact (Kd.C_below HR0.out HB.out) | (with_reducible refine Kd.C_alloc ?_ _) | (with_reducible refine Kd.C_drewN ?_ _) | (with_reducible refine Kd.C_drew ?_))); (case side2 => exact HC0.out); rintro e w15 ⟨v442, rfl, ho0, hb⟩; refine ⟨_, rfl, ?_⟩; have n0_ := aM (Kd.R_elder' (mR_ HO_6.out) (Kd.R_base ho0) hb); have n1_ := aM (Kd.R_lower (Kd.R_new' ho0 (Kd.R_lt (mR_ HO_6.out))) (below_size zb)); have n2_ := aM (below_step zb hb); clear HO_6 HB; have HO_6 := n0_; have HO443 := n1_; have HB := n2_; clear n0_ n1_ n2_; (try clear hb); (try clear hb2); (try clear hk); (try clear hi); (try clear ho0); obtain ⟨Ao16, co16, eo16⟩ := Kd.R_slice HO443.out; subst eo16; obtain ⟨Ao17, co17, eo17⟩ := Kd.R_slice HO_6.out; subst eo17) | ((with_reducible refine gate_callee (f := 41) rfl ?_); refine goesL_ (some 22) rfl rfl Try.func41 (by kernel_rfl) rfl #[.slice Ao16 t441.length co16, .slice Ao17 x6_2.length co17] rfl zm ?_; (with_reducible refine (impl_compareSolids.calls k2 _ _ t441 _ _ x6_2 t444 _ ?side1 ?side2 ?side3 ?side4 A9.out).mono ?_); (case side1 => exact zc HO443.out); (case side2 => exact (Kd.R_reads' HO443.out).2.1); (case side3 => exact zc HO_6.out); (case side4 => exact (Kd.R_reads' HO_6.out).2.1); rintro e w18 ⟨rfl, hb⟩; refine ⟨_, rfl, ?_⟩; have n0_ := aM (Kd.R_below (mR_ HO_6.out) hb); have n1_ := aM (Kd.R_below (mR_ HO443.out) hb); have n2_ := aM (below_step zb hb); clear HO_6 HO443 HB; have HO_6 := n0_; have HO443 := n1_; have HB := n2_; clear n0_ n1_ n2_; (try clear hb); (try clear hb2); (try clear hk); (try clear hi)))
     go_roundg k2
     case measure => have := HJ2.out; have := HK2.out; omega
     case rel => exact ⟨(x6_2), (wrap64 (x7_2 + 1)), zr, H', ⟨by have := HJ2.out; have := HK2.out; omega⟩, ⟨zd6 HO_6.out⟩, ⟨zb⟩⟩
def impl_ownSolids.l0 : Nat → Bool → List (List (S43)) → List (List (S43)) → Int → Int → Option ((List (List (S43))))
 | 0, _, _, _, _, _ => none
 | k + 1, x1, x5, x9, x10, x11 => if x11 < x10 then (if 0 ≤ x11 then (if x11 < (x9.length : Int) then ((impl_leastSolid.f k (rd_L2 x9 x11) x1).bind fun t449 => ((impl_Cube_44.f k t449 (rd_L2 x9 x11)).bind fun t452 => (if t452 = true then (if x5.length < 5864062014805 then (impl_ownSolids.l0 k x1 (x5 ++ [rd_L2 x9 x11]) x9 x10 (wrap64 (x11 + 1))) else (none)) else (impl_ownSolids.l0 k x1 x5 x9 x10 (wrap64 (x11 + 1)))))) else (none)) else (none)) else (some x5)
def impl_ownSolids.f (k : Nat) (l0 : List (List (S43))) (a1 : Bool) : Option ((List (List (S43)))) := (impl_ownSolids.l0 k a1 (([] : List (List (S43)))) l0 (l0.length : Int) 0).bind fun r_ => if apartB r_ = true then some r_ else none
theorem impl_ownSolids.calls (k : Nat) (P0_ : Nat → Prop) (A0 : Option Addr) (c0 : Nat) (l0 : List (List (S43))) (a1 : Bool) (r : List (List (S43))) (w : World) {b_ : Nat} (hb_ : b_ ≤ w.heap.size) (hs0 : Kd.V (own b_ 43 k43) 40 w w.heap.size (fun k_ => P0_ k_) (.slice A0 l0.length c0) l0) (h : impl_ownSolids.f k l0 a1 = some r) :
  Calls Try.prog 20 #[.slice A0 l0.length c0, .bool a1] w fun e w' => ∃ v0_ : Value, e = .returned (v0_) ∧ Kd.S (Kd.slice 43 k43) 40 w' b_ (fun k_ => (P0_ k_ ∨ w.heap.size ≤ k_)) v0_ r ∧ Below w.heap.size w w' := by
 have HO0 := aM (show Kd.V (own b_ 43 k43) 40 w w.heap.size (fun k_ => (P0_ k_ ∨ w.heap.size ≤ k_)) (.slice A0 l0.length c0) l0 from Kd.V_mono hs0 (fun k_ hk => .inl hk))
 have HB := aM (Below.refl w.heap.size w)
 obtain ⟨H, HAP⟩ : (impl_ownSolids.l0 k a1 (([] : List (List (S43)))) l0 (l0.length : Int) 0) = some r ∧ apartB r = true := by
  unfold impl_ownSolids.f at h
  obtain ⟨r_, h1_, h2_⟩ := Option.bind_eq_some_iff.mp h
  by_cases h3_ : apartB r_ = true
  rotate_left
  ·rw [if_neg h3_] at h2_
   cases h2_
  rw [if_pos h3_] at h2_
  obtain rfl := Option.some.inj h2_
  exact ⟨h1_, h3_⟩
 clear h
 obtain ⟨y445, hy445⟩ : ∃ y_ : List (List (S43)), y_ = (([] : List (List (S43)))) := ⟨_, rfl⟩
 replace H : (impl_ownSolids.l0 k a1 y445 l0 (l0.length : Int) 0) = some r := zy H hy445
 have Ny445 := aM hy445
 clear hy445
 have H' := aM H
 clear H
 go_enter Try.func20, Try.ntmps20
 go_wp2_with (first | ((with_reducible refine gate_dst (N := 8) rfl ?_); refine Kd.N_lit (own b_ 43 k43) _ 40 ?hg (N' := 8) ?hd (xs := ([] : List (List (S43)))) (inner := []) (ok := (fun k_ => (P0_ k_ ∨ w.heap.size ≤ k_))) (okp := (fun k_ => (P0_ k_ ∨ w.heap.size ≤ k_))) ?hr ?hp (fun _ hk => hk) ((show ∀ k_, w.heap.size ≤ k_ → (fun k_ => (P0_ k_ ∨ w.heap.size ≤ k_)) k_ from fun k_ hk => (.inr (Nat.le_trans (below_size zb) hk))) _ (Nat.le_refl _)) (Below.refl _ _) (Nat.le_refl _) (by simp) ?_; (case hd => rfl); (case hg => rfl); (case hr => first | (go_simp; done) | (go_simp; rfl)); (case hp => exact (Reps.none _ _)); intro v446 w3 ho4 hb hg_ hnew_; clear hg_ hnew_; (first | rw [← Ny445.out] at ho4 | (simp only [Int.reduceToNat] at ho4; rw [← Ny445.out] at ho4)); have n0_ := aM (Kd.V_elder' (mV_ HO0.out) (by first | exact Kd.N_base ho4 | exact Kd.S_base ho4 | exact Kd.R_base ho4) hb); have n1_ := aM (Kd.N_lower ho4 (below_size zb)); have n2_ := aM (below_step zb hb); clear HO0 HB; have HO0 := n0_; have HO447 := n1_; have HB := n2_; clear n0_ n1_ n2_; clear hb ho4))
 go_loopg [5, 11] k (fun kq v5 v11 w' => ∃ (x5_1 : List (List (S43))) (x11_1 : Int), v11 = .int .i64 x11_1 ∧ Aside0 (impl_ownSolids.l0 kq a1 x5_1 l0 (l0.length : Int) x11_1 = some r) ∧ Aside0 (kq ≤ k) ∧ Aside0 (Kd.N (own b_ 43 k43) 40 w' w.heap.size (fun k_ => (P0_ k_ ∨ w.heap.size ≤ k_)) v5 x5_1) ∧ Aside0 (Kd.V (own b_ 43 k43) 40 w' w.heap.size (fun k_ => (P0_ k_ ∨ w.heap.size ≤ k_) ∧ some k_ ≠ (v5 : Value).ownBlock) (.slice A0 l0.length c0) l0) ∧ Aside0 (Below w.heap.size w w'))
 case atStart => exact ⟨(y445), (0), zr, H', ⟨Nat.le_refl _⟩, ⟨mN_ HO447.out⟩, ⟨mV_ HO0.out⟩, ⟨zb⟩⟩
 case round =>
  clear H'
  try clear c2
  try clear p2
  obtain ⟨x5_1, x11_1, rfl, HA, HK1, HO_5, HO_9, HB⟩ := hrel
  cases gk with
  | zero => exact absurd HA.out (by simp [impl_ownSolids.l0])
  | succ k1 =>
   have H := HA.out
   clear HA
   simp only [impl_ownSolids.l0] at H
   by_cases c5 : x11_1 < (l0.length : Int)
   rotate_left
   ·rw [if_neg c5] at H
    have c5b0 : decide (x11_1 < (l0.length : Int)) = false := decide_eq_false c5
    clear c5
    obtain rfl := Option.some.inj H
    go_wp2
    go_ret
    exact ⟨_, zw, S_of_NB (mN_ HO_5.out) hb_ HAP, zb⟩
   rw [if_pos c5] at H
   have c5b0 : decide (x11_1 < (l0.length : Int)) = true := decide_eq_true c5
   clear c5
   by_cases c6 : 0 ≤ x11_1
   rotate_left
   ·rw [if_neg c6] at H
    exact absurd H (by simp)
   rw [if_pos c6] at H
   have c6b0 : decide (0 ≤ x11_1) = true := decide_eq_true c6
   clear c6
   by_cases c7 : x11_1 < (l0.length : Int)
   rotate_left
   ·rw [if_neg c7] at H
    exact absurd H (by simp)
   rw [if_pos c7] at H
   have c7b0 : decide (x11_1 < (l0.length : Int)) = true := decide_eq_true c7
   clear c7
   replace H := Option.bind_eq_some_iff.mp H
   obtain ⟨t449, A80, H⟩ := H
   replace H : ((impl_Cube_44.f k1 t449 (rd_L2 l0 x11_1)).bind fun t452 => (if t452 = true then (if x5_1.length < 5864062014805 then (impl_ownSolids.l0 k1 a1 (x5_1 ++ [rd_L2 l0 x11_1]) l0 (l0.length : Int) (wrap64 (x11_1 + 1))) else (none)) else (impl_ownSolids.l0 k1 a1 x5_1 l0 (l0.length : Int) (wrap64 (x11_1 + 1))))) = some r := H
   have A8 := aM A80
   clear A80
   replace H := Option.bind_eq_some_iff.mp H
   obtain ⟨t452, A90, H⟩ := H
   replace H : (if t452 = true then (if x5_1.length < 5864062014805 then (impl_ownSolids.l0 k1 a1 (x5_1 ++ [rd_L2 l0 x11_1]) l0 (l0.length : Int) (wrap64 (x11_1 + 1))) else (none)) else (impl_ownSolids.l0 k1 a1 x5_1 l0 (l0.length : Int) (wrap64 (x11_1 + 1)))) = some r := H
   have A9 := aM A90
   clear A90
   by_cases c10 : t452 = true
   rotate_left
   ·replace c10 := Bool.eq_false_iff.mpr c10
    subst c10
    have H1 : (impl_ownSolids.l0 k1 a1 x5_1 l0 (l0.length : Int) (wrap64 (x11_1 + 1))) = some r := by rw [if_neg (show ¬ (false = true) by decide)] at H; exact H
    clear H
    have H := H1
    clear H1
    have H' := aM H
    clear H
    have p448 : 0 ≤ (x11_1 : Int) := of_decide_eq_true za
    have q448 : x11_1 < (l0.length : Int) := of_decide_eq_true za
    obtain ⟨ad448, A448_0, c448_0, e448, hx448_0, hl448_0, hi448_0⟩ := at_L2 (Kd.V_reads' (VO_slice HO_9.out)).2.2 x11_1 p448 q448
    cases e448
    obtain ⟨ce448, hce448, hMe448, hcc448⟩ := Kd.V_get HO_9.out [] x11_1 p448 (by first | exact q448 | exact of_decide_eq_true za | (have e_ := (Kd.V_reads' HO_9.out).1; omega))
    obtain ⟨ua448_0, uc448_0, rfl, ul448_0, ge448_0⟩ := Kd.FK_slice_open (FKO_slice hMe448)
    have hv448_0 := hcc448 0 _ rfl
    rw [Nat.add_zero, show ((own b_ 43 k43)).sz = 1 from rfl, Nat.mul_one] at hv448_0
    replace hv448_0 := Option.some.inj (hv448_0.symm.trans hx448_0)
    injection hv448_0 with hva_ hvn_ hvc_
    rw [hva_] at ge448_0
    rw [hvc_] at ul448_0
    rw [hva_, hvc_] at hMe448
    have HL448_0 := aM (show OV b_ 43 k43 _ _ _ (rd_L2 l0 x11_1) from hMe448)
    clear hva_ hvn_ hvc_ ge448_0 ul448_0
    clear hcc448 hce448
    have HR448_0 := aM hi448_0
    have HC448_0 := aM hl448_0
    clear hi448_0 hl448_0
    replace p448 := eq_true p448
    replace q448 := eq_true q448
    go_wp2_with (first | ((with_reducible refine gate_callee (f := 45) rfl ?_); refine goesL_ (some 17) rfl rfl Try.func45 (by kernel_rfl) rfl #[.slice A448_0 (rd_L2 l0 x11_1).length c448_0, .bool a1] rfl zm ?_; (with_reducible refine (impl_leastSolid.calls k1 _ _ (rd_L2 l0 x11_1) a1 t449 _ ?side1 ?side2 A8.out).mono ?_); (case side1 => repeat (first | exact (mQ_ HR448_0.out) | (with_reducible refine Kd.C_alloc ?_ _) | (with_reducible refine Kd.C_drewN ?_ _) | (with_reducible refine Kd.C_drew ?_))); (case side2 => exact HC448_0.out); rintro e w15 ⟨v450, rfl, ho0, hb⟩; refine ⟨_, rfl, ?_⟩; have n0_ := aM (Kd.N_elder' (mN_ HO_5.out) (Kd.R_base ho0) hb); have n1_ := aM (Kd.V_elder' (mV_ HO_9.out) (Kd.R_base ho0) hb); have n2_ := aM (OV_elder' (by (with_reducible repeat (first | apply OV_alloc | apply OV_drewN | apply OV_drew)); exact HL448_0.out) (Kd.R_base ho0) hb); have n3_ := aM (Kd.R_lower (Kd.R_newM (M := fun k_ => (w.heap.size ≤ k_)) ho0 (below_size zb) (fun k_ h_ => h_)) (below_size zb)); have n4_ := aM (Kd.C_below (mQ_ HR448_0.out) hb); have n5_ := aM (below_step zb hb); clear HO_5 HO_9 HL448_0 HR448_0 HB; have HO_5 := n0_; have HO_9 := n1_; have HL448_0 := n2_; have HO451 := n3_; have HR448_0 := n4_; have HB := n5_; clear n0_ n1_ n2_ n3_ n4_ n5_; (try clear hb); (try clear hb2); (try clear hk); (try clear hi); (try clear ho0); obtain ⟨Ao16, co16, eo16⟩ := Kd.R_slice HO451.out; subst eo16) | ((with_reducible refine gate_callee (f := 44) rfl ?_); refine goesL_ (some 19) rfl rfl Try.func44 (by kernel_rfl) rfl #[.slice Ao16 t449.length co16, .slice A448_0 (rd_L2 l0 x11_1).length c448_0] rfl zm ?_; (with_reducible refine (impl_Cube_44.calls k1 _ _ t449 _ _ (rd_L2 l0 x11_1) false _ ?side1 ?side2 ?side3 ?side4 A9.out).mono ?_); (case side1 => exact zc HO451.out); (case side2 => exact (Kd.R_reads' HO451.out).2.1); (case side3 => repeat (first | exact (mQ_ HR448_0.out) | (with_reducible refine Kd.C_alloc ?_ _) | (with_reducible refine Kd.C_drewN ?_ _) | (with_reducible refine Kd.C_drew ?_))); (case side4 => exact HC448_0.out); rintro e w' ⟨rfl, ⟨nd, rfl⟩⟩; refine ⟨_, rfl, ?_⟩))
    go_roundg k1
    case measure => have := HK1.out; omega
    case rel => exact ⟨(x5_1), (wrap64 (x11_1 + 1)), zr, H', ⟨by have := HK1.out; omega⟩, ⟨zd4 HO_5.out⟩, ⟨zd31 HO_9.out⟩, ⟨zb⟩⟩
   subst c10
   have H1 : (if x5_1.length < 5864062014805 then (impl_ownSolids.l0 k1 a1 (x5_1 ++ [rd_L2 l0 x11_1]) l0 (l0.length : Int) (wrap64 (x11_1 + 1))) else (none)) = some r := by rw [if_pos rfl] at H; exact H
   clear H
   have H := H1
   clear H1
   by_cases c11 : x5_1.length < 5864062014805
   rotate_left
   ·rw [if_neg c11] at H
    exact absurd H (by simp)
   rw [if_pos c11] at H
   have LMc11 := aM c11
   clear c11
   obtain ⟨y453, hy453⟩ : ∃ y_ : List (List (S43)), y_ = (x5_1 ++ [rd_L2 l0 x11_1]) := ⟨_, rfl⟩
   replace H : (impl_ownSolids.l0 k1 a1 y453 l0 (l0.length : Int) (wrap64 (x11_1 + 1))) = some r := zy H hy453
   have Ny453 := aM hy453
   clear hy453
   have H' := aM H
   clear H
   have p448 : 0 ≤ (x11_1 : Int) := of_decide_eq_true za
   have q448 : x11_1 < (l0.length : Int) := of_decide_eq_true za
   obtain ⟨ad448, A448_0, c448_0, e448, hx448_0, hl448_0, hi448_0⟩ := at_L2 (Kd.V_reads' (VO_slice HO_9.out)).2.2 x11_1 p448 q448
   cases e448
   obtain ⟨ce448, hce448, hMe448, hcc448⟩ := Kd.V_get HO_9.out [] x11_1 p448 (by first | exact q448 | exact of_decide_eq_true za | (have e_ := (Kd.V_reads' HO_9.out).1; omega))
   obtain ⟨ua448_0, uc448_0, rfl, ul448_0, ge448_0⟩ := Kd.FK_slice_open (FKO_slice hMe448)
   have hv448_0 := hcc448 0 _ rfl
   rw [Nat.add_zero, show ((own b_ 43 k43)).sz = 1 from rfl, Nat.mul_one] at hv448_0
   replace hv448_0 := Option.some.inj (hv448_0.symm.trans hx448_0)
   injection hv448_0 with hva_ hvn_ hvc_
   rw [hva_] at ge448_0
   rw [hvc_] at ul448_0
   rw [hva_, hvc_] at hMe448
   have HL448_0 := aM (show OV b_ 43 k43 _ _ _ (rd_L2 l0 x11_1) from hMe448)
   clear hva_ hvn_ hvc_ ge448_0 ul448_0
   clear hcc448 hce448
   have HR448_0 := aM hi448_0
   have HC448_0 := aM hl448_0
   clear hi448_0 hl448_0
   replace p448 := eq_true p448
   replace q448 := eq_true q448
   go_wp2_with (first | ((with_reducible refine gate_callee (f := 45) rfl ?_); refine goesL_ (some 17) rfl rfl Try.func45 (by kernel_rfl) rfl #[.slice A448_0 (rd_L2 l0 x11_1).length c448_0, .bool a1] rfl zm ?_; (with_reducible refine (impl_leastSolid.calls k1 _ _ (rd_L2 l0 x11_1) a1 t449 _ ?side1 ?side2 A8.out).mono ?_); (case side1 => repeat (first | exact (mQ_ HR448_0.out) | (with_reducible refine Kd.C_alloc ?_ _) | (with_reducible refine Kd.C_drewN ?_ _) | (with_reducible refine Kd.C_drew ?_))); (case side2 => exact HC448_0.out); rintro e w12 ⟨v450, rfl, ho0, hb⟩; refine ⟨_, rfl, ?_⟩; have n0_ := aM (Kd.N_elder' (mN_ HO_5.out) (Kd.R_base ho0) hb); have n1_ := aM (Kd.V_elder' (mV_ HO_9.out) (Kd.R_base ho0) hb); have n2_ := aM (OV_elder' (by (with_reducible repeat (first | apply OV_alloc | apply OV_drewN | apply OV_drew)); exact HL448_0.out) (Kd.R_base ho0) hb); have n3_ := aM (Kd.R_lower (Kd.R_newM (M := fun k_ => (w.heap.size ≤ k_)) ho0 (below_size zb) (fun k_ h_ => h_)) (below_size zb)); have n4_ := aM (Kd.C_below (mQ_ HR448_0.out) hb); have n5_ := aM (below_step zb hb); clear HO_5 HO_9 HL448_0 HR448_0 HB; have HO_5 := n0_; have HO_9 := n1_; have HL448_0 := n2_; have HO451 := n3_; have HR448_0 := n4_; have HB := n5_; clear n0_ n1_ n2_ n3_ n4_ n5_; (try clear hb); (try clear hb2); (try clear hk); (try clear hi); (try clear ho0); obtain ⟨Ao13, co13, eo13⟩ := Kd.R_slice HO451.out; subst eo13) | ((with_reducible refine gate_callee (f := 44) rfl ?_); refine goesL_ (some 19) rfl rfl Try.func44 (by kernel_rfl) rfl #[.slice Ao13 t449.length co13, .slice A448_0 (rd_L2 l0 x11_1).length c448_0] rfl zm ?_; (with_reducible refine (impl_Cube_44.calls k1 _ _ t449 _ _ (rd_L2 l0 x11_1) true _ ?side1 ?side2 ?side3 ?side4 A9.out).mono ?_); (case side1 => exact zc HO451.out); (case side2 => exact (Kd.R_reads' HO451.out).2.1); (case side3 => repeat (first | exact (mQ_ HR448_0.out) | (with_reducible refine Kd.C_alloc ?_ _) | (with_reducible refine Kd.C_drewN ?_ _) | (with_reducible refine Kd.C_drew ?_))); (case side4 => exact HC448_0.out); rintro e w' ⟨rfl, ⟨nd, rfl⟩⟩; refine ⟨_, rfl, ?_⟩) | ((with_reducible refine gate_builtin (b := .append) (xs := #[.tmp 20, .tmp 22]) rfl ?_); at_builtin; refine Kd.N_append (own b_ 43 k43) (w0 := w) w.heap.size rfl (.tmp 20) (.tmp 22) 28 40 (.slice none 0 0) 24 rfl Try.underlying28 info40 rfl (Nat.lt_succ_self 0) (by omega) u5 x5_1 (rd_L2 l0 x11_1) [.slice A448_0 (rd_L2 l0 x11_1).length c448_0] (fun k_ => (P0_ k_ ∨ w.heap.size ≤ k_) ∧ some k_ ≠ (.slice Ao13 t449.length co13 : Value).ownBlock) (fun k_ => ((fun k_ => (P0_ k_ ∨ w.heap.size ≤ k_) ∧ some k_ ≠ (.slice Ao13 t449.length co13 : Value).ownBlock)) k_ ∧ some k_ ≠ (u5 : Value).ownBlock) rfl rfl ?aP (fun _ hk => hk) ?aF ?aO ?aB ?aS ?aL ?_; (case aP => first | exact OV_mono (OV_drewN HL448_0.out _) (fun k_ hk => ⟨⟨hk.1.1, hk.2⟩, hk.1.2⟩) | exact OV_mono HL448_0.out (fun k_ hk => ⟨⟨hk.1.1, hk.2⟩, hk.1.2⟩) | exact OV_mono (OV_alloc (OV_drewN HL448_0.out _) _) (fun k_ hk => ⟨⟨hk.1.1, hk.2⟩, hk.1.2⟩)); (case aB => exact zb); (case aF => exact (fun k_ hk => ⟨(.inr (Nat.le_trans (below_size zb) hk)), Kd.fresh' (Kd.R_lt (mR_ HO451.out)) k_ hk⟩)); (case aO => exact (mN_ HO_5.out)); (case aS => exact (below_size zb)); (case aL => have := LMc11.out; omega); intro v454 w14 ho hb hg hat; rw [← Ny453.out] at ho; have n0_ := aM (Kd.V_afterv (ok := (fun k_ => (P0_ k_ ∨ w.heap.size ≤ k_) ∧ some k_ ≠ (.slice Ao13 t449.length co13 : Value).ownBlock)) (zd1 HO_9.out) hg hat); have n1_ := aM (OV_after (ok := (fun k_ => (P0_ k_ ∨ w.heap.size ≤ k_) ∧ some k_ ≠ (.slice Ao13 t449.length co13 : Value).ownBlock)) (by (with_reducible repeat (first | apply OV_alloc | apply OV_drewN | apply OV_drew)); exact OV_mono HL448_0.out (fun _ hk => ⟨⟨hk.1.1, hk.2⟩, hk.1.2⟩)) hg hat); have n2_ := aM (Kd.R_over' (mR_ HO451.out) (Kd.N_typed (mN_ HO_5.out)) (by decide) hg); have n3_ := aM (hb); have n4_ := aM (ho); clear HO_9 HL448_0 HO451 HB HO_5; have HO_9 := n0_; have HL448_0 := n1_; have HO451 := n2_; have HB := n3_; have HO455 := n4_; clear n0_ n1_ n2_ n3_ n4_; clear ho hb hg hat))
   go_roundg k1
   case measure => have := HK1.out; omega
   case rel => exact ⟨(y453), (wrap64 (x11_1 + 1)), zr, H', ⟨by have := HK1.out; omega⟩, ⟨zd4 HO455.out⟩, ⟨zd32 HO_9.out⟩, ⟨zb⟩⟩
def spec_CountSolids.f (k : Nat) (a0 : Int) : Option (Int × Int × Int × Int) := (spec_l01In.f a0 1 4).bind fun t328 => (if t328 = true then ((spec_l09All.f k a0).bind fun t329 => ((spec_l09Own.f k t329 false).bind fun t332 => ((spec_l09Own.f k t329 true).bind fun t335 => (some ((t329.length : Int), (t332.length : Int), (t335.length : Int), 0))))) else (some (0, 0, 0, 2)))
theorem spec_CountSolids.calls (k : Nat) (a0 : Int) (r1 : Int) (r2 : Int) (r3 : Int) (r4 : Int) (w : World) (h : spec_CountSolids.f k a0 = some (r1, r2, r3, r4)) :
  Calls Try.prog 6 #[.int .i64 a0] w fun e w' => e = .returned (.tuple #[.int .i64 r1, .int .i64 r2, .int .i64 r3, .int .i64 r4]) ∧ Below w.heap.size w w' := by
 have HB := aM (Below.refl w.heap.size w)
 have H : ((spec_l01In.f a0 1 4).bind fun t328 => (if t328 = true then ((spec_l09All.f k a0).bind fun t329 => ((spec_l09Own.f k t329 false).bind fun t332 => ((spec_l09Own.f k t329 true).bind fun t335 => (some ((t329.length : Int), (t332.length : Int), (t335.length : Int), 0))))) else (some (0, 0, 0, 2)))) = some (r1, r2, r3, r4) := h
 clear h
 replace H := Option.bind_eq_some_iff.mp H
 obtain ⟨t328, A20, H⟩ := H
 replace H : (if t328 = true then ((spec_l09All.f k a0).bind fun t329 => ((spec_l09Own.f k t329 false).bind fun t332 => ((spec_l09Own.f k t329 true).bind fun t335 => (some ((t329.length : Int), (t332.length : Int), (t335.length : Int), 0))))) else (some (0, 0, 0, 2))) = some (r1, r2, r3, r4) := H
 have A2 := aM A20
 clear A20
 by_cases c3 : t328 = true
 rotate_left
 ·replace c3 := Bool.eq_false_iff.mpr c3
  subst c3
  have H1 : (some (0, 0, 0, 2)) = some (r1, r2, r3, r4) := by rw [if_neg (show ¬ (false = true) by decide)] at H; exact H
  clear H
  have H := H1
  clear H1
  simp only [Option.some.injEq, Prod.mk.injEq] at H
  obtain ⟨rfl, rfl, rfl, rfl⟩ := H
  go_enter Try.func6, Try.ntmps6
  go_wp2_with (first | ((with_reducible refine gate_callee (f := 15) rfl ?_); refine goesL_ (some 8) rfl rfl Try.func15 (by kernel_rfl) rfl #[.int .i64 a0, .int .i64 1, .int .i64 4] rfl zm ?_; (with_reducible refine (spec_l01In.calls a0 1 4 false _ A2.out).mono ?_); rintro e w' ⟨rfl, ⟨nd, rfl⟩⟩; refine ⟨_, rfl, ?_⟩))
  refine bodyPost_ret (results_list (rs := [.tmp 2, .tmp 3, .tmp 4, .tmp 5]) rfl (by simp) (.tmp (.tmp (.tmp (.tmp .nil))))) rfl ?_
  exact ⟨zw, zb⟩
 subst c3
 have H1 : ((spec_l09All.f k a0).bind fun t329 => ((spec_l09Own.f k t329 false).bind fun t332 => ((spec_l09Own.f k t329 true).bind fun t335 => (some ((t329.length : Int), (t332.length : Int), (t335.length : Int), 0))))) = some (r1, r2, r3, r4) := by rw [if_pos rfl] at H; exact H
 clear H
 have H := H1
 clear H1
 replace H := Option.bind_eq_some_iff.mp H
 obtain ⟨t329, A40, H⟩ := H
 replace H : ((spec_l09Own.f k t329 false).bind fun t332 => ((spec_l09Own.f k t329 true).bind fun t335 => (some ((t329.length : Int), (t332.length : Int), (t335.length : Int), 0)))) = some (r1, r2, r3, r4) := H
 have A4 := aM A40
 clear A40
 replace H := Option.bind_eq_some_iff.mp H
 obtain ⟨t332, A50, H⟩ := H
 replace H : ((spec_l09Own.f k t329 true).bind fun t335 => (some ((t329.length : Int), (t332.length : Int), (t335.length : Int), 0))) = some (r1, r2, r3, r4) := H
 have A5 := aM A50
 clear A50
 replace H := Option.bind_eq_some_iff.mp H
 obtain ⟨t335, A60, H⟩ := H
 replace H : (some ((t329.length : Int), (t332.length : Int), (t335.length : Int), 0)) = some (r1, r2, r3, r4) := H
 have A6 := aM A60
 clear A60
 simp only [Option.some.injEq, Prod.mk.injEq] at H
 obtain ⟨rfl, rfl, rfl, rfl⟩ := H
 go_enter Try.func6, Try.ntmps6
 go_wp2_with (first | ((with_reducible refine gate_callee (f := 15) rfl ?_); refine goesL_ (some 8) rfl rfl Try.func15 (by kernel_rfl) rfl #[.int .i64 a0, .int .i64 1, .int .i64 4] rfl zm ?_; (with_reducible refine (spec_l01In.calls a0 1 4 true _ A2.out).mono ?_); rintro e w' ⟨rfl, ⟨nd, rfl⟩⟩; refine ⟨_, rfl, ?_⟩) | ((with_reducible refine gate_callee (f := 16) rfl ?_); refine goesL_ (some 11) rfl rfl Try.func16 (by kernel_rfl) rfl #[.int .i64 a0] rfl zm ?_; (with_reducible refine (spec_l09All.calls k a0 t329 _ A4.out).mono ?_); rintro e w7 ⟨v330, rfl, ho0, hb⟩; refine ⟨_, rfl, ?_⟩; have n0_ := aM (Kd.V_lower (Kd.V_mono (ok' := fun k_ => True) ho0 (fun k_ hk_ => trivial)) (below_size zb)); have n1_ := aM (below_step zb hb); clear HB; have HO331 := n0_; have HB := n1_; clear n0_ n1_; (try clear hb); (try clear hb2); (try clear hk); (try clear hi); (try clear ho0); obtain ⟨Ao8, co8, eo8⟩ := Kd.V_slice HO331.out; subst eo8) | ((with_reducible refine gate_callee (f := 17) rfl ?_); refine goesL_ (some 15) rfl rfl Try.func17 (by kernel_rfl) rfl #[.slice Ao8 t329.length co8, .bool false] rfl zm ?_; (with_reducible refine (spec_l09Own.calls k (fun k_ => True) _ _ t329 false t332 _ ?side1 A5.out).mono ?_); (case side1 => exact HO331.out); rintro e w9 ⟨v333, rfl, ho0, hb⟩; refine ⟨_, rfl, ?_⟩; have n0_ := aM (Kd.V_elder' (mV_ HO331.out) (by first | exact Kd.N_base ho0 | exact Kd.S_base ho0 | exact Kd.R_base ho0) hb); have n1_ := aM (Kd.N_lower (Kd.N_mono (ok' := fun k_ => True) ho0 (fun k_ hk_ => trivial)) (below_size zb)); have n2_ := aM (below_step zb hb); clear HO331 HB; have HO331 := n0_; have HO334 := n1_; have HB := n2_; clear n0_ n1_ n2_; (try clear hb); (try clear hb2); (try clear hk); (try clear hi); (try clear ho0); obtain ⟨Ao10, co10, eo10⟩ := Kd.N_slice HO334.out; subst eo10) | ((with_reducible refine gate_callee (f := 17) rfl ?_); refine goesL_ (some 18) rfl rfl Try.func17 (by kernel_rfl) rfl #[.slice Ao8 t329.length co8, .bool true] rfl zm ?_; (with_reducible refine (spec_l09Own.calls k (fun k_ => (True ∧ some k_ ≠ (.slice Ao10 t332.length co10 : Value).ownBlock)) _ _ t329 true t335 _ ?side1 A6.out).mono ?_); (case side1 => exact HO331.out); rintro e w11 ⟨v336, rfl, ho0, hb⟩; refine ⟨_, rfl, ?_⟩; have n0_ := aM (Kd.V_elder' (mV_ HO331.out) (by first | exact Kd.N_base ho0 | exact Kd.S_base ho0 | exact Kd.R_base ho0) hb); have n1_ := aM (Kd.N_elder' (mN_ HO334.out) (by first | exact Kd.N_base ho0 | exact Kd.S_base ho0 | exact Kd.R_base ho0) hb); have n2_ := aM (Kd.N_lower (Kd.N_mono (ok' := fun k_ => some k_ ≠ (.slice Ao10 t332.length co10 : Value).ownBlock) ho0 (fun k_ hk_ => Or.elim hk_ (fun hs_ => hs_.2) (fun hn_ => (Kd.fresh' (Kd.N_lt (mN_ HO334.out)) k_ hn_)))) (below_size zb)); have n3_ := aM (below_step zb hb); clear HO331 HO334 HB; have HO331 := n0_; have HO334 := n1_; have HO337 := n2_; have HB := n3_; clear n0_ n1_ n2_ n3_; (try clear hb); (try clear hb2); (try clear hk); (try clear hi); (try clear ho0); obtain ⟨Ao12, co12, eo12⟩ := Kd.N_slice HO337.out; subst eo12))
 refine bodyPost_ret (results_list (rs := [.tmp 2, .tmp 3, .tmp 4, .tmp 5]) rfl (by simp) (.tmp (.tmp (.tmp (.tmp .nil))))) rfl ?_
 exact ⟨zw, zb⟩
def impl_CountSolids.f (k : Nat) (a0 : Int) : Option (Int × Int × Int × Int) := (impl_within.f a0 1 4).bind fun t456 => (if t456 = true then ((impl_allSolids.f k a0).bind fun t457 => ((impl_ownSolids.f k t457 false).bind fun t460 => ((impl_ownSolids.f k t457 true).bind fun t463 => (some ((t457.length : Int), (t460.length : Int), (t463.length : Int), 0))))) else (some (0, 0, 0, 2)))
theorem impl_CountSolids.calls (k : Nat) (a0 : Int) (r1 : Int) (r2 : Int) (r3 : Int) (r4 : Int) (w : World) (h : impl_CountSolids.f k a0 = some (r1, r2, r3, r4)) :
  Calls Try.prog 7 #[.int .i64 a0] w fun e w' => e = .returned (.tuple #[.int .i64 r1, .int .i64 r2, .int .i64 r3, .int .i64 r4]) ∧ Below w.heap.size w w' := by
 have HB := aM (Below.refl w.heap.size w)
 have H : ((impl_within.f a0 1 4).bind fun t456 => (if t456 = true then ((impl_allSolids.f k a0).bind fun t457 => ((impl_ownSolids.f k t457 false).bind fun t460 => ((impl_ownSolids.f k t457 true).bind fun t463 => (some ((t457.length : Int), (t460.length : Int), (t463.length : Int), 0))))) else (some (0, 0, 0, 2)))) = some (r1, r2, r3, r4) := h
 clear h
 replace H := Option.bind_eq_some_iff.mp H
 obtain ⟨t456, A20, H⟩ := H
 replace H : (if t456 = true then ((impl_allSolids.f k a0).bind fun t457 => ((impl_ownSolids.f k t457 false).bind fun t460 => ((impl_ownSolids.f k t457 true).bind fun t463 => (some ((t457.length : Int), (t460.length : Int), (t463.length : Int), 0))))) else (some (0, 0, 0, 2))) = some (r1, r2, r3, r4) := H
 have A2 := aM A20
 clear A20
 by_cases c3 : t456 = true
 rotate_left
 ·replace c3 := Bool.eq_false_iff.mpr c3
  subst c3
  have H1 : (some (0, 0, 0, 2)) = some (r1, r2, r3, r4) := by rw [if_neg (show ¬ (false = true) by decide)] at H; exact H
  clear H
  have H := H1
  clear H1
  simp only [Option.some.injEq, Prod.mk.injEq] at H
  obtain ⟨rfl, rfl, rfl, rfl⟩ := H
  go_enter Try.func7, Try.ntmps7
  go_wp2_with (first | ((with_reducible refine gate_callee (f := 18) rfl ?_); refine goesL_ (some 8) rfl rfl Try.func18 (by kernel_rfl) rfl #[.int .i64 a0, .int .i64 1, .int .i64 4] rfl zm ?_; (with_reducible refine (impl_within.calls a0 1 4 false _ A2.out).mono ?_); rintro e w' ⟨rfl, ⟨nd, rfl⟩⟩; refine ⟨_, rfl, ?_⟩))
  refine bodyPost_ret (results_list (rs := [.tmp 2, .tmp 3, .tmp 4, .tmp 5]) rfl (by simp) (.tmp (.tmp (.tmp (.tmp .nil))))) rfl ?_
  exact ⟨zw, zb⟩
 subst c3
 have H1 : ((impl_allSolids.f k a0).bind fun t457 => ((impl_ownSolids.f k t457 false).bind fun t460 => ((impl_ownSolids.f k t457 true).bind fun t463 => (some ((t457.length : Int), (t460.length : Int), (t463.length : Int), 0))))) = some (r1, r2, r3, r4) := by rw [if_pos rfl] at H; exact H
 clear H
 have H := H1
 clear H1
 replace H := Option.bind_eq_some_iff.mp H
 obtain ⟨t457, A40, H⟩ := H
 replace H : ((impl_ownSolids.f k t457 false).bind fun t460 => ((impl_ownSolids.f k t457 true).bind fun t463 => (some ((t457.length : Int), (t460.length : Int), (t463.length : Int), 0)))) = some (r1, r2, r3, r4) := H
 have A4 := aM A40
 clear A40
 replace H := Option.bind_eq_some_iff.mp H
 obtain ⟨t460, A50, H⟩ := H
 replace H : ((impl_ownSolids.f k t457 true).bind fun t463 => (some ((t457.length : Int), (t460.length : Int), (t463.length : Int), 0))) = some (r1, r2, r3, r4) := H
 have A5 := aM A50
 clear A50
 replace H := Option.bind_eq_some_iff.mp H
 obtain ⟨t463, A60, H⟩ := H
 replace H : (some ((t457.length : Int), (t460.length : Int), (t463.length : Int), 0)) = some (r1, r2, r3, r4) := H
 have A6 := aM A60
 clear A60
 simp only [Option.some.injEq, Prod.mk.injEq] at H
 obtain ⟨rfl, rfl, rfl, rfl⟩ := H
 go_enter Try.func7, Try.ntmps7
 go_wp2_with (first | ((with_reducible refine gate_callee (f := 18) rfl ?_); refine goesL_ (some 8) rfl rfl Try.func18 (by kernel_rfl) rfl #[.int .i64 a0, .int .i64 1, .int .i64 4] rfl zm ?_; (with_reducible refine (impl_within.calls a0 1 4 true _ A2.out).mono ?_); rintro e w' ⟨rfl, ⟨nd, rfl⟩⟩; refine ⟨_, rfl, ?_⟩) | ((with_reducible refine gate_callee (f := 19) rfl ?_); refine goesL_ (some 11) rfl rfl Try.func19 (by kernel_rfl) rfl #[.int .i64 a0] rfl zm ?_; (with_reducible refine (impl_allSolids.calls k a0 t457 _ A4.out).mono ?_); rintro e w7 ⟨v458, rfl, ho0, hb⟩; refine ⟨_, rfl, ?_⟩; have n0_ := aM (VO_low (Kd.V_mono (ok' := fun k_ => True) ho0 (fun k_ hk_ => trivial)) (below_size zb)); have n1_ := aM (below_step zb hb); clear HB; have HO459 := n0_; have HB := n1_; clear n0_ n1_; (try clear hb); (try clear hb2); (try clear hk); (try clear hi); (try clear ho0); obtain ⟨Ao8, co8, eo8⟩ := Kd.V_slice HO459.out; subst eo8) | ((with_reducible refine gate_callee (f := 20) rfl ?_); refine goesL_ (some 15) rfl rfl Try.func20 (by kernel_rfl) rfl #[.slice Ao8 t457.length co8, .bool false] rfl zm ?_; (with_reducible refine (impl_ownSolids.calls k (fun k_ => True) _ _ t457 false t460 _ (b_ := w.heap.size) (below_size zb) ?side1 A5.out).mono ?_); (case side1 => exact HO459.out); rintro e w9 ⟨v461, rfl, ho0, hb⟩; refine ⟨_, rfl, ?_⟩; have n0_ := aM (Kd.V_below (mV_ HO459.out) hb); have n1_ := aM (Kd.S_mono (ok' := fun k_ => True) ho0 (fun _ hk_ => trivial)); have n2_ := aM (below_step zb hb); clear HO459 HB; have HO459 := n0_; have HO462 := n1_; have HB := n2_; clear n0_ n1_ n2_; (try clear hb); (try clear hb2); (try clear hk); (try clear hi); (try clear ho0); obtain ⟨Ao10, co10, eo10⟩ := Kd.S_slice HO462.out; subst eo10) | ((with_reducible refine gate_callee (f := 20) rfl ?_); refine goesL_ (some 18) rfl rfl Try.func20 (by kernel_rfl) rfl #[.slice Ao8 t457.length co8, .bool true] rfl zm ?_; (with_reducible refine (impl_ownSolids.calls k (fun k_ => True) _ _ t457 true t463 _ (b_ := w.heap.size) (below_size zb) ?side1 A6.out).mono ?_); (case side1 => exact HO459.out); rintro e w11 ⟨v464, rfl, ho0, hb⟩; refine ⟨_, rfl, ?_⟩; have n0_ := aM (Kd.V_below (mV_ HO459.out) hb); have n1_ := aM (Kd.S_below (mS_ HO462.out) hb); have n2_ := aM (Kd.S_mono (ok' := fun k_ => True) ho0 (fun _ hk_ => trivial)); have n3_ := aM (below_step zb hb); clear HO459 HO462 HB; have HO459 := n0_; have HO462 := n1_; have HO465 := n2_; have HB := n3_; clear n0_ n1_ n2_ n3_; (try clear hb); (try clear hb2); (try clear hk); (try clear hi); (try clear ho0); obtain ⟨Ao12, co12, eo12⟩ := Kd.S_slice HO465.out; subst eo12))
 refine bodyPost_ret (results_list (rs := [.tmp 2, .tmp 3, .tmp 4, .tmp 5]) rfl (by simp) (.tmp (.tmp (.tmp (.tmp .nil))))) rfl ?_
 exact ⟨zw, zb⟩
def laws_big.f (l0 : List Int) : Option (Bool) := some (decide ((l0.length : Int) > 4096))
theorem laws_big.calls (A0 : Option Addr) (c0 : Nat) (l0 : List Int) (r : Bool) (w : World) (hr0 : Kd.C (Kd.int .u8) w A0 l0.length l0) (hc0 : l0.length ≤ c0) (h : laws_big.f l0 = some r) :
  Calls Try.prog 8 #[.slice A0 l0.length c0] w fun e w' => e = .returned (.bool r) ∧ Drawn0 w w' := by
 have HR0 := aM hr0
 have HC0 := aM hc0
 clear hr0 hc0
 have H : (some (decide ((l0.length : Int) > 4096))) = some r := h
 clear h
 obtain rfl := Option.some.inj H
 go_enter Try.func8, Try.ntmps8
 go_wp2
 go_ret
 exact ⟨by first | rfl | (simp; done) | (simp [*]; done), by repeat (first | exact Drawn0.refl _ | apply Drawn0.step)⟩
def IsS78 (w0 W : World) (g : Nat) (f0 : List Int) (f1 : Int) (f2 : Int) : Prop := ∃ A0 c0, W.heap[g]? = some (.cells #[.slice A0 f0.length c0, .int .i64 f1, .int .i64 f2] 78 (0, 0)) ∧ w0.heap.size ≤ g ∧ Kd.C (Kd.int .u8) w0 A0 f0.length f0
theorem IsS78.grown {w0 W : World} {g : Nat} {f0 : List Int} {f1 : Int} {f2 : Int} {W1 : World} {row : Option Nat} (h : IsS78 w0 W g f0 f1 f2) (hw : W.grownBy W1 row) (hne : some g ≠ row) : IsS78 w0 W1 g f0 f1 f2 := by
 obtain ⟨A0, c0, hb, hg, hr0⟩ := h
 exact ⟨A0, c0, blk_grown hb hw hne, hg, hr0⟩
theorem IsS78.kept {w0 W : World} {g : Nat} {f0 : List Int} {f1 : Int} {f2 : Int} {W1 : World} {S : Nat → Prop} (h : IsS78 w0 W g f0 f1 f2) (hk : Kept W W1 S) (hne : ¬ S g) : IsS78 w0 W1 g f0 f1 f2 := by
 obtain ⟨A0, c0, hb, hg, hr0⟩ := h
 exact ⟨A0, c0, blk_kept hb hk hne, hg, hr0⟩
theorem IsS78.below {w0 W : World} {g : Nat} {f0 : List Int} {f1 : Int} {f2 : Int} {W1 : World} (h : IsS78 w0 W g f0 f1 f2) (hw : Below W.heap.size W W1) : IsS78 w0 W1 g f0 f1 f2 := h.grown (grown_of_below hw none) (by simp)
theorem IsS78.alloc {w0 W : World} {g : Nat} {f0 : List Int} {f1 : Int} {f2 : Int} (h : IsS78 w0 W g f0 f1 f2) (o : Obj) : IsS78 w0 (W.alloc o) g f0 f1 f2 := h.below (below_alloc (Below.refl _ _) o)
theorem IsS78.drewN {w0 W : World} {g : Nat} {f0 : List Int} {f1 : Int} {f2 : Int} (h : IsS78 w0 W g f0 f1 f2) (m : Nat) : IsS78 w0 (W.drewN m) g f0 f1 f2 := h
theorem IsS78.drew {w0 W : World} {g : Nat} {f0 : List Int} {f1 : Int} {f2 : Int} (h : IsS78 w0 W g f0 f1 f2) : IsS78 w0 W.drew g f0 f1 f2 := h
theorem IsS78.at_ {w0 W : World} {g : Nat} {f0 : List Int} {f1 : Int} {f2 : Int} {w' : World} {m : Nat} (hq : W.drewN m = w') (h : IsS78 w0 W g f0 f1 f2) : IsS78 w0 w' g f0 f1 f2 := by subst hq; exact IsS78.drewN h m
theorem IsS78.apart {w0 W : World} {g : Nat} {f0 : List Int} {f1 : Int} {f2 : Int} {α : Type} {d : Kd α} {e : Nat} {base : Nat} {ok : Nat → Prop} {v : Value} {xs : List α} (h : IsS78 w0 W g f0 f1 f2) (ho : d.R e W base ok v xs) (ht : ∀ q, q ∈ e :: d.E → q ≠ 78) : d.R e W base (fun k => ok k ∧ k ≠ g) v xs := by
 obtain ⟨A0, c0, hb, hg, hr0⟩ := h
 exact Kd.R_types ho hb ht
theorem IsS78.own_ne {w0 W : World} {g : Nat} {f0 : List Int} {f1 : Int} {f2 : Int} {α : Type} {d : Kd α} {e : Nat} {base : Nat} {ok : Nat → Prop} {v : Value} {xs : List α} (h : IsS78 w0 W g f0 f1 f2) (ho : d.R e W base ok v xs) (ht : e ≠ 78) : some g ≠ v.ownBlock := by
 obtain ⟨A0, c0, hb, hg, hr0⟩ := h
 exact Kd.R_ne ho hb ht
theorem IsS78.lt {w0 W : World} {g : Nat} {f0 : List Int} {f1 : Int} {f2 : Int} (h : IsS78 w0 W g f0 f1 f2) : g < W.heap.size := by
 obtain ⟨A0, c0, hb, hg, hr0⟩ := h
 exact blk_lt hb
theorem IsS78.ge {w0 W : World} {g : Nat} {f0 : List Int} {f1 : Int} {f2 : Int} (h : IsS78 w0 W g f0 f1 f2) : w0.heap.size ≤ g := by
 obtain ⟨A0, c0, hb, hg, hr0⟩ := h
 exact hg
theorem cellS78_0 {W : World} {g : Nat} {A0 : Option Addr} {c0 : Nat} {f0 : List Int} {f1 : Int} {f2 : Int} (h : W.heap[g]? = some (.cells #[.slice A0 f0.length c0, .int .i64 f1, .int .i64 f2] 78 (0, 0))) : W.cell? ⟨g, 0, none⟩ = some (.slice A0 f0.length c0) := (blk_cell h 0).trans rfl
theorem cellS78_1 {W : World} {g : Nat} {A0 : Option Addr} {c0 : Nat} {f0 : List Int} {f1 : Int} {f2 : Int} (h : W.heap[g]? = some (.cells #[.slice A0 f0.length c0, .int .i64 f1, .int .i64 f2] 78 (0, 0))) : W.cell? ⟨g, 1, none⟩ = some (.int .i64 f1) := (blk_cell h 1).trans rfl
theorem IsS78.set_1 {w0 W : World} {g : Nat} {f0 : List Int} {f1 : Int} {f2 : Int} (h : IsS78 w0 W g f0 f1 f2) (x : Int) : IsS78 w0 (W.setCell ⟨g, 1, none⟩ (.int .i64 x)) g f0 x f2 := by
 obtain ⟨A0, c0, hb, hg, hr0⟩ := h
 exact ⟨A0, c0, by simpa using blk_set hb 1 (.int .i64 x), hg, hr0⟩
theorem cellS78_2 {W : World} {g : Nat} {A0 : Option Addr} {c0 : Nat} {f0 : List Int} {f1 : Int} {f2 : Int} (h : W.heap[g]? = some (.cells #[.slice A0 f0.length c0, .int .i64 f1, .int .i64 f2] 78 (0, 0))) : W.cell? ⟨g, 2, none⟩ = some (.int .i64 f2) := (blk_cell h 2).trans rfl
theorem IsS78.set_2 {w0 W : World} {g : Nat} {f0 : List Int} {f1 : Int} {f2 : Int} (h : IsS78 w0 W g f0 f1 f2) (x : Int) : IsS78 w0 (W.setCell ⟨g, 2, none⟩ (.int .i64 x)) g f0 f1 x := by
 obtain ⟨A0, c0, hb, hg, hr0⟩ := h
 exact ⟨A0, c0, by simpa using blk_set hb 2 (.int .i64 x), hg, hr0⟩
def spec_l01From.l0 : Nat → List Int → Int → List Int → Int → Int → Option (List Int × Int × Int)
 | 0, _, _, _, _, _ => none
 | k + 1, x0, x4, x475000, x475001, x475002 => if x4 < (x0.length : Int) then (if x4 < 64 then (if 0 ≤ x4 then (spec_l01From.l0 k x0 (wrap64 (x4 + 1)) x475000 x475001 (Int.tmod (wrap64 ((wrap64 (x475002 * 47)) + (wrap64 (rd x0 x4)))) 2147483647)) else (none)) else (some (x475000, x475001, x475002))) else (some (x475000, x475001, x475002))
def spec_l01From.f (k : Nat) (l0 : List Int) : Option (List Int × Int × Int) := spec_l01From.l0 k l0 0 l0 0 61003
def spec_l01From.T5 : Bool × List (List Nat × List Nat) := (true, [([], []), ([], []), ([1], [1]), ([2], [2]), ([3], [3]), ([4], [4]), ([], []), ([], []), ([6, 7], [6, 7]), ([8], [8]), ([9], [9]), ([5, 10], [5, 10]), ([11], [11]), ([0, 0, 1, 2, 3, 4, 5, 6, 7, 8, 9, 10, 11, 12], [0]), ([13, 0, 1, 2, 3, 4, 5, 6, 7, 8, 9, 10, 11, 12], [13]), ([14, 12, 0, 1, 2, 3, 4, 5, 6, 7, 8, 9, 10, 11, 12], [12, 14])])
def spec_l01From.B5 : List Nat := [0, 0, 2, 6, 14, 30, 0, 0, 192, 448, 960, 2046, 4094, 8191, 16383, 32767]
theorem spec_l01From.tab5 : rtab .any (opsOf Try.f46 5) = spec_l01From.T5 := by kernel_rfl
theorem spec_l01From.bits5 : waitsOk spec_l01From.T5.2 spec_l01From.B5 = true := by kernel_rfl
theorem spec_l01From.calls (k : Nat) (A0 : Option Addr) (c0 : Nat) (l0 : List Int) (r1 : List Int) (r2 : Int) (r3 : Int) (w0 w : World) (hB : Below w0.heap.size w0 w) (hr0 : Kd.C (Kd.int .u8) w0 A0 l0.length l0) (hc0 : l0.length ≤ c0) (h : spec_l01From.f k l0 = some (r1, r2, r3)) :
  Calls Try.prog 46 #[.slice A0 l0.length c0] w fun e w' => ∃ g_ : Nat, e = .returned (.pointer (some ⟨g_, 0, none⟩)) ∧ IsS78 w0 w' g_ r1 r2 r3 ∧ Below w0.heap.size w0 w' ∧ Below w.heap.size w w' := by
 have hu78 := Try.underlying78
 have HR0 := aM hr0
 have HC0 := aM hc0
 clear hr0 hc0
 have HBW := aM (Below.refl w.heap.size w)
 have HW0 := aM hB.size
 have HB := aM hB
 clear hB
 have H : (spec_l01From.l0 k l0 0 l0 0 61003) = some (r1, r2, r3) := h
 clear h
 have H' := aM H
 clear H
 go_enter Try.func46, Try.ntmps46
 go_wp2_with (first | ((with_reducible refine gate_dst (N := 7) rfl ?_); refine zx 7 #[.slice A0 l0.length c0, .int .i64 0, .int .i64 61003] 78 ?_; intro gb474 hg w2 hbox hb; have n0_ := aM (below_step HBW.out hb); have n1_ := aM (below_step zb hb); have n2_ := aM (hbox); have n3_ := aM ((by rw [hg]; exact (below_size (by repeat (first | (with_reducible first | exact HBW.out | apply below_alloc | apply pw_below_drewN | apply below_drew1) | exact HBW.out))) : w.heap.size ≤ gb474)); have n4_ := aM ((Nat.le_trans HW0.out (by rw [hg]; exact (below_size (by repeat (first | (with_reducible first | exact HBW.out | apply below_alloc | apply pw_below_drewN | apply below_drew1) | exact HBW.out))) : w.heap.size ≤ gb474) : w0.heap.size ≤ gb474)); clear HBW HB; have HBW := n0_; have HB := n1_; have BK474 := n2_; have GW474 := n3_; have GE474 := n4_; clear n0_ n1_ n2_ n3_ n4_; clear hb hbox hg))
 go_loopg [4] k (fun kq v4 w' => ∃ (x4_1 : Int) (x475002_1 : Int), v4 = .int .i64 x4_1 ∧ Aside0 (spec_l01From.l0 kq l0 x4_1 l0 0 x475002_1 = some (r1, r2, r3)) ∧ Aside0 (kq ≤ k) ∧ Aside0 (w'.heap[gb474]? = some (.cells #[(.slice A0 l0.length c0), .int .i64 0, .int .i64 x475002_1] 78 (0, 0))) ∧ Aside0 (Below w0.heap.size w0 w') ∧ Aside0 (Below w.heap.size w w'))
 case atStart => exact ⟨(0), (61003), zr, H', ⟨Nat.le_refl _⟩, ⟨mB_ BK474.out⟩, ⟨zs GE474.out⟩, ⟨by repeat (first | (with_reducible first | exact HBW.out | apply below_alloc | apply pw_below_drewN | apply below_drew1 | refine below_set ?_ GW474.out) | exact HBW.out)⟩⟩
 case round =>
  clear H'
  try clear p2
  obtain ⟨x4_1, x475002_1, rfl, HA, HK1, BK474, HB, HBW⟩ := hrel
  cases gk with
  | zero => exact absurd HA.out (by simp [spec_l01From.l0])
  | succ k1 =>
   have H := HA.out
   clear HA
   simp only [spec_l01From.l0] at H
   by_cases c3 : x4_1 < (l0.length : Int)
   rotate_left
   ·rw [if_neg c3] at H
    have c3b0 : decide (x4_1 < (l0.length : Int)) = false := decide_eq_false c3
    clear c3
    simp only [Option.some.injEq, Prod.mk.injEq] at H
    obtain ⟨rfl, rfl, rfl⟩ := H
    go_wp2
    go_ret
    exact ⟨_, rfl, (show IsS78 w0 _ gb474 l0 0 x475002_1 from ⟨_, _, mB_ BK474.out, GE474.out, HR0.out⟩), zs GE474.out, by repeat (first | (with_reducible first | exact HBW.out | apply below_alloc | apply pw_below_drewN | apply below_drew1 | refine below_set ?_ GW474.out) | exact HBW.out)⟩
   rw [if_pos c3] at H
   have c3b0 : decide (x4_1 < (l0.length : Int)) = true := decide_eq_true c3
   clear c3
   by_cases c4 : x4_1 < 64
   rotate_left
   ·rw [if_neg c4] at H
    have c4b0 : decide (x4_1 < 64) = false := decide_eq_false c4
    clear c4
    simp only [Option.some.injEq, Prod.mk.injEq] at H
    obtain ⟨rfl, rfl, rfl⟩ := H
    go_wp2
    go_ret
    exact ⟨_, rfl, (show IsS78 w0 _ gb474 l0 0 x475002_1 from ⟨_, _, mB_ BK474.out, GE474.out, HR0.out⟩), zs GE474.out, by repeat (first | (with_reducible first | exact HBW.out | apply below_alloc | apply pw_below_drewN | apply below_drew1 | refine below_set ?_ GW474.out) | exact HBW.out)⟩
   rw [if_pos c4] at H
   have c4b0 : decide (x4_1 < 64) = true := decide_eq_true c4
   clear c4
   by_cases c5 : 0 ≤ x4_1
   rotate_left
   ·rw [if_neg c5] at H
    exact absurd H (by simp)
   rw [if_pos c5] at H
   have c5b0 : decide (0 ≤ x4_1) = true := decide_eq_true c5
   clear c5
   have H' := aM H
   clear H
   try go_wp2
   have n0_ := aM (blk_drew BK474.out)
   have n1_ := aM (below_drew1 HB.out)
   have n9_ := aM (below_drew1 HBW.out)
   clear BK474
   clear HB
   have BK474 := n0_
   have HB := n1_
   clear HBW
   have HBW := n9_
   clear n9_
   clear n0_ n1_
   have p475 : 0 ≤ (x4_1 : Int) := of_decide_eq_true za
   have q475 : x4_1 < (l0.length : Int) := of_decide_eq_true za
   obtain ⟨ad475, e475, hx475_0⟩ := Kd.at_int HR0.out x4_1 p475 q475
   have hw475_0 := hx475_0
   cases e475
   replace hx475_0 := pw_cell_below HB.out hx475_0
   replace p475 := eq_true p475
   replace q475 := eq_true q475
   refine start_ (n := 16) (S := fun w' => w'.cell? ⟨gb474, 0, none⟩ = some (.slice (some ad475) l0.length c0) ∧ w'.cell? ⟨gb474, 1, none⟩ = some (.int .i64 0) ∧ w'.cell? ⟨gb474, 2, none⟩ = some (.int .i64 x475002_1) ∧ w'.cell? (ad475.add (x4_1).toNat) = some (.int .u8 (rd l0 x4_1))) (ds := [15]) zA48 (by kernel_rfl) rfl rfl ⟨(blk_cell BK474.out 0).trans rfl, (blk_cell BK474.out 1).trans rfl, (blk_cell BK474.out 2).trans rfl, (zk HB.out hw475_0)⟩ (fun hHeld => ?_); refine with_tabW spec_l01From.tab5 spec_l01From.bits5 (fun HT_ HW_ => ?_)
   generalize wr.drew = w6 at BK474 HB HBW hx475_0 hHeld ⊢
   refine zp 0 (some 18) ?_ zA108 rfl rfl (Or.inl ⟨by rfl, ?_⟩) ?_ ?_ ?_
   rotate_left
   ·intro w'
    go_simp
    with_reducible rfl
   rotate_left
   ·simp only [Act.put, xA, xB, xC, i64_w, i32_w]
    rfl
   refine zp 1 (some 19) ?_ zA109 rfl rfl (Or.inl ⟨by rfl, ?_⟩) ?_ ?_ ?_
   rotate_left
   ·intro w'
    go_simp
    with_reducible rfl
   rotate_left
   ·simp only [Act.put, xA, xB, xC, i64_w, i32_w]
    rfl
   refine zp 2 (some 20) ?_ zA110 rfl rfl (Or.inl ⟨by rfl, ?_⟩) ?_ ?_ ?_
   rotate_left
   ·intro w'
    go_simp
    with_reducible rfl
   rotate_left
   ·simp only [Act.put, xA, xB, xC, i64_w, i32_w]
    rfl
   refine zp 3 (some 21) ?_ zA111 rfl rfl (Or.inl ⟨by rfl, ?_⟩) ?_ ?_ ?_
   rotate_left
   ·intro w'
    go_simp
    with_reducible rfl
   rotate_left
   ·simp only [Act.put, xA, xB, xC, i64_w, i32_w]
    rfl
   refine zp 6 (some 24) ?_ zA112 rfl rfl (Or.inl ⟨by rfl, ?_⟩) ?_ ?_ ?_
   rotate_left
   ·intro w'
    go_simp
    with_reducible rfl
   rotate_left
   ·simp only [Act.put, xA, xB, xC, i64_w, i32_w]
    rfl
   refine zp 7 (some 25) ?_ zA113 rfl rfl (Or.inl ⟨by rfl, ?_⟩) ?_ ?_ ?_
   rotate_left
   ·intro w'
    go_simp
    with_reducible rfl
   rotate_left
   ·simp only [Act.put, xA, xB, xC, i64_w, i32_w]
    rfl
   refine zp 8 (some 26) ?_ zA114 rfl rfl (Or.inl ⟨by rfl, ?_⟩) ?_ ?_ ?_
   rotate_left
   ·intro w'
    go_simp
    with_reducible rfl
   rotate_left
   ·simp only [Act.put, xA, xB, xC, i64_w, i32_w]
    rfl
   refine zu 4 (some 22) ?_ zA115 rfl rfl (Or.inl ⟨by rfl, ?_⟩) hHeld ?_ ?_ ?_
   rotate_left
   ·rintro w' ⟨s0, s1, s2, s3⟩
    go_simp
    with_reducible rfl
   rotate_left
   ·simp only [Act.put, xA, xB, xC, i64_w, i32_w]
    rfl
   refine zp 5 (some 23) ?_ zA116 rfl rfl (Or.inl ⟨by rfl, ?_⟩) ?_ ?_ ?_
   rotate_left
   ·intro w'
    go_simp
    with_reducible rfl
   rotate_left
   ·simp only [Act.put, xA, xB, xC, i64_w, i32_w]
    rfl
   refine zu 9 (some 27) ?_ zA117 rfl rfl (Or.inl ⟨by rfl, ?_⟩) hHeld ?_ ?_ ?_
   rotate_left
   ·rintro w' ⟨s0, s1, s2, s3⟩
    go_simp
    with_reducible rfl
   rotate_left
   ·simp only [Act.put, xA, xB, xC, i64_w, i32_w]
    rfl
   refine zp 10 (some 28) ?_ zA118 rfl rfl (Or.inl ⟨by rfl, ?_⟩) ?_ ?_ ?_
   rotate_left
   ·intro w'
    go_simp
    with_reducible rfl
   rotate_left
   ·simp only [Act.put, xA, xB, xC, i64_w, i32_w]
    rfl
   refine zp 11 (some 29) ?_ zA119 rfl rfl (Or.inl ⟨by rfl, ?_⟩) ?_ ?_ ?_
   rotate_left
   ·intro w'
    go_simp
    with_reducible rfl
   rotate_left
   ·simp only [Act.put, xA, xB, xC, i64_w, i32_w]
    rfl
   refine zp 12 (some 30) ?_ zA120 rfl rfl (Or.inl ⟨by rfl, ?_⟩) ?_ ?_ ?_
   rotate_left
   ·intro w'
    go_simp
    with_reducible rfl
   rotate_left
   ·simp only [Act.put, xA, xB, xC, i64_w, i32_w]
    rfl
   refine zp 13 (some 31) ?_ zA64 rfl rfl (Or.inl ⟨by rfl, ?_⟩) ?_ ?_ ?_
   rotate_left
   ·intro w'
    go_simp
    with_reducible rfl
   rotate_left
   ·simp only [Act.put, xA, xB, xC, i64_w, i32_w]
    rfl
   refine zp 14 (some 32) ?_ zA65 rfl rfl (Or.inl ⟨by rfl, ?_⟩) ?_ ?_ ?_
   rotate_left
   ·intro w'
    go_simp
    with_reducible rfl
   rotate_left
   ·simp only [Act.put, xA, xB, xC, i64_w, i32_w]
    rfl
   refine last_ (i := 15) (N := none) zA66 rfl rfl (one_of HT_.out (by kernel_rfl)) (by decide) (fun K hK => ?_)
   have hs7 : w6.cell? ⟨gb474, 2, none⟩ = some (.int .i64 x475002_1) := (blk_cell BK474.out 2).trans rfl
   have hfs7 := blk_frozen BK474.out 2
   refine skip_ (w1 := ?_) (by rfl) rfl ?_ ?_
   rotate_left
   ·go_simp
    rfl
   refine hK.out _ _ ?_
   clear hK K
   refine done_ (done_of HT_.out (by kernel_rfl)) ?_
   try go_wp2
   go_roundg k1
   case measure => have := HK1.out; omega
   case rel => exact ⟨(wrap64 (x4_1 + 1)), (Int.tmod (wrap64 ((wrap64 (x475002_1 * 47)) + (wrap64 (rd l0 x4_1)))) 2147483647), zr, H', ⟨by have := HK1.out; omega⟩, ⟨by (with_reducible repeat (first | refine blk_drewN ?_ _ | refine blk_drew ?_ | refine blk_alloc ?_ _)); refine blk_put (cs := #[.slice (some ad475) l0.length c0, .int .i64 0, .int .i64 x475002_1]) ?_ 2 _ rfl; (with_reducible repeat (first | refine blk_drewN ?_ _ | refine blk_drew ?_ | refine blk_alloc ?_ _)); exact BK474.out⟩, ⟨zs GE474.out⟩, ⟨by repeat (first | (with_reducible first | exact HBW.out | apply below_alloc | apply pw_below_drewN | apply below_drew1 | refine below_set ?_ GW474.out) | exact HBW.out)⟩⟩
def spec_l01Next.f (s0_0 : List Int) (s0_1 : Int) (s0_2 : Int) (a1 : Int) : Option (Int × Int × Int) := if a1 ≤ 1 then (some (0, s0_1, s0_2)) else (if s0_1 < (s0_0.length : Int) then (if 0 ≤ s0_1 then (if a1 ≤ 256 then (if (Int.tmod (wrap64 (s0_1 + 1)) 2) = 0 then (if 0 ≤ (wrap64 ((wrap64 (s0_1 + 1)) - 1)) then (if (wrap64 ((wrap64 (s0_1 + 1)) - 1)) < (s0_0.length : Int) then (if a1 = 0 then (none) else (some (Int.tmod (wrap64 (rd s0_0 (wrap64 ((wrap64 (s0_1 + 1)) - 1)))) a1, wrap64 (s0_1 + 1), Int.tmod (wrap64 ((wrap64 (s0_2 * 48271)) + 29)) 2147483647))) else (none)) else (none)) else (if a1 = 0 then (none) else (some (Int.tmod (wrap64 ((wrap64 (Int.tdiv (Int.tmod (wrap64 ((wrap64 (s0_2 * 48271)) + 29)) 2147483647) 31)) + (wrap64 (rd s0_0 s0_1)))) a1, wrap64 (s0_1 + 1), Int.tmod (wrap64 ((wrap64 (s0_2 * 48271)) + 29)) 2147483647)))) else (if a1 = 0 then (none) else (some (Int.tmod (wrap64 ((wrap64 (Int.tdiv (Int.tmod (wrap64 ((wrap64 (s0_2 * 48271)) + 29)) 2147483647) 31)) + (wrap64 (rd s0_0 s0_1)))) a1, wrap64 (s0_1 + 1), Int.tmod (wrap64 ((wrap64 (s0_2 * 48271)) + 29)) 2147483647)))) else (none)) else (if a1 = 0 then (none) else (some (Int.tmod (wrap64 (Int.tdiv (Int.tmod (wrap64 ((wrap64 (s0_2 * 48271)) + 29)) 2147483647) 31)) a1, s0_1, Int.tmod (wrap64 ((wrap64 (s0_2 * 48271)) + 29)) 2147483647))))
theorem spec_l01Next.calls (g : Nat) (s0_0 : List Int) (s0_1 : Int) (s0_2 : Int) (a1 : Int) (r1 : Int) (r2 : Int) (r3 : Int) (w0 w : World) (hI : IsS78 w0 w g s0_0 s0_1 s0_2) (hB : Below w0.heap.size w0 w) (h : spec_l01Next.f s0_0 s0_1 s0_2 a1 = some (r1, r2, r3)) :
  Calls Try.prog 47 #[.pointer (some ⟨g, 0, none⟩), .int .i64 a1] w fun e w' => e = .returned (.int .i64 r1) ∧ IsS78 w0 w' g s0_0 r2 r3 ∧ Below w0.heap.size w0 w' ∧ KeepBut w w' g none := by
 have HI0 := aM hI
 have HK := aM (KeepBut.refl w g none)
 have HL := aM hB.size
 clear hI
 have HW0 := aM hB.size
 have HB := aM hB
 clear hB
 have H : (if a1 ≤ 1 then (some (0, s0_1, s0_2)) else (if s0_1 < (s0_0.length : Int) then (if 0 ≤ s0_1 then (if a1 ≤ 256 then (if (Int.tmod (wrap64 (s0_1 + 1)) 2) = 0 then (if 0 ≤ (wrap64 ((wrap64 (s0_1 + 1)) - 1)) then (if (wrap64 ((wrap64 (s0_1 + 1)) - 1)) < (s0_0.length : Int) then (if a1 = 0 then (none) else (some (Int.tmod (wrap64 (rd s0_0 (wrap64 ((wrap64 (s0_1 + 1)) - 1)))) a1, wrap64 (s0_1 + 1), Int.tmod (wrap64 ((wrap64 (s0_2 * 48271)) + 29)) 2147483647))) else (none)) else (none)) else (if a1 = 0 then (none) else (some (Int.tmod (wrap64 ((wrap64 (Int.tdiv (Int.tmod (wrap64 ((wrap64 (s0_2 * 48271)) + 29)) 2147483647) 31)) + (wrap64 (rd s0_0 s0_1)))) a1, wrap64 (s0_1 + 1), Int.tmod (wrap64 ((wrap64 (s0_2 * 48271)) + 29)) 2147483647)))) else (if a1 = 0 then (none) else (some (Int.tmod (wrap64 ((wrap64 (Int.tdiv (Int.tmod (wrap64 ((wrap64 (s0_2 * 48271)) + 29)) 2147483647) 31)) + (wrap64 (rd s0_0 s0_1)))) a1, wrap64 (s0_1 + 1), Int.tmod (wrap64 ((wrap64 (s0_2 * 48271)) + 29)) 2147483647)))) else (none)) else (if a1 = 0 then (none) else (some (Int.tmod (wrap64 (Int.tdiv (Int.tmod (wrap64 ((wrap64 (s0_2 * 48271)) + 29)) 2147483647) 31)) a1, s0_1, Int.tmod (wrap64 ((wrap64 (s0_2 * 48271)) + 29)) 2147483647))))) = some (r1, r2, r3) := h
 clear h
 by_cases c3 : a1 ≤ 1
 ·rw [if_pos c3] at H
  have c3b0 : decide (a1 ≤ 1) = true := decide_eq_true c3
  clear c3
  simp only [Option.some.injEq, Prod.mk.injEq] at H
  obtain ⟨rfl, rfl, rfl⟩ := H
  go_enter Try.func47, Try.ntmps47
  go_wp2
  repeat (go_quiet (fail); try go_wp2)
  go_ret
  exact ⟨zw, zI78 HI0.out, zs (IsS78.ge HI0.out), zK HK.out⟩
 rw [if_neg c3] at H
 have c3b0 : decide (a1 ≤ 1) = false := decide_eq_false c3
 clear c3
 by_cases c4 : s0_1 < (s0_0.length : Int)
 rotate_left
 ·rw [if_neg c4] at H
  have c4b0 : decide (s0_1 < (s0_0.length : Int)) = false := decide_eq_false c4
  clear c4
  by_cases c17 : a1 = 0
  ·rw [if_pos c17] at H
   exact absurd H (by simp)
  rw [if_neg c17] at H
  have c17b0 : (a1 == 0) = false := beq_eq_false_iff_ne.mpr c17
  have c17b1 : (a1 != 0) = true := bne_iff_ne.mpr c17
  simp only [Option.some.injEq, Prod.mk.injEq] at H
  obtain ⟨rfl, rfl, rfl⟩ := H
  obtain ⟨ASz18_0, cSz18_0, HGz18, hgz18, HSz18_0⟩ := HI0.out
  have hcz18_0 := cellS78_0 HGz18
  have hcz18_1 := cellS78_1 HGz18
  have hcz18_2 := cellS78_2 HGz18
  have hfz18_1 := blk_frozen HGz18 1
  have hfz18_2 := blk_frozen HGz18 2
  clear HGz18 hgz18
  go_enter Try.func47, Try.ntmps47
  go_wp2
  repeat (go_quiet (fail); try go_wp2)
  go_ret
  exact ⟨zw, zI78 HI0.out, zs (IsS78.ge HI0.out), zK HK.out⟩
 rw [if_pos c4] at H
 have c4b0 : decide (s0_1 < (s0_0.length : Int)) = true := decide_eq_true c4
 clear c4
 by_cases c5 : 0 ≤ s0_1
 rotate_left
 ·rw [if_neg c5] at H
  exact absurd H (by simp)
 rw [if_pos c5] at H
 have c5b0 : decide (0 ≤ s0_1) = true := decide_eq_true c5
 clear c5
 by_cases c6 : a1 ≤ 256
 rotate_left
 ·rw [if_neg c6] at H
  have c6b0 : decide (a1 ≤ 256) = false := decide_eq_false c6
  clear c6
  by_cases c15 : a1 = 0
  ·rw [if_pos c15] at H
   exact absurd H (by simp)
  rw [if_neg c15] at H
  have c15b0 : (a1 == 0) = false := beq_eq_false_iff_ne.mpr c15
  have c15b1 : (a1 != 0) = true := bne_iff_ne.mpr c15
  simp only [Option.some.injEq, Prod.mk.injEq] at H
  obtain ⟨rfl, rfl, rfl⟩ := H
  obtain ⟨ASz16_0, cSz16_0, HGz16, hgz16, HSz16_0⟩ := HI0.out
  have hcz16_0 := cellS78_0 HGz16
  have hcz16_1 := cellS78_1 HGz16
  have hcz16_2 := cellS78_2 HGz16
  have hfz16_1 := blk_frozen HGz16 1
  have hfz16_2 := blk_frozen HGz16 2
  clear HGz16 hgz16
  have p476 : 0 ≤ (s0_1 : Int) := of_decide_eq_true za
  have q476 : s0_1 < (s0_0.length : Int) := of_decide_eq_true za
  obtain ⟨ad476, e476, hx476_0⟩ := Kd.at_int HSz16_0 s0_1 p476 q476
  cases e476
  have hn476_0 : ad476.block ≠ g := Nat.ne_of_lt (Nat.lt_of_lt_of_le (by have := World.block_lt_of_cell? _ _ hx476_0; first | rwa [add_block] at this | exact this) (IsS78.ge HI0.out))
  replace hx476_0 := pw_cell_below HB.out hx476_0
  replace hx476_0 := (cell_far (p := ⟨g, 2, none⟩) (by first | (rw [add_block]; exact hn476_0) | (show (Addr.add _ _).block ≠ _; rw [add_block]; exact hn476_0) | exact hn476_0) (.int .i64 (Int.tmod (wrap64 ((wrap64 (s0_2 * 48271)) + 29)) 2147483647))).trans hx476_0
  (try have hy476_0 := fun (n_ : Nat) => (show (((w.drewN n_).setCell ⟨g, 2, none⟩ (.int .i64 (Int.tmod (wrap64 ((wrap64 (s0_2 * 48271)) + 29)) 2147483647)))).cell? _ = some _ from hx476_0))
  clear hn476_0
  replace p476 := eq_true p476
  replace q476 := eq_true q476
  go_enter Try.func47, Try.ntmps47
  go_wp2
  repeat (go_quiet (fail); try go_wp2)
  go_ret
  exact ⟨zw, zI78 HI0.out, zs (IsS78.ge HI0.out), zK HK.out⟩
 rw [if_pos c6] at H
 have c6b0 : decide (a1 ≤ 256) = true := decide_eq_true c6
 clear c6
 by_cases c7 : (Int.tmod (wrap64 (s0_1 + 1)) 2) = 0
 rotate_left
 ·rw [if_neg c7] at H
  have c7b0 : ((Int.tmod (wrap64 (s0_1 + 1)) 2) == 0) = false := beq_eq_false_iff_ne.mpr c7
  have c7b1 : ((Int.tmod (wrap64 (s0_1 + 1)) 2) != 0) = true := bne_iff_ne.mpr c7
  by_cases c13 : a1 = 0
  ·rw [if_pos c13] at H
   exact absurd H (by simp)
  rw [if_neg c13] at H
  have c13b0 : (a1 == 0) = false := beq_eq_false_iff_ne.mpr c13
  have c13b1 : (a1 != 0) = true := bne_iff_ne.mpr c13
  simp only [Option.some.injEq, Prod.mk.injEq] at H
  obtain ⟨rfl, rfl, rfl⟩ := H
  obtain ⟨ASz14_0, cSz14_0, HGz14, hgz14, HSz14_0⟩ := HI0.out
  have hcz14_0 := cellS78_0 HGz14
  have hcz14_1 := cellS78_1 HGz14
  have hcz14_2 := cellS78_2 HGz14
  have hfz14_1 := blk_frozen HGz14 1
  have hfz14_2 := blk_frozen HGz14 2
  clear HGz14 hgz14
  have p476 : 0 ≤ (s0_1 : Int) := of_decide_eq_true za
  have q476 : s0_1 < (s0_0.length : Int) := of_decide_eq_true za
  obtain ⟨ad476, e476, hx476_0⟩ := Kd.at_int HSz14_0 s0_1 p476 q476
  cases e476
  have hn476_0 : ad476.block ≠ g := Nat.ne_of_lt (Nat.lt_of_lt_of_le (by have := World.block_lt_of_cell? _ _ hx476_0; first | rwa [add_block] at this | exact this) (IsS78.ge HI0.out))
  replace hx476_0 := pw_cell_below HB.out hx476_0
  replace hx476_0 := (cell_far (p := ⟨g, 2, none⟩) (by first | (rw [add_block]; exact hn476_0) | (show (Addr.add _ _).block ≠ _; rw [add_block]; exact hn476_0) | exact hn476_0) (.int .i64 (Int.tmod (wrap64 ((wrap64 (s0_2 * 48271)) + 29)) 2147483647))).trans hx476_0
  (try have hy476_0 := fun (n_ : Nat) => (show (((w.drewN n_).setCell ⟨g, 2, none⟩ (.int .i64 (Int.tmod (wrap64 ((wrap64 (s0_2 * 48271)) + 29)) 2147483647)))).cell? _ = some _ from hx476_0))
  clear hn476_0
  replace p476 := eq_true p476
  replace q476 := eq_true q476
  go_enter Try.func47, Try.ntmps47
  go_wp2
  repeat (go_quiet (fail); try go_wp2)
  go_ret
  exact ⟨zw, zI78 HI0.out, zs (IsS78.ge HI0.out), zK HK.out⟩
 rw [if_pos c7] at H
 have c7b0 : ((Int.tmod (wrap64 (s0_1 + 1)) 2) == 0) = true := beq_iff_eq.mpr c7
 have c7b1 : ((Int.tmod (wrap64 (s0_1 + 1)) 2) != 0) = false := bne_eq_false_iff_eq.mpr c7
 clear c7
 obtain ⟨ji8, hji8⟩ : ∃ j_ : Int, (wrap64 ((wrap64 (s0_1 + 1)) - 1)) = j_ := ⟨_, rfl⟩
 replace H : (if 0 ≤ (ji8) then (if (ji8) < (s0_0.length : Int) then (if a1 = 0 then (none) else (some (Int.tmod (wrap64 (rd s0_0 (ji8))) a1, wrap64 (s0_1 + 1), Int.tmod (wrap64 ((wrap64 (s0_2 * 48271)) + 29)) 2147483647))) else (none)) else (none)) = some (r1, r2, r3) := by first | (rw [hji8] at H; exact H) | (simp only [hji8] at H ⊢; exact H)
 have hji8w : (IntKind.i64.wrap ((wrap64 (s0_1 + 1)) - 1)) = ji8 := (i64_w _).trans hji8
 by_cases c9 : 0 ≤ (ji8)
 rotate_left
 ·rw [if_neg c9] at H
  exact absurd H (by simp)
 rw [if_pos c9] at H
 have c9b0 : decide (0 ≤ (ji8)) = true := decide_eq_true c9
 clear c9
 by_cases c10 : (ji8) < (s0_0.length : Int)
 rotate_left
 ·rw [if_neg c10] at H
  exact absurd H (by simp)
 rw [if_pos c10] at H
 have c10b0 : decide ((ji8) < (s0_0.length : Int)) = true := decide_eq_true c10
 clear c10
 by_cases c11 : a1 = 0
 ·rw [if_pos c11] at H
  exact absurd H (by simp)
 rw [if_neg c11] at H
 have c11b0 : (a1 == 0) = false := beq_eq_false_iff_ne.mpr c11
 have c11b1 : (a1 != 0) = true := bne_iff_ne.mpr c11
 simp only [Option.some.injEq, Prod.mk.injEq] at H
 obtain ⟨rfl, rfl, rfl⟩ := H
 obtain ⟨ASz12_0, cSz12_0, HGz12, hgz12, HSz12_0⟩ := HI0.out
 have hcz12_0 := cellS78_0 HGz12
 have hcz12_1 := cellS78_1 HGz12
 have hcz12_2 := cellS78_2 HGz12
 have hfz12_1 := blk_frozen HGz12 1
 have hfz12_2 := blk_frozen HGz12 2
 clear HGz12 hgz12
 have p476 : 0 ≤ (s0_1 : Int) := of_decide_eq_true za
 have q476 : s0_1 < (s0_0.length : Int) := of_decide_eq_true za
 obtain ⟨ad476, e476, hx476_0⟩ := Kd.at_int HSz12_0 s0_1 p476 q476
 cases e476
 have hn476_0 : ad476.block ≠ g := Nat.ne_of_lt (Nat.lt_of_lt_of_le (by have := World.block_lt_of_cell? _ _ hx476_0; first | rwa [add_block] at this | exact this) (IsS78.ge HI0.out))
 replace hx476_0 := pw_cell_below HB.out hx476_0
 replace hx476_0 := (cell_far (p := ⟨g, 2, none⟩) (by first | (rw [add_block]; exact hn476_0) | (show (Addr.add _ _).block ≠ _; rw [add_block]; exact hn476_0) | exact hn476_0) (.int .i64 (Int.tmod (wrap64 ((wrap64 (s0_2 * 48271)) + 29)) 2147483647))).trans hx476_0
 (try have hy476_0 := fun (n_ : Nat) => (show (((w.drewN n_).setCell ⟨g, 2, none⟩ (.int .i64 (Int.tmod (wrap64 ((wrap64 (s0_2 * 48271)) + 29)) 2147483647)))).cell? _ = some _ from hx476_0))
 clear hn476_0
 replace p476 := eq_true p476
 replace q476 := eq_true q476
 have p477 : 0 ≤ ((ji8) : Int) := of_decide_eq_true za
 have q477 : (ji8) < (s0_0.length : Int) := of_decide_eq_true za
 obtain ⟨ad477, e477, hx477_0⟩ := Kd.at_int HSz12_0 (ji8) p477 q477
 obtain rfl : ad476 = ad477 := (by injection e477)
 have hn477_0 : ad476.block ≠ g := Nat.ne_of_lt (Nat.lt_of_lt_of_le (by have := World.block_lt_of_cell? _ _ hx477_0; first | rwa [add_block] at this | exact this) (IsS78.ge HI0.out))
 have hn477_1 : ad476.block ≠ g := Nat.ne_of_lt (Nat.lt_of_lt_of_le (by have := World.block_lt_of_cell? _ _ hx477_0; first | rwa [add_block] at this | exact this) (IsS78.ge HI0.out))
 replace hx477_0 := pw_cell_below HB.out hx477_0
 replace hx477_0 := (cell_far (p := ⟨g, 2, none⟩) (by first | (rw [add_block]; exact hn477_0) | (show (Addr.add _ _).block ≠ _; rw [add_block]; exact hn477_0) | exact hn477_0) (.int .i64 (Int.tmod (wrap64 ((wrap64 (s0_2 * 48271)) + 29)) 2147483647))).trans hx477_0
 replace hx477_0 := (cell_far (p := ⟨g, 1, none⟩) (by first | (rw [add_block]; exact hn477_1) | (show (Addr.add _ _).block ≠ _; rw [add_block]; exact hn477_1) | exact hn477_1) (.int .i64 (wrap64 (s0_1 + 1)))).trans hx477_0
 (try have hy477_0 := fun (n_ : Nat) => (show ((((w.drewN n_).setCell ⟨g, 2, none⟩ (.int .i64 (Int.tmod (wrap64 ((wrap64 (s0_2 * 48271)) + 29)) 2147483647))).setCell ⟨g, 1, none⟩ (.int .i64 (wrap64 (s0_1 + 1))))).cell? _ = some _ from hx477_0))
 (try have hv477_0 := fun (n_ : Nat) => (show ((((w.setCell ⟨g, 2, none⟩ (.int .i64 (Int.tmod (wrap64 ((wrap64 (s0_2 * 48271)) + 29)) 2147483647))).drewN n_).setCell ⟨g, 1, none⟩ (.int .i64 (wrap64 (s0_1 + 1))))).cell? _ = some _ from hx477_0))
 clear hn477_0
 clear hn477_1
 replace p477 := eq_true p477
 replace q477 := eq_true q477
 go_enter Try.func47, Try.ntmps47
 go_wp2
 repeat (go_quiet (fail); try go_wp2)
 go_ret
 exact ⟨by first | rfl | (simp [errW_none, errW_some] <;> rfl) | (simp only [← hji8]; first | rfl | (simp [errW_none, errW_some] <;> rfl)) | (simp [*, errW_none, errW_some] <;> rfl), zI78 HI0.out, zs (IsS78.ge HI0.out), zK HK.out⟩
def spec_DrawSolids.f (k : Nat) (l0 : List Int) : Option (Int × Bool) := (spec_l01From.f k l0).bind fun bt478 => ((some (([1, 2, 3, 3, 4, 0, 5] : List Int) : List Int)).bind fun y482 => ((spec_l01Next.f bt478.1 bt478.2.1 bt478.2.2 7).bind fun bt485 => (if 0 ≤ bt485.1 then (if bt485.1 < (y482.length : Int) then ((spec_l01Next.f bt478.1 bt485.2.1 bt485.2.2 2).bind fun bt489 => (some (rd y482 bt485.1, (bt489.1 == 0)))) else (none)) else (none))))
def spec_DrawSolids.T2 : Bool × List (List Nat × List Nat) := (true, [([], []), ([], []), ([1], [1]), ([0, 2], [0, 2]), ([3], [3]), ([], []), ([5, 2], [5]), ([6], [6]), ([4, 6, 0, 1, 2, 3, 4], [4]), ([7, 8, 0, 1, 2, 3, 4, 5, 6, 7, 8], [7])])
def spec_DrawSolids.B2 : List Nat := [0, 0, 2, 7, 15, 0, 38, 102, 127, 511]
theorem spec_DrawSolids.tab2 : rtab .any (opsOf Try.f21 2) = spec_DrawSolids.T2 := by kernel_rfl
theorem spec_DrawSolids.bits2 : waitsOk spec_DrawSolids.T2.2 spec_DrawSolids.B2 = true := by kernel_rfl
theorem spec_DrawSolids.calls (k : Nat) (A0 : Option Addr) (c0 : Nat) (l0 : List Int) (r1 : Int) (r2 : Bool) (w : World) (hr0 : Kd.C (Kd.int .u8) w A0 l0.length l0) (hc0 : l0.length ≤ c0) (h : spec_DrawSolids.f k l0 = some (r1, r2)) :
  Calls Try.prog 21 #[.slice A0 l0.length c0] w fun e w' => e = .returned (.tuple #[.int .i64 r1, .bool r2]) ∧ Below w.heap.size w w' := by
 have HR0 := aM hr0
 have HC0 := aM hc0
 clear hr0 hc0
 have HB := aM (Below.refl w.heap.size w)
 have H : ((spec_l01From.f k l0).bind fun bt478 => ((some (([1, 2, 3, 3, 4, 0, 5] : List Int) : List Int)).bind fun y482 => ((spec_l01Next.f bt478.1 bt478.2.1 bt478.2.2 7).bind fun bt485 => (if 0 ≤ bt485.1 then (if bt485.1 < (y482.length : Int) then ((spec_l01Next.f bt478.1 bt485.2.1 bt485.2.2 2).bind fun bt489 => (some (rd y482 bt485.1, (bt489.1 == 0)))) else (none)) else (none))))) = some (r1, r2) := h
 clear h
 replace H := Option.bind_eq_some_iff.mp H
 obtain ⟨⟨t478, t479, t480⟩, A20, H⟩ := H
 replace H : ((some (([1, 2, 3, 3, 4, 0, 5] : List Int) : List Int)).bind fun y482 => ((spec_l01Next.f t478 t479 t480 7).bind fun bt485 => (if 0 ≤ bt485.1 then (if bt485.1 < (y482.length : Int) then ((spec_l01Next.f t478 bt485.2.1 bt485.2.2 2).bind fun bt489 => (some (rd y482 bt485.1, (bt489.1 == 0)))) else (none)) else (none)))) = some (r1, r2) := H
 have A2 := aM A20
 clear A20
 obtain ⟨y482, hy482⟩ : ∃ y_ : List Int, y_ = (([1, 2, 3, 3, 4, 0, 5] : List Int)) := ⟨_, rfl⟩
 replace H : ((spec_l01Next.f t478 t479 t480 7).bind fun bt485 => (if 0 ≤ bt485.1 then (if bt485.1 < (y482.length : Int) then ((spec_l01Next.f t478 bt485.2.1 bt485.2.2 2).bind fun bt489 => (some (rd y482 bt485.1, (bt489.1 == 0)))) else (none)) else (none))) = some (r1, r2) := zy H hy482
 have Ny482 := aM hy482
 clear hy482
 replace H := Option.bind_eq_some_iff.mp H
 obtain ⟨⟨t485, t486, t487⟩, A30, H⟩ := H
 replace H : (if 0 ≤ t485 then (if t485 < (y482.length : Int) then ((spec_l01Next.f t478 t486 t487 2).bind fun bt489 => (some (rd y482 t485, (bt489.1 == 0)))) else (none)) else (none)) = some (r1, r2) := H
 have A3 := aM A30
 clear A30
 by_cases c4 : 0 ≤ t485
 rotate_left
 ·rw [if_neg c4] at H
  exact absurd H (by simp)
 rw [if_pos c4] at H
 have c4b0 : decide (0 ≤ t485) = true := decide_eq_true c4
 clear c4
 by_cases c5 : t485 < (y482.length : Int)
 rotate_left
 ·rw [if_neg c5] at H
  exact absurd H (by simp)
 rw [if_pos c5] at H
 have c5b0 : decide (t485 < (y482.length : Int)) = true := decide_eq_true c5
 clear c5
 replace H := Option.bind_eq_some_iff.mp H
 obtain ⟨⟨t489, t490, t491⟩, A60, H⟩ := H
 replace H : (some (rd y482 t485, (t489 == 0))) = some (r1, r2) := H
 have A6 := aM A60
 clear A60
 simp only [Option.some.injEq, Prod.mk.injEq] at H
 obtain ⟨rfl, rfl⟩ := H
 go_enter Try.func21, Try.ntmps21
 try go_wp2_with (first | ((with_reducible refine gate_callee (f := 46) rfl ?_); refine goesL_ (some 6) rfl rfl Try.func46 (by kernel_rfl) rfl #[.slice A0 l0.length c0] rfl zm ?_; (with_reducible refine (spec_l01From.calls k _ _ l0 t478 t479 t480 w _ ?side1 ?side2 ?side3 A2.out).mono ?_); (case side1 => repeat (first | (with_reducible first | exact HB.out | apply below_alloc | apply pw_below_drewN | apply below_drew1) | exact HB.out)); (case side2 => exact HR0.out); (case side3 => exact HC0.out); rintro e w7 ⟨g481, rfl, hi, hb, hb2⟩; refine ⟨_, rfl, ?_⟩; have n0_ := aM (hb); have n1_ := aM (hi); clear HB; have HB := n0_; have HI481 := n1_; clear n0_ n1_; (try clear hb); (try clear hb2); (try clear hk); (try clear hi)))
 have pi488 : (0 ≤ (t485 : Int)) = True := eq_true (of_decide_eq_true za)
 have qi488 : (t485 < (y482.length : Int)) = True := eq_true (of_decide_eq_true za)
 have n0_ := aM (IsS78.drew HI481.out)
 have n1_ := aM (below_drew1 HB.out)
 clear HI481
 clear HB
 have HI481 := n0_
 have HB := n1_
 clear n0_ n1_
 refine start_ (n := 10) (S := fun w' => True) (ds := []) zA21 (by kernel_rfl) rfl rfl trivial (fun hHeld => ?_); refine with_tabW spec_DrawSolids.tab2 spec_DrawSolids.bits2 (fun HT_ HW_ => ?_)
 generalize w7.drew = w8 at HI481 HB hHeld ⊢
 refine zp 1 (some 8) ?_ zA121 rfl rfl (Or.inl ⟨by rfl, ?_⟩) ?_ ?_ ?_
 rotate_left
 ·intro w'
  go_simp
  with_reducible rfl
 rotate_left
 ·simp only [Act.put, xA, xB, xC, i64_w, i32_w]
  rfl
 refine zp 5 (some 12) ?_ zA122 rfl rfl (Or.inl ⟨by rfl, ?_⟩) ?_ ?_ ?_
 rotate_left
 ·intro w'
  go_simp
  with_reducible rfl
 rotate_left
 ·simp only [Act.put, xA, xB, xC, i64_w, i32_w]
  rfl
 refine inv_at [0, 2, 3, 4, 6, 7, 8, 9] (fun a0_ b a w' => ∃ (v483 : Value) (adz_v483 : Addr) (m3_ : Value), a = putSel a0_ b [(0, 7, v483), (2, 9, .int .i64 t485), (3, 10, m3_), (4, 11, .int .i64 (rd y482 t485)), (6, 13, .int .i64 t489), (7, 14, .bool (t489 == 0)), (8, 2, .int .i64 (rd y482 t485)), (9, 3, .bool (t489 == 0))] ∧ (b 2 = false → IsS78 w w' g481 t478 t479 t480) ∧ (Below w.heap.size w w') ∧ (b 0 = true → Kd.R (Kd.int .i64) 2 w' w.heap.size (fun _ => True) v483 y482) ∧ (b 0 = true → ∃ c_, (v483 : Value) = .slice (some adz_v483) y482.length c_) ∧ (b 2 = true → b 6 = false → IsS78 w w' g481 t478 t486 t487) ∧ (b 6 = true → IsS78 w w' g481 t478 t490 t491) ∧ (b 3 = true → (m3_ : Value) = .pointer (some (adz_v483.add (t485).toNat)))) HT_.out HW_.out (by kernel_rfl) (by kernel_rfl) ?_ ?_ ?_
 ·exact ⟨.bool false, ⟨0, 0, none⟩, .bool false, by simp only [putSel, Bool.false_eq_true, if_false], fun _ => HI481.out, HB.out, fun h_ => absurd h_ (by decide), fun h_ => absurd h_ (by decide), fun h_ => absurd h_ (by decide), fun h_ => absurd h_ (by decide), fun h_ => absurd h_ (by decide)⟩
 ·skip
  clear HB HI481
  refine steps_cons ?_ ?_
  ·rintro b a w' ⟨v483, adz_v483, m3_, ha, Q_HI481, Q_HB, Q_HO484, Q_HA_HO484, Q_HI481_e2, Q_HI481_e6, Q_X3_⟩ hb_ hon hoff
   refine ⟨_, rfl, fun K hK => ?_⟩
   replace ha := aM ha
   have HB := aM Q_HB
   refine Kd.R_lit_step (Kd.int .i64) _ 2 ?hg (N := 7) ?hd (xs := ([1, 2, 3, 3, 4, 0, 5] : List Int)) (inner := [.int .i64 1, .int .i64 2, .int .i64 3, .int .i64 3, .int .i64 4, .int .i64 0, .int .i64 5]) (ok := fun _ => True) (okp := fun _ => True) ?hr ?hp (fun _ hk => hk) trivial (Below.refl _ _) (Nat.le_refl _) (by simp) ?_; (case hd => rfl); (case hg => rfl); (case hr => first | (go_simp; done) | (go_simp; rfl)); (case hp => exact (Reps.one (show Kd.M (Kd.int .i64) _ _ _ 1 [.int .i64 1] from rfl) (Reps.one (show Kd.M (Kd.int .i64) _ _ _ 2 [.int .i64 2] from rfl) (Reps.one (show Kd.M (Kd.int .i64) _ _ _ 3 [.int .i64 3] from rfl) (Reps.one (show Kd.M (Kd.int .i64) _ _ _ 3 [.int .i64 3] from rfl) (Reps.one (show Kd.M (Kd.int .i64) _ _ _ 4 [.int .i64 4] from rfl) (Reps.one (show Kd.M (Kd.int .i64) _ _ _ 0 [.int .i64 0] from rfl) (Reps.one (show Kd.M (Kd.int .i64) _ _ _ 5 [.int .i64 5] from rfl) (Reps.none _ _)))))))))
   intro v483 w9 ho10 hb hg_ hnew_
   clear hg_ hnew_
   (first | rw [← Ny482.out] at ho10 | (simp only [Int.reduceToNat] at ho10; rw [← Ny482.out] at ho10))
   have n0_ := aM (Kd.R_lower ho10 (below_size zb))
   have n2_ := aM (below_step zb hb)
   have z_HI481 := fun (h0_ : b 2 = false) => (show IsS78 w w9 g481 t478 t479 t480 from by first | exact (IsS78.below (by repeat (first | (with_reducible first | exact (Q_HI481 h0_) | apply IsS78.alloc | apply IsS78.drewN | apply IsS78.drew | apply IsS78.set_1 | apply IsS78.set_2) | exact (Q_HI481 h0_))) hb))
   have z_HI481_e2 := fun (h0_ : b 2 = true) (h1_ : b 6 = false) => (show IsS78 w w9 g481 t478 t486 t487 from by first | exact (IsS78.below (by repeat (first | (with_reducible first | exact (Q_HI481_e2 h0_ h1_) | apply IsS78.alloc | apply IsS78.drewN | apply IsS78.drew | apply IsS78.set_1 | apply IsS78.set_2) | exact (Q_HI481_e2 h0_ h1_))) hb))
   have z_HI481_e6 := fun (h0_ : b 6 = true) => (show IsS78 w w9 g481 t478 t490 t491 from by first | exact (IsS78.below (by repeat (first | (with_reducible first | exact (Q_HI481_e6 h0_) | apply IsS78.alloc | apply IsS78.drewN | apply IsS78.drew | apply IsS78.set_1 | apply IsS78.set_2) | exact (Q_HI481_e6 h0_))) hb))
   clear HB
   have HO484 := n0_
   have HB := n2_
   clear n0_ n2_
   clear hb ho10
   obtain ⟨Ao11, co11, eo11⟩ := Kd.R_slice HO484.out
   subst eo11
   obtain ⟨ado11, fo11, _⟩ := Kd.at_int (Kd.R_reads' HO484.out).2.2 0 (by decide) (by rw [Ny482.out]; simp)
   cases fo11
   refine hK.out _ _ ⟨.slice (some ado11) y482.length co11, ado11, m3_, (by rw [ha.out]; exact putSel_upk 0 hb_ rfl rfl rfl), z_HI481, zb, fun _ => (mR_ HO484.out), fun _ => ⟨_, rfl⟩, z_HI481_e2, z_HI481_e6, fun h0_ => absurd ((hoff 3 (by kernel_rfl)).symm.trans h0_) (by decide)⟩
  refine steps_cons ?_ ?_
  ·rintro b a w' ⟨v483, adz_v483, m3_, ha, Q_HI481, Q_HB, Q_HO484, Q_HA_HO484, Q_HI481_e2, Q_HI481_e6, Q_X3_⟩ hb_ hon hoff
   refine ⟨_, rfl, fun K hK => ?_⟩
   have e8 : a.tmps[8]? = some (.pointer (some ⟨g481, 0, none⟩)) := by rw [ha]; exact (putSel_off rfl).trans rfl
   replace ha := aM ha
   have HI481 := aM (Q_HI481 hb_)
   have HB := aM Q_HB
   refine goes_ Try.func47 (by kernel_rfl) rfl #[.pointer (some ⟨g481, 0, none⟩), .int .i64 7] (by rfl) rfl rfl (by first | (simp only [mA, mB, mC, Act.eval, Array.getD_eq_getD_getElem?, Option.getD_some, e8]; done) | (simp only [mA, mB, mC, Act.eval, Array.getD_eq_getD_getElem?, Option.getD_some, e8]; rfl)) ?_
   with_reducible refine (spec_l01Next.calls g481 t478 t479 t480 7 t485 t486 t487 w _ ?side1 ?side2 A3.out).mono ?_
   (case side1 => exact zI78 HI481.out)
   (case side2 => exact zs (IsS78.ge HI481.out))
   rintro e w9 ⟨rfl, hi, hb, hk⟩
   refine ⟨_, rfl, ?_⟩
   have n0_ := aM (hb)
   have n1_ := aM (hi)
   have z_HO484 := fun (h0_ : b 0 = true) => (show Kd.R (Kd.int .i64) 2 w9 w.heap.size (fun _ => True) v483 y482 from by first | exact (Kd.R_mono (Kd.R_keep (IsS78.apart (show IsS78 w _ g481 t478 t479 t480 from zI78 HI481.out) (by (with_reducible repeat (first | apply Kd.R_alloc | apply Kd.R_drewN | apply Kd.R_drew)); exact (Q_HO484 h0_)) (by decide)) hk (fun _ h => h.2)) (fun _ h => h.1)) | exact Kd.R_mono (Kd.R_mono (Kd.R_keep (IsS78.apart (show IsS78 w _ g481 t478 t479 t480 from zI78 HI481.out) (by (with_reducible repeat (first | apply Kd.R_alloc | apply Kd.R_drewN | apply Kd.R_drew)); exact (Q_HO484 h0_)) (by decide)) hk (fun _ h => h.2)) (fun _ h => h.1)) (fun _ h_ => by first | trivial | exact h_ | exact h_.1))
   clear HB
   clear HI481
   have HB := n0_
   have HI481 := n1_
   clear n0_ n1_
   (try clear hb)
   (try clear hb2)
   (try clear hk)
   (try clear hi)
   refine hK.out _ _ ⟨v483, adz_v483, m3_, (by rw [ha.out]; exact putSel_upk 1 hb_ rfl rfl rfl), fun h0_ => absurd ((up_self b 2).symm.trans h0_) (by decide), (zs (IsS78.ge HI481.out)), z_HO484, Q_HA_HO484, fun _ _ => (zI78 HI481.out), fun h0_ => absurd ((hoff 6 (by kernel_rfl)).symm.trans h0_) (by decide), fun h0_ => absurd ((hoff 3 (by kernel_rfl)).symm.trans h0_) (by decide)⟩
  refine steps_cons ?_ ?_
  ·rintro b a w' ⟨v483, adz_v483, m3_, ha, Q_HI481, Q_HB, Q_HO484, Q_HA_HO484, Q_HI481_e2, Q_HI481_e6, Q_X3_⟩ hb_ hon hoff
   refine ⟨_, rfl, fun K hK => ?_⟩
   have e7 : a.tmps[7]? = some (v483) := by rw [ha]; exact putSel_on (e := (0, 7, v483)) 0 rfl rfl (hon 0 (by kernel_rfl)) rfl
   have e9 : a.tmps[9]? = some (.int .i64 t485) := by rw [ha]; exact putSel_on (e := (2, 9, .int .i64 t485)) 1 rfl rfl (hon 2 (by kernel_rfl)) rfl
   replace ha := aM ha
   have HB := aM Q_HB
   have HO484 := aM (Q_HO484 (hon 0 (by kernel_rfl)))
   have HA_HO484 := aM (Q_HA_HO484 (hon 0 (by kernel_rfl)))
   obtain ⟨c_, hv_⟩ := HA_HO484.out
   rw [hv_] at e7
   refine value_ (w1 := w') (v := .pointer (some (adz_v483.add (t485).toNat))) (by rfl) rfl ?_ ?_
   ·go_simp
    (try simp only [i64_w])
    try rfl
   refine hK.out _ _ ⟨v483, adz_v483, (.pointer (some (adz_v483.add (t485).toNat))), (by rw [ha.out]; exact putSel_upk 2 hb_ rfl rfl rfl), fun h0_ => absurd ((hon 2 (by kernel_rfl)).symm.trans h0_) (by decide), Q_HB, Q_HO484, Q_HA_HO484, Q_HI481_e2, Q_HI481_e6, fun _ => rfl⟩
  refine steps_cons ?_ ?_
  ·rintro b a w' ⟨v483, adz_v483, m3_, ha, Q_HI481, Q_HB, Q_HO484, Q_HA_HO484, Q_HI481_e2, Q_HI481_e6, Q_X3_⟩ hb_ hon hoff
   refine ⟨_, rfl, fun K hK => ?_⟩
   have e10 : a.tmps[10]? = some (m3_) := by rw [ha]; exact putSel_on (e := (3, 10, m3_)) 2 rfl rfl (hon 3 (by kernel_rfl)) rfl
   rw [Q_X3_ (hon 3 (by kernel_rfl))] at e10
   replace ha := aM ha
   have HB := aM Q_HB
   have HO484 := aM (Q_HO484 (hon 0 (by kernel_rfl)))
   have HA_HO484 := aM (Q_HA_HO484 (hon 0 (by kernel_rfl)))
   obtain ⟨c_, hv_⟩ := HA_HO484.out
   have hF_ := HO484.out
   rw [hv_] at hF_
   obtain ⟨ad_, ea_, hx_⟩ := Kd.at_int (Kd.R_reads' hF_).2.2 t485 (of_eq_true pi488) (of_eq_true qi488)
   cases ea_
   refine value_ (w1 := w') (v := .int .i64 (rd y482 t485)) (by rfl) rfl ?_ ?_
   ·go_simp
    (try simp only [i64_w])
    try rfl
   refine hK.out _ _ ⟨v483, adz_v483, m3_, (by rw [ha.out]; exact putSel_upk 3 hb_ rfl rfl rfl), fun h0_ => absurd ((hon 2 (by kernel_rfl)).symm.trans h0_) (by decide), Q_HB, Q_HO484, Q_HA_HO484, Q_HI481_e2, Q_HI481_e6, Q_X3_⟩
  refine steps_cons ?_ ?_
  ·rintro b a w' ⟨v483, adz_v483, m3_, ha, Q_HI481, Q_HB, Q_HO484, Q_HA_HO484, Q_HI481_e2, Q_HI481_e6, Q_X3_⟩ hb_ hon hoff
   refine ⟨_, rfl, fun K hK => ?_⟩
   have e12 : a.tmps[12]? = some (.pointer (some ⟨g481, 0, none⟩)) := by rw [ha]; exact (putSel_off rfl).trans rfl
   replace ha := aM ha
   have HB := aM Q_HB
   have HI481 := aM (Q_HI481_e2 (hon 2 (by kernel_rfl)) hb_)
   refine goes_ Try.func47 (by kernel_rfl) rfl #[.pointer (some ⟨g481, 0, none⟩), .int .i64 2] (by rfl) rfl rfl (by first | (simp only [mA, mB, mC, Act.eval, Array.getD_eq_getD_getElem?, Option.getD_some, e12]; done) | (simp only [mA, mB, mC, Act.eval, Array.getD_eq_getD_getElem?, Option.getD_some, e12]; rfl)) ?_
   with_reducible refine (spec_l01Next.calls g481 t478 t486 t487 2 t489 t490 t491 w _ ?side1 ?side2 A6.out).mono ?_
   (case side1 => exact zI78 HI481.out)
   (case side2 => exact zs (IsS78.ge HI481.out))
   rintro e w11 ⟨rfl, hi, hb, hk⟩
   refine ⟨_, rfl, ?_⟩
   have n0_ := aM (hb)
   have n1_ := aM (hi)
   have z_HO484 := fun (h0_ : b 0 = true) => (show Kd.R (Kd.int .i64) 2 w11 w.heap.size (fun _ => True) v483 y482 from by first | exact (Kd.R_mono (Kd.R_keep (IsS78.apart (show IsS78 w _ g481 t478 t486 t487 from zI78 HI481.out) (by (with_reducible repeat (first | apply Kd.R_alloc | apply Kd.R_drewN | apply Kd.R_drew)); exact (Q_HO484 h0_)) (by decide)) hk (fun _ h => h.2)) (fun _ h => h.1)) | exact Kd.R_mono (Kd.R_mono (Kd.R_keep (IsS78.apart (show IsS78 w _ g481 t478 t486 t487 from zI78 HI481.out) (by (with_reducible repeat (first | apply Kd.R_alloc | apply Kd.R_drewN | apply Kd.R_drew)); exact (Q_HO484 h0_)) (by decide)) hk (fun _ h => h.2)) (fun _ h => h.1)) (fun _ h_ => by first | trivial | exact h_ | exact h_.1))
   clear HB
   clear HI481
   have HB := n0_
   have HI481 := n1_
   clear n0_ n1_
   (try clear hb)
   (try clear hb2)
   (try clear hk)
   (try clear hi)
   refine hK.out _ _ ⟨v483, adz_v483, m3_, (by rw [ha.out]; exact putSel_upk 4 hb_ rfl rfl rfl), fun h0_ => absurd ((hon 2 (by kernel_rfl)).symm.trans h0_) (by decide), (zs (IsS78.ge HI481.out)), z_HO484, Q_HA_HO484, fun _ h1_ => absurd ((up_self b 6).symm.trans h1_) (by decide), fun _ => (zI78 HI481.out), Q_X3_⟩
  refine steps_cons ?_ ?_
  ·rintro b a w' ⟨v483, adz_v483, m3_, ha, Q_HI481, Q_HB, Q_HO484, Q_HA_HO484, Q_HI481_e2, Q_HI481_e6, Q_X3_⟩ hb_ hon hoff
   refine ⟨_, rfl, fun K hK => ?_⟩
   have e13 : a.tmps[13]? = some (.int .i64 t489) := by rw [ha]; exact putSel_on (e := (6, 13, .int .i64 t489)) 4 rfl rfl (hon 6 (by kernel_rfl)) rfl
   replace ha := aM ha
   have HB := aM Q_HB
   have HI481 := aM (Q_HI481_e6 (hon 6 (by kernel_rfl)))
   refine value_ (w1 := w') (v := .bool (t489 == 0)) (by rfl) rfl ?_ ?_
   ·go_simp
    (try simp only [i64_w])
    try rfl
   refine hK.out _ _ ⟨v483, adz_v483, m3_, (by rw [ha.out]; exact putSel_upk 5 hb_ rfl rfl rfl), fun h0_ => absurd ((hon 2 (by kernel_rfl)).symm.trans h0_) (by decide), Q_HB, Q_HO484, Q_HA_HO484, fun _ h1_ => absurd ((hon 6 (by kernel_rfl)).symm.trans h1_) (by decide), Q_HI481_e6, Q_X3_⟩
  refine steps_cons ?_ ?_
  ·rintro b a w' ⟨v483, adz_v483, m3_, ha, Q_HI481, Q_HB, Q_HO484, Q_HA_HO484, Q_HI481_e2, Q_HI481_e6, Q_X3_⟩ hb_ hon hoff
   refine ⟨_, rfl, fun K hK => ?_⟩
   have e11 : a.tmps[11]? = some (.int .i64 (rd y482 t485)) := by rw [ha]; exact putSel_on (e := (4, 11, .int .i64 (rd y482 t485))) 3 rfl rfl (hon 4 (by kernel_rfl)) rfl
   replace ha := aM ha
   have HB := aM Q_HB
   have HO484 := aM (Q_HO484 (hon 0 (by kernel_rfl)))
   have HA_HO484 := aM (Q_HA_HO484 (hon 0 (by kernel_rfl)))
   have HI481 := aM (Q_HI481_e6 (hon 6 (by kernel_rfl)))
   refine value_ (w1 := w') (v := .int .i64 (rd y482 t485)) (by rfl) rfl ?_ ?_
   ·go_simp
    (try simp only [i64_w])
    try rfl
   refine hK.out _ _ ⟨v483, adz_v483, m3_, (by rw [ha.out]; exact putSel_upk 6 hb_ rfl rfl rfl), fun h0_ => absurd ((hon 2 (by kernel_rfl)).symm.trans h0_) (by decide), Q_HB, Q_HO484, Q_HA_HO484, fun _ h1_ => absurd ((hon 6 (by kernel_rfl)).symm.trans h1_) (by decide), Q_HI481_e6, Q_X3_⟩
  refine steps_cons ?_ ?_
  ·rintro b a w' ⟨v483, adz_v483, m3_, ha, Q_HI481, Q_HB, Q_HO484, Q_HA_HO484, Q_HI481_e2, Q_HI481_e6, Q_X3_⟩ hb_ hon hoff
   refine ⟨_, rfl, fun K hK => ?_⟩
   have e14 : a.tmps[14]? = some (.bool (t489 == 0)) := by rw [ha]; exact putSel_on (e := (7, 14, .bool (t489 == 0))) 5 rfl rfl (hon 7 (by kernel_rfl)) rfl
   replace ha := aM ha
   have HB := aM Q_HB
   have HO484 := aM (Q_HO484 (hon 0 (by kernel_rfl)))
   have HA_HO484 := aM (Q_HA_HO484 (hon 0 (by kernel_rfl)))
   have HI481 := aM (Q_HI481_e6 (hon 6 (by kernel_rfl)))
   refine value_ (w1 := w') (v := .bool (t489 == 0)) (by rfl) rfl ?_ ?_
   ·go_simp
    (try simp only [i64_w])
    try rfl
   refine hK.out _ _ ⟨v483, adz_v483, m3_, (by rw [ha.out]; exact putSel_upk 7 hb_ rfl rfl rfl), fun h0_ => absurd ((hon 2 (by kernel_rfl)).symm.trans h0_) (by decide), Q_HB, Q_HO484, Q_HA_HO484, fun _ h1_ => absurd ((hon 6 (by kernel_rfl)).symm.trans h1_) (by decide), Q_HI481_e6, Q_X3_⟩
  exact steps_nil
 rintro b a w14 hall ⟨v483, adz_v483, m3_, ha, Q_HI481, Q_HB, Q_HO484, Q_HA_HO484, Q_HI481_e2, Q_HI481_e6, Q_X3_⟩
 clear HB HI481
 have hb0_ := hall 0 (by kernel_rfl)
 have hb2_ := hall 2 (by kernel_rfl)
 have hb3_ := hall 3 (by kernel_rfl)
 have hb4_ := hall 4 (by kernel_rfl)
 have hb6_ := hall 6 (by kernel_rfl)
 have hb7_ := hall 7 (by kernel_rfl)
 have hb8_ := hall 8 (by kernel_rfl)
 have hb9_ := hall 9 (by kernel_rfl)
 subst ha
 obtain rfl := Q_X3_ hb3_
 simp only [putSel, hb0_, hb2_, hb3_, hb4_, hb6_, hb7_, hb8_, hb9_, if_true, Act.put, xA, xB, xC]
 clear Q_HI481
 have HB := aM Q_HB
 clear Q_HB
 have HO484 := aM (Q_HO484 hb0_)
 clear Q_HO484
 have HA_HO484 := aM (Q_HA_HO484 hb0_)
 clear Q_HA_HO484
 clear Q_HI481_e2
 have HI481 := aM (Q_HI481_e6 hb6_)
 clear Q_HI481_e6
 clear hall hb0_ hb2_ hb3_ hb4_ hb6_ hb7_ hb8_ hb9_
 obtain ⟨co15, eo15⟩ := HA_HO484.out
 clear HA_HO484
 subst eo15
 try go_wp2
 go_ret2
 exact ⟨zw, zs (IsS78.ge HI481.out)⟩
def spec_DrawCountSolids.f (k : Nat) (l0 : List Int) : Option (Int) := (spec_DrawSolids.f k l0).bind fun bt492 => (some bt492.1)
theorem spec_DrawCountSolids.calls (k : Nat) (A0 : Option Addr) (c0 : Nat) (l0 : List Int) (r : Int) (w : World) (hr0 : Kd.C (Kd.int .u8) w A0 l0.length l0) (hc0 : l0.length ≤ c0) (h : spec_DrawCountSolids.f k l0 = some r) :
  Calls Try.prog 9 #[.slice A0 l0.length c0] w fun e w' => e = .returned (.int .i64 r) ∧ Below w.heap.size w w' := by
 have HR0 := aM hr0
 have HC0 := aM hc0
 clear hr0 hc0
 have HB := aM (Below.refl w.heap.size w)
 have H : ((spec_DrawSolids.f k l0).bind fun bt492 => (some bt492.1)) = some r := h
 clear h
 replace H := Option.bind_eq_some_iff.mp H
 obtain ⟨⟨t492, t493⟩, A20, H⟩ := H
 replace H : (some t492) = some r := H
 have A2 := aM A20
 clear A20
 obtain rfl := Option.some.inj H
 go_enter Try.func9, Try.ntmps9
 go_wp2_with (first | ((with_reducible refine gate_callee (f := 21) rfl ?_); refine goesL_ (some 7) rfl rfl Try.func21 (by kernel_rfl) rfl #[.slice A0 l0.length c0] rfl zm ?_; (with_reducible refine (spec_DrawSolids.calls k _ _ l0 t492 t493 _ ?side1 ?side2 A2.out).mono ?_); (case side1 => repeat (first | exact HR0.out | (with_reducible refine Kd.C_alloc ?_ _) | (with_reducible refine Kd.C_drewN ?_ _) | (with_reducible refine Kd.C_drew ?_))); (case side2 => exact HC0.out); rintro e w3 ⟨rfl, hb⟩; refine ⟨_, rfl, ?_⟩; have n0_ := aM (below_step zb hb); clear HB; have HB := n0_; clear n0_; (try clear hb); (try clear hb2); (try clear hk); (try clear hi)))
 go_ret
 exact ⟨zw, zb⟩
def impl_Solids.f (k : Nat) (a0 : Int) (a1 : Bool) : Option ((List (List (S43))) × Int) := (impl_within.f a0 1 4).bind fun t494 => (if t494 = true then ((impl_allSolids.f k a0).bind fun t495 => ((impl_ownSolids.f k t495 a1).bind fun t498 => (some (t498, 0)))) else (some (([] : List (List (S43))), 2)))
theorem impl_Solids.calls (k : Nat) (a0 : Int) (a1 : Bool) (r1 : List (List (S43))) (r2 : Int) (w : World) (h : impl_Solids.f k a0 a1 = some (r1, r2)) :
  Calls Try.prog 10 #[.int .i64 a0, .bool a1] w fun e w' => ∃ v0_ : Value, e = .returned (.tuple #[v0_, .int .i64 r2]) ∧ Kd.S (Kd.slice 43 k43) 40 w' w.heap.size (fun _ => True) v0_ r1 ∧ Below w.heap.size w w' := by
 have HB := aM (Below.refl w.heap.size w)
 have H : ((impl_within.f a0 1 4).bind fun t494 => (if t494 = true then ((impl_allSolids.f k a0).bind fun t495 => ((impl_ownSolids.f k t495 a1).bind fun t498 => (some (t498, 0)))) else (some (([] : List (List (S43))), 2)))) = some (r1, r2) := h
 clear h
 replace H := Option.bind_eq_some_iff.mp H
 obtain ⟨t494, A30, H⟩ := H
 replace H : (if t494 = true then ((impl_allSolids.f k a0).bind fun t495 => ((impl_ownSolids.f k t495 a1).bind fun t498 => (some (t498, 0)))) else (some (([] : List (List (S43))), 2))) = some (r1, r2) := H
 have A3 := aM A30
 clear A30
 by_cases c4 : t494 = true
 rotate_left
 ·replace c4 := Bool.eq_false_iff.mpr c4
  subst c4
  have H1 : (some (([] : List (List (S43))), 2)) = some (r1, r2) := by rw [if_neg (show ¬ (false = true) by decide)] at H; exact H
  clear H
  have H := H1
  clear H1
  simp only [Option.some.injEq, Prod.mk.injEq] at H
  obtain ⟨rfl, rfl⟩ := H
  go_enter Try.func10, Try.ntmps10
  go_wp2_with (first | ((with_reducible refine gate_callee (f := 18) rfl ?_); refine goesL_ (some 7) rfl rfl Try.func18 (by kernel_rfl) rfl #[.int .i64 a0, .int .i64 1, .int .i64 4] rfl zm ?_; (with_reducible refine (impl_within.calls a0 1 4 false _ A3.out).mono ?_); rintro e w' ⟨rfl, ⟨nd, rfl⟩⟩; refine ⟨_, rfl, ?_⟩))
  go_ret2
  exact ⟨_, zw, by first | exact Kd.S_nil _ _ _ _ _ | exact Kd.N_nil _ _ _ _ _ | exact Kd.V_nil _ _ _ _ _ | exact Kd.Q_nil _ _ _ _ _ | exact Kd.R_nil _ _ _ _ _, zb⟩
 subst c4
 have H1 : ((impl_allSolids.f k a0).bind fun t495 => ((impl_ownSolids.f k t495 a1).bind fun t498 => (some (t498, 0)))) = some (r1, r2) := by rw [if_pos rfl] at H; exact H
 clear H
 have H := H1
 clear H1
 replace H := Option.bind_eq_some_iff.mp H
 obtain ⟨t495, A50, H⟩ := H
 replace H : ((impl_ownSolids.f k t495 a1).bind fun t498 => (some (t498, 0))) = some (r1, r2) := H
 have A5 := aM A50
 clear A50
 replace H := Option.bind_eq_some_iff.mp H
 obtain ⟨t498, A60, H⟩ := H
 replace H : (some (t498, 0)) = some (r1, r2) := H
 have A6 := aM A60
 clear A60
 simp only [Option.some.injEq, Prod.mk.injEq] at H
 obtain ⟨rfl, rfl⟩ := H
 go_enter Try.func10, Try.ntmps10
 go_wp2_with (first | ((with_reducible refine gate_callee (f := 18) rfl ?_); refine goesL_ (some 7) rfl rfl Try.func18 (by kernel_rfl) rfl #[.int .i64 a0, .int .i64 1, .int .i64 4] rfl zm ?_; (with_reducible refine (impl_within.calls a0 1 4 true _ A3.out).mono ?_); rintro e w' ⟨rfl, ⟨nd, rfl⟩⟩; refine ⟨_, rfl, ?_⟩) | ((with_reducible refine gate_callee (f := 19) rfl ?_); refine goesL_ (some 10) rfl rfl Try.func19 (by kernel_rfl) rfl #[.int .i64 a0] rfl zm ?_; (with_reducible refine (impl_allSolids.calls k a0 t495 _ A5.out).mono ?_); rintro e w7 ⟨v496, rfl, ho0, hb⟩; refine ⟨_, rfl, ?_⟩; have n0_ := aM (VO_low (Kd.V_mono (ok' := fun k_ => True) ho0 (fun k_ hk_ => trivial)) (below_size zb)); have n1_ := aM (below_step zb hb); clear HB; have HO497 := n0_; have HB := n1_; clear n0_ n1_; (try clear hb); (try clear hb2); (try clear hk); (try clear hi); (try clear ho0); obtain ⟨Ao8, co8, eo8⟩ := Kd.V_slice HO497.out; subst eo8) | ((with_reducible refine gate_callee (f := 20) rfl ?_); refine goesL_ (some 12) rfl rfl Try.func20 (by kernel_rfl) rfl #[.slice Ao8 t495.length co8, .bool a1] rfl zm ?_; (with_reducible refine (impl_ownSolids.calls k (fun k_ => True) _ _ t495 a1 t498 _ (b_ := w.heap.size) (below_size zb) ?side1 A6.out).mono ?_); (case side1 => exact HO497.out); rintro e w9 ⟨v499, rfl, ho0, hb⟩; refine ⟨_, rfl, ?_⟩; have n0_ := aM (Kd.V_below (mV_ HO497.out) hb); have n1_ := aM (Kd.S_mono (ok' := fun k_ => True) ho0 (fun _ hk_ => trivial)); have n2_ := aM (below_step zb hb); clear HO497 HB; have HO497 := n0_; have HO500 := n1_; have HB := n2_; clear n0_ n1_ n2_; (try clear hb); (try clear hb2); (try clear hk); (try clear hi); (try clear ho0)))
 go_ret2
 exact ⟨_, zw, mS_ HO500.out, zb⟩
def laws_FnSolidTotals.j0 : Nat → Int → Int → Int → Int → Int → Bool → Option (Bool)
 | 0, _, _, _, _, _, _ => none
 | k + 1, x3, x4, x5, x6, x7, x51 => if x51 = true then (some false) else (if x7 = 0 then ((impl_Solids.f k x3 false).bind fun bt511 => ((impl_Solids.f k x3 true).bind fun bt515 => (if bt511.2 = 0 then (if bt515.2 = 0 then (if (bt511.1.length : Int) = x5 then (if (bt515.1.length : Int) = x6 then (if x6 ≤ x5 then (if x5 ≤ x4 then (some (decide (x4 ≤ (wrap64 (24 * x5))))) else (some false)) else (some false)) else (some false)) else (some false)) else (some false)) else (some false)))) else (some true))
def laws_FnSolidTotals.f (k : Nat) (l0 : List Int) : Option (Bool) := (laws_big.f l0).bind fun t501 => (if t501 = true then (some true) else ((spec_DrawCountSolids.f k l0).bind fun t502 => ((impl_CountSolids.f k t502).bind fun bt503 => ((spec_CountSolids.f k t502).bind fun bt507 => (if bt503.2.2.2 = bt507.2.2.2 then (if bt503.1 = bt507.1 then (if bt503.2.1 = bt507.2.1 then (laws_FnSolidTotals.j0 k t502 bt503.1 bt503.2.1 bt503.2.2.1 bt503.2.2.2 (bt503.2.2.1 != bt507.2.2.1)) else (laws_FnSolidTotals.j0 k t502 bt503.1 bt503.2.1 bt503.2.2.1 bt503.2.2.2 true)) else (laws_FnSolidTotals.j0 k t502 bt503.1 bt503.2.1 bt503.2.2.1 bt503.2.2.2 true)) else (laws_FnSolidTotals.j0 k t502 bt503.1 bt503.2.1 bt503.2.2.1 bt503.2.2.2 true))))))
theorem laws_FnSolidTotals.calls (k : Nat) (A0 : Option Addr) (c0 : Nat) (l0 : List Int) (r : Bool) (w : World) (hr0 : Kd.C (Kd.int .u8) w A0 l0.length l0) (hc0 : l0.length ≤ c0) (h : laws_FnSolidTotals.f k l0 = some r) :
  Calls Try.prog 4 #[.slice A0 l0.length c0] w fun e w' => e = .returned (.bool r) ∧ Below w.heap.size w w' := by
 have HR0 := aM hr0
 have HC0 := aM hc0
 clear hr0 hc0
 have HB := aM (Below.refl w.heap.size w)
 have H : ((laws_big.f l0).bind fun t501 => (if t501 = true then (some true) else ((spec_DrawCountSolids.f k l0).bind fun t502 => ((impl_CountSolids.f k t502).bind fun bt503 => ((spec_CountSolids.f k t502).bind fun bt507 => (if bt503.2.2.2 = bt507.2.2.2 then (if bt503.1 = bt507.1 then (if bt503.2.1 = bt507.2.1 then (laws_FnSolidTotals.j0 k t502 bt503.1 bt503.2.1 bt503.2.2.1 bt503.2.2.2 (bt503.2.2.1 != bt507.2.2.1)) else (laws_FnSolidTotals.j0 k t502 bt503.1 bt503.2.1 bt503.2.2.1 bt503.2.2.2 true)) else (laws_FnSolidTotals.j0 k t502 bt503.1 bt503.2.1 bt503.2.2.1 bt503.2.2.2 true)) else (laws_FnSolidTotals.j0 k t502 bt503.1 bt503.2.1 bt503.2.2.1 bt503.2.2.2 true))))))) = some r := h
 clear h
 replace H := Option.bind_eq_some_iff.mp H
 obtain ⟨t501, A20, H⟩ := H
 replace H : (if t501 = true then (some true) else ((spec_DrawCountSolids.f k l0).bind fun t502 => ((impl_CountSolids.f k t502).bind fun bt503 => ((spec_CountSolids.f k t502).bind fun bt507 => (if bt503.2.2.2 = bt507.2.2.2 then (if bt503.1 = bt507.1 then (if bt503.2.1 = bt507.2.1 then (laws_FnSolidTotals.j0 k t502 bt503.1 bt503.2.1 bt503.2.2.1 bt503.2.2.2 (bt503.2.2.1 != bt507.2.2.1)) else (laws_FnSolidTotals.j0 k t502 bt503.1 bt503.2.1 bt503.2.2.1 bt503.2.2.2 true)) else (laws_FnSolidTotals.j0 k t502 bt503.1 bt503.2.1 bt503.2.2.1 bt503.2.2.2 true)) else (laws_FnSolidTotals.j0 k t502 bt503.1 bt503.2.1 bt503.2.2.1 bt503.2.2.2 true)))))) = some r := H
 have A2 := aM A20
 clear A20
 by_cases c3 : t501 = true
 ·subst c3
  have H1 : (some true) = some r := by rw [if_pos rfl] at H; exact H
  clear H
  have H := H1
  clear H1
  obtain rfl := Option.some.inj H
  go_enter Try.func4, Try.ntmps4
  go_wp2_with (first | ((with_reducible refine gate_callee (f := 8) rfl ?_); refine goesL_ (some 17) rfl rfl Try.func8 (by kernel_rfl) rfl #[.slice A0 l0.length c0] rfl zm ?_; (with_reducible refine (laws_big.calls _ _ l0 true _ ?side1 ?side2 A2.out).mono ?_); (case side1 => repeat (first | exact HR0.out | (with_reducible refine Kd.C_alloc ?_ _) | (with_reducible refine Kd.C_drewN ?_ _) | (with_reducible refine Kd.C_drew ?_))); (case side2 => exact HC0.out); rintro e w' ⟨rfl, ⟨nd, rfl⟩⟩; refine ⟨_, rfl, ?_⟩))
  go_ret
  exact ⟨zw, zb⟩
 replace c3 := Bool.eq_false_iff.mpr c3
 subst c3
 have H1 : ((spec_DrawCountSolids.f k l0).bind fun t502 => ((impl_CountSolids.f k t502).bind fun bt503 => ((spec_CountSolids.f k t502).bind fun bt507 => (if bt503.2.2.2 = bt507.2.2.2 then (if bt503.1 = bt507.1 then (if bt503.2.1 = bt507.2.1 then (laws_FnSolidTotals.j0 k t502 bt503.1 bt503.2.1 bt503.2.2.1 bt503.2.2.2 (bt503.2.2.1 != bt507.2.2.1)) else (laws_FnSolidTotals.j0 k t502 bt503.1 bt503.2.1 bt503.2.2.1 bt503.2.2.2 true)) else (laws_FnSolidTotals.j0 k t502 bt503.1 bt503.2.1 bt503.2.2.1 bt503.2.2.2 true)) else (laws_FnSolidTotals.j0 k t502 bt503.1 bt503.2.1 bt503.2.2.1 bt503.2.2.2 true))))) = some r := by rw [if_neg (show ¬ (false = true) by decide)] at H; exact H
 clear H
 have H := H1
 clear H1
 replace H := Option.bind_eq_some_iff.mp H
 obtain ⟨t502, A40, H⟩ := H
 replace H : ((impl_CountSolids.f k t502).bind fun bt503 => ((spec_CountSolids.f k t502).bind fun bt507 => (if bt503.2.2.2 = bt507.2.2.2 then (if bt503.1 = bt507.1 then (if bt503.2.1 = bt507.2.1 then (laws_FnSolidTotals.j0 k t502 bt503.1 bt503.2.1 bt503.2.2.1 bt503.2.2.2 (bt503.2.2.1 != bt507.2.2.1)) else (laws_FnSolidTotals.j0 k t502 bt503.1 bt503.2.1 bt503.2.2.1 bt503.2.2.2 true)) else (laws_FnSolidTotals.j0 k t502 bt503.1 bt503.2.1 bt503.2.2.1 bt503.2.2.2 true)) else (laws_FnSolidTotals.j0 k t502 bt503.1 bt503.2.1 bt503.2.2.1 bt503.2.2.2 true)))) = some r := H
 have A4 := aM A40
 clear A40
 replace H := Option.bind_eq_some_iff.mp H
 obtain ⟨⟨t503, t504, t505, t506⟩, A50, H⟩ := H
 replace H : ((spec_CountSolids.f k t502).bind fun bt507 => (if t506 = bt507.2.2.2 then (if t503 = bt507.1 then (if t504 = bt507.2.1 then (laws_FnSolidTotals.j0 k t502 t503 t504 t505 t506 (t505 != bt507.2.2.1)) else (laws_FnSolidTotals.j0 k t502 t503 t504 t505 t506 true)) else (laws_FnSolidTotals.j0 k t502 t503 t504 t505 t506 true)) else (laws_FnSolidTotals.j0 k t502 t503 t504 t505 t506 true))) = some r := H
 have A5 := aM A50
 clear A50
 replace H := Option.bind_eq_some_iff.mp H
 obtain ⟨⟨t507, t508, t509, t510⟩, A60, H⟩ := H
 replace H : (if t506 = t510 then (if t503 = t507 then (if t504 = t508 then (laws_FnSolidTotals.j0 k t502 t503 t504 t505 t506 (t505 != t509)) else (laws_FnSolidTotals.j0 k t502 t503 t504 t505 t506 true)) else (laws_FnSolidTotals.j0 k t502 t503 t504 t505 t506 true)) else (laws_FnSolidTotals.j0 k t502 t503 t504 t505 t506 true)) = some r := H
 have A6 := aM A60
 clear A60
 have HC7 := aM H
 clear H
 go_enter Try.func4, Try.ntmps4
 go_upto_region 6 with (first | ((with_reducible refine gate_callee (f := 8) rfl ?_); refine goesL_ (some 17) rfl rfl Try.func8 (by kernel_rfl) rfl #[.slice A0 l0.length c0] rfl zm ?_; (with_reducible refine (laws_big.calls _ _ l0 false _ ?side1 ?side2 A2.out).mono ?_); (case side1 => repeat (first | exact HR0.out | (with_reducible refine Kd.C_alloc ?_ _) | (with_reducible refine Kd.C_drewN ?_ _) | (with_reducible refine Kd.C_drew ?_))); (case side2 => exact HC0.out); rintro e w' ⟨rfl, ⟨nd, rfl⟩⟩; refine ⟨_, rfl, ?_⟩) | ((with_reducible refine gate_callee (f := 9) rfl ?_); refine goesL_ (some 19) rfl rfl Try.func9 (by kernel_rfl) rfl #[.slice A0 l0.length c0] rfl zm ?_; (with_reducible refine (spec_DrawCountSolids.calls k _ _ l0 t502 _ ?side1 ?side2 A4.out).mono ?_); (case side1 => repeat (first | exact HR0.out | (with_reducible refine Kd.C_alloc ?_ _) | (with_reducible refine Kd.C_drewN ?_ _) | (with_reducible refine Kd.C_drew ?_))); (case side2 => exact HC0.out); rintro e w8 ⟨rfl, hb⟩; refine ⟨_, rfl, ?_⟩; have n0_ := aM (below_step zb hb); clear HB; have HB := n0_; clear n0_; (try clear hb); (try clear hb2); (try clear hk); (try clear hi)) | ((with_reducible refine gate_callee (f := 7) rfl ?_); refine goesL_ (some 22) rfl rfl Try.func7 (by kernel_rfl) rfl #[.int .i64 t502] rfl zm ?_; (with_reducible refine (impl_CountSolids.calls k t502 t503 t504 t505 t506 _ A5.out).mono ?_); rintro e w9 ⟨rfl, hb⟩; refine ⟨_, rfl, ?_⟩; have n0_ := aM (below_step zb hb); clear HB; have HB := n0_; clear n0_; (try clear hb); (try clear hb2); (try clear hk); (try clear hi)) | ((with_reducible refine gate_callee (f := 6) rfl ?_); refine goesL_ (some 29) rfl rfl Try.func6 (by kernel_rfl) rfl #[.int .i64 t502] rfl zm ?_; (with_reducible refine (spec_CountSolids.calls k t502 t507 t508 t509 t510 _ A6.out).mono ?_); rintro e w10 ⟨rfl, hb⟩; refine ⟨_, rfl, ?_⟩; have n0_ := aM (below_step zb hb); clear HB; have HB := n0_; clear n0_; (try clear hb); (try clear hb2); (try clear hk); (try clear hi)))
 (try simp only [Act.put, xA, xB, xC])
 go_cut [51] (fun v51 wc => ∃ (kq : Nat) (x51_6 : Bool), v51 = .bool x51_6 ∧ Aside0 (laws_FnSolidTotals.j0 kq t502 t503 t504 t505 t506 x51_6 = some r) ∧ Aside0 (kq ≤ k) ∧ Aside0 (Below w.heap.size w wc))
 case first =>
  have H := HC7.out
  clear HC7
  by_cases c11 : t506 = t510
  rotate_left
  ·rw [if_neg c11] at H
   have c11b0 : (t506 == t510) = false := beq_eq_false_iff_ne.mpr c11
   have c11b1 : (t506 != t510) = true := bne_iff_ne.mpr c11
   (first | rw [c11b0] | (simp only [i64_w, i32_w]; rw [c11b0]) | skip)
   have H' := aM H
   clear H
   go_wp2
   go_meet
   case rel => exact ⟨_, (true), zr, H', ⟨by first | omega | exact Nat.le_refl _⟩, ⟨zb⟩⟩
  rw [if_pos c11] at H
  have c11b0 : (t506 == t510) = true := beq_iff_eq.mpr c11
  have c11b1 : (t506 != t510) = false := bne_eq_false_iff_eq.mpr c11
  clear c11
  (first | rw [c11b0] | (simp only [i64_w, i32_w]; rw [c11b0]) | skip)
  by_cases c12 : t503 = t507
  rotate_left
  ·rw [if_neg c12] at H
   have c12b0 : (t503 == t507) = false := beq_eq_false_iff_ne.mpr c12
   have c12b1 : (t503 != t507) = true := bne_iff_ne.mpr c12
   have H' := aM H
   clear H
   go_wp2
   go_meet
   case rel => exact ⟨_, (true), zr, H', ⟨by first | omega | exact Nat.le_refl _⟩, ⟨zb⟩⟩
  rw [if_pos c12] at H
  have c12b0 : (t503 == t507) = true := beq_iff_eq.mpr c12
  have c12b1 : (t503 != t507) = false := bne_eq_false_iff_eq.mpr c12
  clear c12
  by_cases c13 : t504 = t508
  rotate_left
  ·rw [if_neg c13] at H
   have c13b0 : (t504 == t508) = false := beq_eq_false_iff_ne.mpr c13
   have c13b1 : (t504 != t508) = true := bne_iff_ne.mpr c13
   have H' := aM H
   clear H
   go_wp2
   go_meet
   case rel => exact ⟨_, (true), zr, H', ⟨by first | omega | exact Nat.le_refl _⟩, ⟨zb⟩⟩
  rw [if_pos c13] at H
  have c13b0 : (t504 == t508) = true := beq_iff_eq.mpr c13
  have c13b1 : (t504 != t508) = false := bne_eq_false_iff_eq.mpr c13
  clear c13
  have H' := aM H
  clear H
  go_wp2
  go_meet
  case rel => exact ⟨_, ((t505 != t509)), zr, H', ⟨by first | omega | exact Nat.le_refl _⟩, ⟨zb⟩⟩
 case rest =>
  clear HC7
  try clear c1
  try clear p2
  try clear c3
  try clear c4
  try clear c6
  try clear c7
  try clear c8
  try clear c9
  try clear c11
  try clear c11b0
  try clear c11b1
  try clear c12
  try clear c12b0
  try clear c12b1
  try clear c13
  try clear c13b0
  try clear c13b1
  obtain ⟨kq, x51_6, rfl, HA, HJ6, HB⟩ := hcut
  cases kq with
  | zero => exact absurd HA.out (by simp [laws_FnSolidTotals.j0])
  | succ kj6 =>
   have H := HA.out
   clear HA
   simp only [laws_FnSolidTotals.j0] at H
   by_cases c14 : x51_6 = true
   ·subst c14
    have H1 : (some false) = some r := by rw [if_pos rfl] at H; exact H
    clear H
    have H := H1
    clear H1
    obtain rfl := Option.some.inj H
    go_wp2
    go_ret
    exact ⟨zw, zb⟩
   replace c14 := Bool.eq_false_iff.mpr c14
   subst c14
   have H1 : (if t506 = 0 then ((impl_Solids.f kj6 t502 false).bind fun bt511 => ((impl_Solids.f kj6 t502 true).bind fun bt515 => (if bt511.2 = 0 then (if bt515.2 = 0 then (if (bt511.1.length : Int) = t504 then (if (bt515.1.length : Int) = t505 then (if t505 ≤ t504 then (if t504 ≤ t503 then (some (decide (t503 ≤ (wrap64 (24 * t504))))) else (some false)) else (some false)) else (some false)) else (some false)) else (some false)) else (some false)))) else (some true)) = some r := by rw [if_neg (show ¬ (false = true) by decide)] at H; exact H
   clear H
   have H := H1
   clear H1
   by_cases c15 : t506 = 0
   rotate_left
   ·rw [if_neg c15] at H
    have c15b0 : (t506 == 0) = false := beq_eq_false_iff_ne.mpr c15
    have c15b1 : (t506 != 0) = true := bne_iff_ne.mpr c15
    obtain rfl := Option.some.inj H
    go_wp2
    go_ret
    exact ⟨zw, zb⟩
   rw [if_pos c15] at H
   have c15b0 : (t506 == 0) = true := beq_iff_eq.mpr c15
   have c15b1 : (t506 != 0) = false := bne_eq_false_iff_eq.mpr c15
   clear c15
   replace H := Option.bind_eq_some_iff.mp H
   obtain ⟨⟨t511, t512⟩, A160, H⟩ := H
   replace H : ((impl_Solids.f kj6 t502 true).bind fun bt515 => (if t512 = 0 then (if bt515.2 = 0 then (if (t511.length : Int) = t504 then (if (bt515.1.length : Int) = t505 then (if t505 ≤ t504 then (if t504 ≤ t503 then (some (decide (t503 ≤ (wrap64 (24 * t504))))) else (some false)) else (some false)) else (some false)) else (some false)) else (some false)) else (some false))) = some r := H
   have A16 := aM A160
   clear A160
   replace H := Option.bind_eq_some_iff.mp H
   obtain ⟨⟨t515, t516⟩, A170, H⟩ := H
   replace H : (if t512 = 0 then (if t516 = 0 then (if (t511.length : Int) = t504 then (if (t515.length : Int) = t505 then (if t505 ≤ t504 then (if t504 ≤ t503 then (some (decide (t503 ≤ (wrap64 (24 * t504))))) else (some false)) else (some false)) else (some false)) else (some false)) else (some false)) else (some false)) = some r := H
   have A17 := aM A170
   clear A170
   by_cases c18 : t512 = 0
   rotate_left
   ·rw [if_neg c18] at H
    have c18b0 : (t512 == 0) = false := beq_eq_false_iff_ne.mpr c18
    have c18b1 : (t512 != 0) = true := bne_iff_ne.mpr c18
    obtain rfl := Option.some.inj H
    go_wp2_with (first | ((with_reducible refine gate_callee (f := 10) rfl ?_); refine goesL_ (some 56) rfl rfl Try.func10 (by kernel_rfl) rfl #[.int .i64 t502, .bool false] rfl zm ?_; (with_reducible refine (impl_Solids.calls kj6 t502 false t511 t512 _ A16.out).mono ?_); rintro e w45 ⟨v513, rfl, ho0, hb⟩; refine ⟨_, rfl, ?_⟩; have n0_ := aM (Kd.S_lower ho0 (below_size zb)); have n1_ := aM (below_step zb hb); clear HB; have HO514 := n0_; have HB := n1_; clear n0_ n1_; (try clear hb); (try clear hb2); (try clear hk); (try clear hi); (try clear ho0)) | ((with_reducible refine gate_callee (f := 10) rfl ?_); refine goesL_ (some 61) rfl rfl Try.func10 (by kernel_rfl) rfl #[.int .i64 t502, .bool true] rfl zm ?_; (with_reducible refine (impl_Solids.calls kj6 t502 true t515 t516 _ A17.out).mono ?_); rintro e w46 ⟨v517, rfl, ho0, hb⟩; refine ⟨_, rfl, ?_⟩; have n0_ := aM (Kd.S_elder' (mS_ HO514.out) (Kd.S_base ho0) hb); have n1_ := aM (Kd.S_lower (Kd.S_new' ho0 (Kd.S_lt (mS_ HO514.out))) (below_size zb)); have n2_ := aM (below_step zb hb); clear HO514 HB; have HO514 := n0_; have HO518 := n1_; have HB := n2_; clear n0_ n1_ n2_; (try clear hb); (try clear hb2); (try clear hk); (try clear hi); (try clear ho0)))
    go_ret
    exact ⟨zw, zb⟩
   rw [if_pos c18] at H
   have c18b0 : (t512 == 0) = true := beq_iff_eq.mpr c18
   have c18b1 : (t512 != 0) = false := bne_eq_false_iff_eq.mpr c18
   clear c18
   by_cases c19 : t516 = 0
   rotate_left
   ·rw [if_neg c19] at H
    have c19b0 : (t516 == 0) = false := beq_eq_false_iff_ne.mpr c19
    have c19b1 : (t516 != 0) = true := bne_iff_ne.mpr c19
    obtain rfl := Option.some.inj H
    go_wp2_with (first | ((with_reducible refine gate_callee (f := 10) rfl ?_); refine goesL_ (some 56) rfl rfl Try.func10 (by kernel_rfl) rfl #[.int .i64 t502, .bool false] rfl zm ?_; (with_reducible refine (impl_Solids.calls kj6 t502 false t511 t512 _ A16.out).mono ?_); rintro e w43 ⟨v513, rfl, ho0, hb⟩; refine ⟨_, rfl, ?_⟩; have n0_ := aM (Kd.S_lower ho0 (below_size zb)); have n1_ := aM (below_step zb hb); clear HB; have HO514 := n0_; have HB := n1_; clear n0_ n1_; (try clear hb); (try clear hb2); (try clear hk); (try clear hi); (try clear ho0)) | ((with_reducible refine gate_callee (f := 10) rfl ?_); refine goesL_ (some 61) rfl rfl Try.func10 (by kernel_rfl) rfl #[.int .i64 t502, .bool true] rfl zm ?_; (with_reducible refine (impl_Solids.calls kj6 t502 true t515 t516 _ A17.out).mono ?_); rintro e w44 ⟨v517, rfl, ho0, hb⟩; refine ⟨_, rfl, ?_⟩; have n0_ := aM (Kd.S_elder' (mS_ HO514.out) (Kd.S_base ho0) hb); have n1_ := aM (Kd.S_lower (Kd.S_new' ho0 (Kd.S_lt (mS_ HO514.out))) (below_size zb)); have n2_ := aM (below_step zb hb); clear HO514 HB; have HO514 := n0_; have HO518 := n1_; have HB := n2_; clear n0_ n1_ n2_; (try clear hb); (try clear hb2); (try clear hk); (try clear hi); (try clear ho0)))
    go_ret
    exact ⟨zw, zb⟩
   rw [if_pos c19] at H
   have c19b0 : (t516 == 0) = true := beq_iff_eq.mpr c19
   have c19b1 : (t516 != 0) = false := bne_eq_false_iff_eq.mpr c19
   clear c19
   by_cases c20 : (t511.length : Int) = t504
   rotate_left
   ·rw [if_neg c20] at H
    have c20b0 : ((t511.length : Int) == t504) = false := beq_eq_false_iff_ne.mpr c20
    have c20b1 : ((t511.length : Int) != t504) = true := bne_iff_ne.mpr c20
    obtain rfl := Option.some.inj H
    go_wp2_with (first | ((with_reducible refine gate_callee (f := 10) rfl ?_); refine goesL_ (some 56) rfl rfl Try.func10 (by kernel_rfl) rfl #[.int .i64 t502, .bool false] rfl zm ?_; (with_reducible refine (impl_Solids.calls kj6 t502 false t511 t512 _ A16.out).mono ?_); rintro e w40 ⟨v513, rfl, ho0, hb⟩; refine ⟨_, rfl, ?_⟩; have n0_ := aM (Kd.S_lower ho0 (below_size zb)); have n1_ := aM (below_step zb hb); clear HB; have HO514 := n0_; have HB := n1_; clear n0_ n1_; (try clear hb); (try clear hb2); (try clear hk); (try clear hi); (try clear ho0)) | ((with_reducible refine gate_callee (f := 10) rfl ?_); refine goesL_ (some 61) rfl rfl Try.func10 (by kernel_rfl) rfl #[.int .i64 t502, .bool true] rfl zm ?_; (with_reducible refine (impl_Solids.calls kj6 t502 true t515 t516 _ A17.out).mono ?_); rintro e w41 ⟨v517, rfl, ho0, hb⟩; refine ⟨_, rfl, ?_⟩; have n0_ := aM (Kd.S_elder' (mS_ HO514.out) (Kd.S_base ho0) hb); have n1_ := aM (Kd.S_lower (Kd.S_new' ho0 (Kd.S_lt (mS_ HO514.out))) (below_size zb)); have n2_ := aM (below_step zb hb); clear HO514 HB; have HO514 := n0_; have HO518 := n1_; have HB := n2_; clear n0_ n1_ n2_; (try clear hb); (try clear hb2); (try clear hk); (try clear hi); (try clear ho0); obtain ⟨Ao42, co42, eo42⟩ := Kd.S_slice HO514.out; subst eo42))
    go_ret
    exact ⟨zw, zb⟩
   rw [if_pos c20] at H
   have c20b0 : ((t511.length : Int) == t504) = true := beq_iff_eq.mpr c20
   have c20b1 : ((t511.length : Int) != t504) = false := bne_eq_false_iff_eq.mpr c20
   clear c20
   by_cases c21 : (t515.length : Int) = t505
   rotate_left
   ·rw [if_neg c21] at H
    have c21b0 : ((t515.length : Int) == t505) = false := beq_eq_false_iff_ne.mpr c21
    have c21b1 : ((t515.length : Int) != t505) = true := bne_iff_ne.mpr c21
    obtain rfl := Option.some.inj H
    go_wp2_with (first | ((with_reducible refine gate_callee (f := 10) rfl ?_); refine goesL_ (some 56) rfl rfl Try.func10 (by kernel_rfl) rfl #[.int .i64 t502, .bool false] rfl zm ?_; (with_reducible refine (impl_Solids.calls kj6 t502 false t511 t512 _ A16.out).mono ?_); rintro e w36 ⟨v513, rfl, ho0, hb⟩; refine ⟨_, rfl, ?_⟩; have n0_ := aM (Kd.S_lower ho0 (below_size zb)); have n1_ := aM (below_step zb hb); clear HB; have HO514 := n0_; have HB := n1_; clear n0_ n1_; (try clear hb); (try clear hb2); (try clear hk); (try clear hi); (try clear ho0)) | ((with_reducible refine gate_callee (f := 10) rfl ?_); refine goesL_ (some 61) rfl rfl Try.func10 (by kernel_rfl) rfl #[.int .i64 t502, .bool true] rfl zm ?_; (with_reducible refine (impl_Solids.calls kj6 t502 true t515 t516 _ A17.out).mono ?_); rintro e w37 ⟨v517, rfl, ho0, hb⟩; refine ⟨_, rfl, ?_⟩; have n0_ := aM (Kd.S_elder' (mS_ HO514.out) (Kd.S_base ho0) hb); have n1_ := aM (Kd.S_lower (Kd.S_new' ho0 (Kd.S_lt (mS_ HO514.out))) (below_size zb)); have n2_ := aM (below_step zb hb); clear HO514 HB; have HO514 := n0_; have HO518 := n1_; have HB := n2_; clear n0_ n1_ n2_; (try clear hb); (try clear hb2); (try clear hk); (try clear hi); (try clear ho0); obtain ⟨Ao38, co38, eo38⟩ := Kd.S_slice HO514.out; subst eo38; obtain ⟨Ao39, co39, eo39⟩ := Kd.S_slice HO518.out; subst eo39))
    go_ret
    exact ⟨zw, zb⟩
   rw [if_pos c21] at H
   have c21b0 : ((t515.length : Int) == t505) = true := beq_iff_eq.mpr c21
   have c21b1 : ((t515.length : Int) != t505) = false := bne_eq_false_iff_eq.mpr c21
   clear c21
   by_cases c22 : t505 ≤ t504
   rotate_left
   ·rw [if_neg c22] at H
    have c22b0 : decide (t505 ≤ t504) = false := decide_eq_false c22
    clear c22
    obtain rfl := Option.some.inj H
    go_wp2_with (first | ((with_reducible refine gate_callee (f := 10) rfl ?_); refine goesL_ (some 56) rfl rfl Try.func10 (by kernel_rfl) rfl #[.int .i64 t502, .bool false] rfl zm ?_; (with_reducible refine (impl_Solids.calls kj6 t502 false t511 t512 _ A16.out).mono ?_); rintro e w32 ⟨v513, rfl, ho0, hb⟩; refine ⟨_, rfl, ?_⟩; have n0_ := aM (Kd.S_lower ho0 (below_size zb)); have n1_ := aM (below_step zb hb); clear HB; have HO514 := n0_; have HB := n1_; clear n0_ n1_; (try clear hb); (try clear hb2); (try clear hk); (try clear hi); (try clear ho0)) | ((with_reducible refine gate_callee (f := 10) rfl ?_); refine goesL_ (some 61) rfl rfl Try.func10 (by kernel_rfl) rfl #[.int .i64 t502, .bool true] rfl zm ?_; (with_reducible refine (impl_Solids.calls kj6 t502 true t515 t516 _ A17.out).mono ?_); rintro e w33 ⟨v517, rfl, ho0, hb⟩; refine ⟨_, rfl, ?_⟩; have n0_ := aM (Kd.S_elder' (mS_ HO514.out) (Kd.S_base ho0) hb); have n1_ := aM (Kd.S_lower (Kd.S_new' ho0 (Kd.S_lt (mS_ HO514.out))) (below_size zb)); have n2_ := aM (below_step zb hb); clear HO514 HB; have HO514 := n0_; have HO518 := n1_; have HB := n2_; clear n0_ n1_ n2_; (try clear hb); (try clear hb2); (try clear hk); (try clear hi); (try clear ho0); obtain ⟨Ao34, co34, eo34⟩ := Kd.S_slice HO514.out; subst eo34; obtain ⟨Ao35, co35, eo35⟩ := Kd.S_slice HO518.out; subst eo35))
    go_ret
    exact ⟨zw, zb⟩
   rw [if_pos c22] at H
   have c22b0 : decide (t505 ≤ t504) = true := decide_eq_true c22
   clear c22
   by_cases c23 : t504 ≤ t503
   ·rw [if_pos c23] at H
    have c23b0 : decide (t504 ≤ t503) = true := decide_eq_true c23
    clear c23
    obtain rfl := Option.some.inj H
    go_wp2_with (first | ((with_reducible refine gate_callee (f := 10) rfl ?_); refine goesL_ (some 56) rfl rfl Try.func10 (by kernel_rfl) rfl #[.int .i64 t502, .bool false] rfl zm ?_; (with_reducible refine (impl_Solids.calls kj6 t502 false t511 t512 _ A16.out).mono ?_); rintro e w24 ⟨v513, rfl, ho0, hb⟩; refine ⟨_, rfl, ?_⟩; have n0_ := aM (Kd.S_lower ho0 (below_size zb)); have n1_ := aM (below_step zb hb); clear HB; have HO514 := n0_; have HB := n1_; clear n0_ n1_; (try clear hb); (try clear hb2); (try clear hk); (try clear hi); (try clear ho0)) | ((with_reducible refine gate_callee (f := 10) rfl ?_); refine goesL_ (some 61) rfl rfl Try.func10 (by kernel_rfl) rfl #[.int .i64 t502, .bool true] rfl zm ?_; (with_reducible refine (impl_Solids.calls kj6 t502 true t515 t516 _ A17.out).mono ?_); rintro e w25 ⟨v517, rfl, ho0, hb⟩; refine ⟨_, rfl, ?_⟩; have n0_ := aM (Kd.S_elder' (mS_ HO514.out) (Kd.S_base ho0) hb); have n1_ := aM (Kd.S_lower (Kd.S_new' ho0 (Kd.S_lt (mS_ HO514.out))) (below_size zb)); have n2_ := aM (below_step zb hb); clear HO514 HB; have HO514 := n0_; have HO518 := n1_; have HB := n2_; clear n0_ n1_ n2_; (try clear hb); (try clear hb2); (try clear hk); (try clear hi); (try clear ho0); obtain ⟨Ao26, co26, eo26⟩ := Kd.S_slice HO514.out; subst eo26; obtain ⟨Ao27, co27, eo27⟩ := Kd.S_slice HO518.out; subst eo27))
    go_ret
    exact ⟨zw, zb⟩
   rw [if_neg c23] at H
   have c23b0 : decide (t504 ≤ t503) = false := decide_eq_false c23
   clear c23
   obtain rfl := Option.some.inj H
   go_wp2_with (first | ((with_reducible refine gate_callee (f := 10) rfl ?_); refine goesL_ (some 56) rfl rfl Try.func10 (by kernel_rfl) rfl #[.int .i64 t502, .bool false] rfl zm ?_; (with_reducible refine (impl_Solids.calls kj6 t502 false t511 t512 _ A16.out).mono ?_); rintro e w28 ⟨v513, rfl, ho0, hb⟩; refine ⟨_, rfl, ?_⟩; have n0_ := aM (Kd.S_lower ho0 (below_size zb)); have n1_ := aM (below_step zb hb); clear HB; have HO514 := n0_; have HB := n1_; clear n0_ n1_; (try clear hb); (try clear hb2); (try clear hk); (try clear hi); (try clear ho0)) | ((with_reducible refine gate_callee (f := 10) rfl ?_); refine goesL_ (some 61) rfl rfl Try.func10 (by kernel_rfl) rfl #[.int .i64 t502, .bool true] rfl zm ?_; (with_reducible refine (impl_Solids.calls kj6 t502 true t515 t516 _ A17.out).mono ?_); rintro e w29 ⟨v517, rfl, ho0, hb⟩; refine ⟨_, rfl, ?_⟩; have n0_ := aM (Kd.S_elder' (mS_ HO514.out) (Kd.S_base ho0) hb); have n1_ := aM (Kd.S_lower (Kd.S_new' ho0 (Kd.S_lt (mS_ HO514.out))) (below_size zb)); have n2_ := aM (below_step zb hb); clear HO514 HB; have HO514 := n0_; have HO518 := n1_; have HB := n2_; clear n0_ n1_ n2_; (try clear hb); (try clear hb2); (try clear hk); (try clear hi); (try clear ho0); obtain ⟨Ao30, co30, eo30⟩ := Kd.S_slice HO514.out; subst eo30; obtain ⟨Ao31, co31, eo31⟩ := Kd.S_slice HO518.out; subst eo31))
   go_ret
   exact ⟨zw, zb⟩
end Go.Proofs.Ytlompfboheiliaa.F
end
section
namespace Go.Proofs.Ytlompfboheiliaa.Open
open Go.ChangeShapes Go.WideShapes Go.Deep Go.RowKit Go.Proofs.YtlompfboheiliaaW.PrintWords
def Opens {α : Type} (P : Program) (d : Kd α) (t : TypeId) (V : α → Prop) : Prop :=
  ∀ (H : Type) (enc : TypeId × Value → H) (w : World) (base : Nat) (spare : Nat → Bool) (held : Bool) (fuel : Nat) (cs : List Value) (x : DataW H × List MemPlace),
    DataW.trod enc P w base spare held fuel t cs = some x → ∃ a : α, d.K w a cs ∧ V a
theorem Opens.int {P : Program} {t : TypeId} {k : IntKind} (ht : P.underlying t = some (.int k)) : Opens P (Kd.int k) t (fun a => (Lit.int k a).wf = true) := by
  intro H enc w base spare held fuel cs x h
  obtain ⟨n, hcs, _, hw⟩ := DataW.trod_int ht h
  exact ⟨n, hcs, hw⟩
theorem Opens.bool {P : Program} {t : TypeId} (ht : P.underlying t = some .bool) : Opens P Kd.bool t (fun _ => True) := by
  intro H enc w base spare held fuel cs x h
  obtain ⟨b, hcs, _⟩ := DataW.trod_bool ht h
  exact ⟨b, hcs, trivial⟩
theorem Opens.slice {α : Type} [Inhabited α] {P : Program} {t e : TypeId} {d : Kd α} {V : α → Prop} (ht : P.underlying t = some (.slice e)) (hsz : P.cellsOf e = d.sz) (ho : Opens P d e V) :
    Opens P (Kd.slice e d) t (fun l => l.length ≤ 9223372036854775807 ∧ ∀ a ∈ l, V a) := by
  intro H enc w base spare held fuel cs x h
  rcases open_slice ht h with ⟨rfl, _⟩ | ⟨a, len, cap, m, n, D, Pl, rfl, hb, hl, hm, hmm, _, hi⟩
  · exact ⟨[], ⟨none, 0, rfl, Nat.le_refl _, rfl, by simp, fun hp => absurd hp (by simp)⟩, by simp, by simp⟩
  · have hlm : len ≤ m := by rw [hmm]; split <;> omega
    have hx : ∀ i, i < len → ∃ y : α, V y ∧ ∃ c : List Value, c.length = d.sz ∧ d.K w y c ∧ ∀ j u, c[j]? = some u → w.cell? (a.add (i * d.sz + j)) = some u := by
      intro i hil
      obtain ⟨cs', hc, ht'⟩ := hi i (by omega)
      obtain ⟨y, hk, hv⟩ := ho H enc w base spare held n cs' _ ht'
      obtain ⟨_, hcl, hat⟩ := World.cells?_some hc
      refine ⟨y, hv, cs', d.K_len hk, hk, fun j u hj => ?_⟩
      have hjl : j < cs'.length := (List.getElem?_eq_some_iff.1 hj).1
      have := hat j (by rw [hsz, ← d.K_len hk]; exact hjl)
      rw [Go.Deep.add_add, hsz] at this
      rw [this, hj]
    obtain ⟨f, hf⟩ := choose_lt hx
    have hlen : ((List.range len).map f).length = len := by simp
    refine ⟨(List.range len).map f, ⟨some a, cap, by rw [hlen], by rw [hlen]; exact hl, rfl, ?_, fun _ => ⟨a, rfl, fun j p hj => ?_⟩⟩, ?_⟩
    · rw [hlen]; unfold maxLen at hm; omega
    · have hjl : j < len := by
        have := (List.getElem?_eq_some_iff.1 hj).1
        rwa [hlen] at this
      have hp : f j = p := by
        rw [List.getElem?_map, List.getElem?_range hjl] at hj
        simpa using hj
      obtain ⟨_, c, h1, h2, h3⟩ := hf j hjl
      rw [hp] at h2
      exact ⟨c, h1, h2, h3⟩
    · refine ⟨by rw [hlen]; unfold maxLen at hm; omega, fun y hy => ?_⟩
      obtain ⟨i, hi', rfl⟩ := List.mem_map.1 hy
      exact (hf i (List.mem_range.1 hi')).1
theorem arg_open {α : Type} {P : Program} {t : TypeId} {d : Kd α} {V : α → Prop} (ho : Opens P d t V) {H : Type} {enc : TypeId × Value → H} {w : World} {base : Nat} {spare : Nat → Bool} {held : Bool} {v : Value} {x : DataW H} {p : List MemPlace}
    (h : DataW.Trod enc P w base spare held t v x p) : ∃ a : α, d.K w a v.cells.toList ∧ V a := by
  obtain ⟨fuel, hf⟩ := h
  exact ho _ _ _ _ _ _ _ _ _ hf
theorem slice_arg {α : Type} {d : Kd α} {e : Nat} {w : World} {l : List α} {a : Option Addr} {len cap : Nat} (h : (Kd.slice e d).K w l (Value.slice a len cap).cells.toList) : l.length = len ∧ l.length ≤ cap ∧ d.C w a l.length l := by
  obtain ⟨A, c, hcs, hl, hr⟩ := h
  simp [Value.cells] at hcs
  obtain ⟨rfl, rfl, rfl⟩ := hcs
  exact ⟨rfl, hl, hr⟩
end Go.Proofs.Ytlompfboheiliaa.Open
end
section
namespace Go.Proofs.Ytlompfboheiliaa.L
open Go.RowKit Go.Proofs.YtlompfboheiliaaW.PrintWords
theorem Ev.pos {α : Type} {c : Prop} [Decidable c] {f g : Nat → Option α} {r : α} (h : c) (e : Ev f r) : Ev (fun k => if c then f k else g k) r := by
  obtain ⟨K, e⟩ := e
  exact ⟨K, fun k hk => (if_pos h).trans (e k hk)⟩
theorem Ev.neg {α : Type} {c : Prop} [Decidable c] {f g : Nat → Option α} {r : α} (h : ¬ c) (e : Ev g r) : Ev (fun k => if c then f k else g k) r := by
  obtain ⟨K, e⟩ := e
  exact ⟨K, fun k hk => (if_neg h).trans (e k hk)⟩
theorem Ev.if_ {α : Type} {c : Prop} [Decidable c] {f g : Nat → Option α} {r s : α} (h : c → Ev f r) (h' : ¬ c → Ev g s) : Ev (fun k => if c then f k else g k) (if c then r else s) := by
  by_cases hc : c
  · rw [if_pos hc]; exact Ev.pos hc (h hc)
  · rw [if_neg hc]; exact Ev.neg hc (h' hc)
theorem Ev.of_eq {α : Type} {g : Nat → Option α} {r s : α} (h : Ev g r) (e : r = s) : Ev g s := e ▸ h
theorem Ev.bind0 {α β : Type} {o : Option α} {f : Nat → α → Option β} {a : α} {r : β} (h : o = some a) (k : Ev (fun n => f n a) r) : Ev (fun n => o.bind (f n)) r := by
  subst h
  exact k
theorem Ev.succ {α : Type} {g : Nat → Option α} {r : α} (h : Ev (fun k => g (k + 1)) r) : Ev g r := by
  obtain ⟨K, h⟩ := h
  refine ⟨K + 1, fun n hn => ?_⟩
  obtain ⟨m, rfl⟩ : ∃ m, n = m + 1 := ⟨n - 1, by omega⟩
  exact h m (by omega)
theorem w64 {n : Int} (h : -9223372036854775808 ≤ n) (h' : n ≤ 9223372036854775807) : wrap64 n = n := by
  unfold wrap64
  omega
theorem getD_at {α : Type} (pre suf : List α) (c d : α) : (pre ++ c :: suf).getD (pre.length : Int).toNat d = c := by
  simp [List.getD]
end Go.Proofs.Ytlompfboheiliaa.L
namespace Go.Proofs.Ytlompfboheiliaa.L
open Go.RowKit Go.Proofs.YtlompfboheiliaaW.PrintWords
theorem loop_list {α σ ρ : Type} (xs : List α) (l : Nat → Int → σ → Option ρ) (g : List α → List α → σ → ρ) (Inv : List α → σ → Prop)
    (hn : ∀ s, Inv xs s → Ev (fun k => l (k + 1) (xs.length : Int) s) (g xs [] s))
    (hs : ∀ (pre : List α) (c : α) (suf : List α) (s : σ), xs = pre ++ c :: suf → Inv pre s → (∀ s', Inv (pre ++ [c]) s' → Ev (fun k => l k ((pre.length : Int) + 1) s') (g (pre ++ [c]) suf s')) → Ev (fun k => l (k + 1) (pre.length : Int) s) (g pre (c :: suf) s)) :
    ∀ s, Inv [] s → Ev (fun k => l k 0 s) (g [] xs s) := by
  have key : ∀ (suf pre : List α), xs = pre ++ suf → ∀ s, Inv pre s → Ev (fun k => l k (pre.length : Int) s) (g pre suf s) := by
    intro suf
    induction suf with
    | nil =>
      intro pre hx s hi
      rw [List.append_nil] at hx
      subst hx
      exact Ev.succ (hn s hi)
    | cons c suf ih =>
      intro pre hx s hi
      refine Ev.succ (hs pre c suf s hx hi fun s' hi' => ?_)
      have := ih (pre ++ [c]) (by rw [hx]; simp) s' hi'
      rw [List.length_append] at this
      exact this
  intro s hi
  exact key xs [] rfl s hi
end Go.Proofs.Ytlompfboheiliaa.L
end
section
namespace Go.Proofs.Ytlompfboheiliaa.L
open Go.RowKit Go.Proofs.YtlompfboheiliaaW.PrintWords Go.Proofs.YtlompfboheiliaaW.PrintLast Go.Proofs.YtlompfboheiliaaW.PrintMore Go.Proofs.Ytlompfboheiliaa.F
set_option linter.unusedVariables false
set_option linter.unusedSimpArgs false
def ok1 (n : Int) : Prop := -100 ≤ n ∧ n ≤ 100
instance (n : Int) : Decidable (ok1 n) := by unfold ok1; infer_instance
def small {α : Type} (l : List α) : Prop := l.length ≤ 4611686018427387904
theorem pre_lt {α : Type} {xs pre suf : List α} {c : α} (h : xs = pre ++ c :: suf) : ((pre.length : Int) < (xs.length : Int)) = True := by
  subst h; simp; omega
theorem pre_w {α : Type} {xs pre suf : List α} {c : α} (h : xs = pre ++ c :: suf) (hs : small xs) : wrap64 ((pre.length : Int) + 1) = (pre.length : Int) + 1 := by
  subst h
  unfold small at hs
  rw [List.length_append, List.length_cons] at hs
  exact w64 (by omega) (by omega)
theorem pre_0 {α : Type} (pre : List α) : (0 ≤ (pre.length : Int)) = True := by simp
theorem len_lt {α : Type} (xs : List α) : ((xs.length : Int) < (xs.length : Int)) = False := by simp
theorem pre_len {α : Type} {xs pre suf : List α} {c : α} (h : xs = pre ++ c :: suf) : pre.length < xs.length := by
  subst h; simp
abbrev Cube := S43
def okQ (c : Cube) : Prop := ok1 c.f0 ∧ ok1 c.f1 ∧ ok1 c.f2
instance (c : Cube) : Decidable (okQ c) := by unfold okQ; infer_instance
def ltQ (a b : Cube) : Prop := a.f2 < b.f2 ∨ a.f2 = b.f2 ∧ (a.f1 < b.f1 ∨ a.f1 = b.f1 ∧ a.f0 < b.f0)
instance (a b : Cube) : Decidable (ltQ a b) := by unfold ltQ; infer_instance
theorem ltQ_irrefl (a : Cube) : ¬ ltQ a a := by unfold ltQ; omega
theorem ltQ_total {a b : Cube} (h : ¬ ltQ a b) (h' : ¬ ltQ b a) : a = b := by
  obtain ⟨a0, a1, a2⟩ := a
  obtain ⟨b0, b1, b2⟩ := b
  unfold ltQ at h h'
  simp only at h h'
  simp only [S43.mk.injEq]
  omega
theorem at_preQ {xs pre suf : List Cube} {c : Cube} (h : xs = pre ++ c :: suf) : rd_T43 xs (pre.length : Int) = c := by
  subst h; exact getD_at pre suf c _
theorem less9_eq (a b : Cube) : spec_l09Less.f a.f0 a.f1 a.f2 b.f0 b.f1 b.f2 = some (decide (ltQ a b)) := by
  unfold spec_l09Less.f ltQ
  by_cases h2 : a.f2 < b.f2
  · simp [h2]
  · by_cases e2 : a.f2 = b.f2
    · by_cases h1 : a.f1 < b.f1
      · simp [e2, h1]
      · by_cases e1 : a.f1 = b.f1
        · simp [e2, e1]
        · simp [e2, h1, e1]
    · simp [h2, e2]
theorem cmpV_lt (a b : Cube) : cmpV a b < 0 ↔ ltQ a b := by
  have h := ltV a b
  unfold Go.Proofs.ltOf at h
  have h2 : (cmpV a b < 0) = (a.f2 < b.f2 ∨ a.f2 = b.f2 ∧ (a.f1 < b.f1 ∨ a.f1 = b.f1 ∧ a.f0 < b.f0)) := by
    have := congrArg (· = true) h
    simpa using this
  rw [h2]
  rfl
theorem cmpV_val (a b : Cube) : cmpV a b = if ltQ a b then -1 else if ltQ b a then 1 else 0 := by
  unfold cmpV cI ltQ
  repeat' split
  all_goals omega
def insQ (c : Cube) : List Cube → List Cube
  | [] => [c]
  | a :: r => if ltQ a c then a :: insQ c r else c :: a :: r
theorem insQ_perm (c : Cube) : ∀ l : List Cube, (insQ c l).Perm (c :: l)
  | [] => List.Perm.refl _
  | a :: r => by
    unfold insQ
    split
    · exact ((insQ_perm c r).cons a).trans (List.Perm.swap c a r)
    · exact List.Perm.refl _
theorem specIns_l (l : List Cube) (i : Int) (c : Cube) (hi0 : 0 ≤ i) (hi1 : i < (l.length : Int)) (hc : rd_T43 l i = c) {r : List Cube} (xs : List Cube) (hl : xs.length ≤ 1048576) : ∀ (suf pre : List Cube), xs = pre ++ suf →
    Ev (fun k => spec_l09Sort.l0 k l (pre ++ insQ c suf) (wrap64 (i + 1))) r → Ev (fun k => spec_l09Sort.l1 k l xs i (pre.length : Int)) r := by
  have hs : small xs := by unfold small; omega
  have done : ∀ (suf pre : List Cube), xs = pre ++ suf → Ev (fun k => spec_l09Sort.l0 k l (pre ++ c :: suf) (wrap64 (i + 1))) r →
      Ev (fun k => if (pre.length : Int) ≤ (xs.length : Int) then (if ([] : List Cube).length + (xs.take ((pre.length : Int)).toNat).length < 5864062014805 then (if (([] : List Cube) ++ xs.take ((pre.length : Int)).toNat).length + ([(⟨(rd_T43 l i).f0, (rd_T43 l i).f1, (rd_T43 l i).f2⟩ : S43)] : List Cube).length < 5864062014805 then (if ((([] : List Cube) ++ xs.take ((pre.length : Int)).toNat) ++ ([(⟨(rd_T43 l i).f0, (rd_T43 l i).f1, (rd_T43 l i).f2⟩ : S43)] : List Cube)).length + (xs.drop ((pre.length : Int)).toNat).length < 5864062014805 then spec_l09Sort.l0 k l ((([] : List Cube) ++ xs.take ((pre.length : Int)).toNat) ++ ([(⟨(rd_T43 l i).f0, (rd_T43 l i).f1, (rd_T43 l i).f2⟩ : S43)] : List Cube) ++ xs.drop ((pre.length : Int)).toNat) (wrap64 (i + 1)) else none) else none) else none) else none) r := by
    intro suf pre hx h
    have e1 : xs.take pre.length = pre := by rw [hx]; simp
    have e2 : xs.drop pre.length = suf := by rw [hx]; simp
    have hn : xs.length = pre.length + suf.length := by rw [hx]; simp
    rw [hc]
    simp only [Int.toNat_natCast, e1, e2, List.nil_append, List.append_assoc, List.singleton_append, List.length_append, List.length_nil, List.length_singleton]
    exact Ev.pos (by omega) (Ev.pos (by omega) (Ev.pos (by omega) (Ev.pos (by omega) h)))
  intro suf
  induction suf with
  | nil =>
    intro pre hx h
    have hd := done [] pre hx h
    refine Ev.succ ?_
    simp only [spec_l09Sort.l1, Option.bind_some]
    have hlt : ¬ ((pre.length : Int) < (xs.length : Int)) := by rw [hx]; simp
    have h1 : pre.length ≤ xs.length := by rw [hx]; simp
    refine Ev.neg hlt (Ev.pos (by omega) ?_)
    have hi0' : (0 ≤ i) = True := eq_true hi0
    have hi1' : (i < (l.length : Int)) = True := eq_true hi1
    simp only [hi0', hi1', if_true]
    exact hd
  | cons a suf ih =>
    intro pre hx h
    refine Ev.succ ?_
    have hi0' : (0 ≤ i) = True := eq_true hi0
    have hi1' : (i < (l.length : Int)) = True := eq_true hi1
    simp only [spec_l09Sort.l1, Option.bind_some, pre_lt hx, pre_0, if_true, at_preQ hx, hi0', hi1', pre_w hx hs]
    have hless : spec_l09Less.f a.f0 a.f1 a.f2 (rd_T43 l i).f0 (rd_T43 l i).f1 (rd_T43 l i).f2 = some (decide (ltQ a c)) := by rw [hc]; exact less9_eq a c
    rw [hless]
    simp only [Option.bind_some]
    unfold insQ at h
    by_cases hac : ltQ a c
    · rw [if_pos hac] at h
      refine Ev.pos (by simpa using hac) ?_
      have := ih (pre ++ [a]) (by rw [hx]; simp) (by rw [List.append_assoc]; exact h)
      rw [List.length_append] at this
      exact this
    · rw [if_neg hac] at h
      refine Ev.neg (by simpa using hac) ?_
      exact done (a :: suf) pre hx h
def insAllQ : List Cube → List Cube → List Cube
  | acc, [] => acc
  | acc, c :: r => insAllQ (insQ c acc) r
end Go.Proofs.Ytlompfboheiliaa.L
end
section
namespace Go.Proofs.Ytlompfboheiliaa.L
open Go.RowKit Go.Proofs.YtlompfboheiliaaW.PrintWords Go.Proofs.YtlompfboheiliaaW.PrintLast Go.Proofs.YtlompfboheiliaaW.PrintMore Go.Proofs.Ytlompfboheiliaa.F
set_option linter.unusedVariables false
set_option linter.unusedSimpArgs false
theorem loop_tailQ {α σ ρ : Type} (c : α) (r : List α) (l : Nat → Int → σ → Option ρ) (g : List α → List α → σ → ρ) (Inv : List α → σ → Prop)
    (hn : ∀ s, Inv (c :: r) s → Ev (fun k => l (k + 1) ((c :: r).length : Int) s) (g (c :: r) [] s))
    (hs : ∀ (pre : List α) (d : α) (suf : List α) (s : σ), c :: r = pre ++ d :: suf → pre ≠ [] → Inv pre s → (∀ s', Inv (pre ++ [d]) s' → Ev (fun k => l k ((pre.length : Int) + 1) s') (g (pre ++ [d]) suf s')) → Ev (fun k => l (k + 1) (pre.length : Int) s) (g pre (d :: suf) s)) :
    ∀ s, Inv [c] s → Ev (fun k => l k 1 s) (g [c] r s) := by
  have key : ∀ (suf pre : List α), c :: r = pre ++ suf → pre ≠ [] → ∀ s, Inv pre s → Ev (fun k => l k (pre.length : Int) s) (g pre suf s) := by
    intro suf
    induction suf with
    | nil =>
      intro pre hx _ s hi
      rw [List.append_nil] at hx
      subst hx
      exact Ev.succ (hn s hi)
    | cons d suf ih =>
      intro pre hx hp s hi
      refine Ev.succ (hs pre d suf s hx hp hi fun s' hi' => ?_)
      have := ih (pre ++ [d]) (by rw [hx]; simp) (by simp) s' hi'
      rw [List.length_append] at this
      exact this
  intro s hi
  exact key r [c] rfl (by simp) s hi
def minQ (z : Int × Int × Int) (l : List Cube) : Int × Int × Int := l.foldl (fun m c => (mn m.1 c.f0, mn m.2.1 c.f1, mn m.2.2 c.f2)) z
def leastQ (l : List Cube) : Int × Int × Int := match l with | [] => (0, 0, 0) | c :: r => minQ (c.f0, c.f1, c.f2) r
def moveQ (l : List Cube) (m : Int × Int × Int) : List Cube := l.map fun c => ⟨wrap64 (c.f0 - m.1), wrap64 (c.f1 - m.2.1), wrap64 (c.f2 - m.2.2)⟩
theorem moveQ_len (l : List Cube) (m : Int × Int × Int) : (moveQ l m).length = l.length := by simp [moveQ]
def normalQ (l : List Cube) : List Cube := moveQ l (leastQ l)
theorem normalQ_len (l : List Cube) : (normalQ l).length = l.length := moveQ_len _ _
theorem wsub (a b : Int) : wrap64 (a + wrap64 (-b)) = wrap64 (a - b) := by unfold wrap64; omega
end Go.Proofs.Ytlompfboheiliaa.L
end
