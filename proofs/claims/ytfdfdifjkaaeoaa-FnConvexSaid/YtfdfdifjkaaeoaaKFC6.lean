/- The row of FnConvex, with what it needs: text 7 of 9. -/
import Derived.Test.YtfdfdifjkaaeoaaKFC5
import Derived.ChangeArms
import Derived.ChangeSame
import Derived.Deep.Fields
import Derived.Deep.Slices
import Derived.Deep.Strs
import Derived.WideShapes
set_option maxHeartbeats 8000000
set_option maxRecDepth 100000
section
namespace Go.Proofs.Ytfdfdifjkaaeoaa.F
open Go.RowKit Go.Proofs.YtfdfdifjkaaeoaaW.PrintWords Go.Proofs.YtfdfdifjkaaeoaaW.PrintLast Go.Proofs.YtfdfdifjkaaeoaaW.PrintMore
attribute [local go_sem] max2_int min2_int max_two min_two max_three min_three max_four min_four
set_option linter.unusedVariables false
set_option linter.unusedSimpArgs false
def impl_form.f (k : Nat) (l0 : List (S59)) (a1 : Int) : Option ((List (S59))) := if 0 ≤ (l0.length : Int) then (if ((l0.length : Int) : Int).toNat ≤ 17592186044416 then (impl_form.l0 k a1 (([] : List (S59))) l0 (l0.length : Int) 0) else (none)) else (none)
theorem impl_form.calls (k : Nat) (A0 : Option Addr) (c0 : Nat) (l0 : List (S59)) (a1 : Int) (r : List (S59)) (w : World) (hr0 : Kd.C k59 w A0 l0.length l0) (hc0 : l0.length ≤ c0) (h : impl_form.f k l0 a1 = some r) :
  Calls Try.prog 69 #[.slice A0 l0.length c0, .int .i64 a1] w fun e w' => ∃ v0_ : Value, e = .returned (v0_) ∧ Kd.R k59 59 w' w.heap.size (fun _ => True) v0_ r ∧ Below w.heap.size w w' := by
 have hu59 := Try.underlying59
 have HR0 := aM hr0
 have HC0 := aM hc0
 clear hr0 hc0
 have HB := aM (Below.refl w.heap.size w)
 have H : (if 0 ≤ (l0.length : Int) then (if ((l0.length : Int) : Int).toNat ≤ 17592186044416 then (impl_form.l0 k a1 (([] : List (S59))) l0 (l0.length : Int) 0) else (none)) else (none)) = some r := h
 clear h
 by_cases c3 : 0 ≤ (l0.length : Int)
 rotate_left
 ·rw [if_neg c3] at H
  exact absurd H (by simp)
 rw [if_pos c3] at H
 have c3b0 := eq_true c3
 have c3b1 : decide (0 ≤ (l0.length : Int)) = true := decide_eq_true c3
 clear c3
 by_cases c4 : ((l0.length : Int) : Int).toNat ≤ 17592186044416
 rotate_left
 ·rw [if_neg c4] at H
  exact absurd H (by simp)
 rw [if_pos c4] at H
 have c4b0 := eq_true c4
 have c4b1 : decide (((l0.length : Int) : Int).toNat ≤ 17592186044416) = true := decide_eq_true c4
 clear c4
 obtain ⟨y549, hy549⟩ : ∃ y_ : List (S59), y_ = (([] : List (S59))) := ⟨_, rfl⟩
 replace H : (impl_form.l0 k a1 y549 l0 (l0.length : Int) 0) = some r := zy H hy549
 have Ny549 := aM hy549
 clear hy549
 have H' := aM H
 clear H
 go_enter Try.func69, Try.ntmps69
 go_wp2_with (first | ((with_reducible refine gate_dst (N := 10) rfl ?_); refine Kd.R_make0 k59 _ 59 rfl (N := 10) rfl 24 _ _ rfl (l0.length : Int) rfl rfl Try.underlying24 (.agg #[(.int .i64 0), (.int .i64 0)]) 16 info59 rfl (by decide) (by omega) z59 (ok := fun _ => True) (okp := fun _ => True) (k59_mkM _ _ _ z59 ) (fun _ hk => hk) trivial (of_decide_eq_true za) (Nat.le_trans (Nat.mul_le_mul_right _ (of_decide_eq_true za : (l0.length : Int).toNat ≤ 17592186044416)) (by omega)) (Below.refl _ _) (Nat.le_refl _) ?_; intro v550 w5 ho6 hb hg_ hnew_; clear hg_ hnew_; (first | rw [← Ny549.out] at ho6 | (simp only [Int.reduceToNat] at ho6; rw [← Ny549.out] at ho6)); have n0_ := aM (Kd.R_lower ho6 (below_size zb)); have n1_ := aM (below_step zb hb); clear HB; have HO551 := n0_; have HB := n1_; clear n0_ n1_; clear hb ho6))
 go_loopg [5, 13] k (fun kq v5 v13 w' => ∃ (x5_1 : List (S59)) (x13_1 : Int), v13 = .int .i64 x13_1 ∧ Aside0 (impl_form.l0 kq a1 x5_1 l0 (l0.length : Int) x13_1 = some r) ∧ Aside0 (kq ≤ k) ∧ Aside0 (Kd.R k59 59 w' w.heap.size (fun _ => True) v5 x5_1) ∧ Aside0 (Below w.heap.size w w'))
 case atStart => exact ⟨(y549), (0), zr, H', ⟨Nat.le_refl _⟩, ⟨mR_ HO551.out⟩, ⟨zb⟩⟩
 case round =>
  clear H'
  try clear p2
  try clear c3
  try clear c3b0
  try clear c3b1
  try clear c4
  try clear c4b0
  try clear c4b1
  try clear c6
  obtain ⟨x5_1, x13_1, rfl, HA, HK1, HO_5, HB⟩ := hrel
  cases gk with
  | zero => exact absurd HA.out (by simp [impl_form.l0])
  | succ k1 =>
   have H := HA.out
   clear HA
   simp only [impl_form.l0] at H
   by_cases c7 : x13_1 < (l0.length : Int)
   rotate_left
   ·rw [if_neg c7] at H
    have c7b0 : decide (x13_1 < (l0.length : Int)) = false := decide_eq_false c7
    clear c7
    replace H := Option.bind_eq_some_iff.mp H
    obtain ⟨t559, A160, H⟩ := H
    replace H : ((impl_normal.f k1 t559).bind fun t562 => (some t562)) = some r := H
    have A16 := aM A160
    clear A160
    replace H := Option.bind_eq_some_iff.mp H
    obtain ⟨t562, A170, H⟩ := H
    replace H : (some t562) = some r := H
    have A17 := aM A170
    clear A170
    obtain rfl := Option.some.inj H
    obtain ⟨Ao18, co18, eo18⟩ := Kd.R_slice HO_5.out
    subst eo18
    go_wp2_with (first | ((with_reducible refine gate_callee (f := 60) rfl ?_); refine goesL_ (some 25) rfl rfl Try.func60 (by kernel_rfl) rfl #[.slice Ao18 x5_1.length co18] rfl zm ?_; (with_reducible refine (impl_sorted.calls _ _ x5_1 t559 _ ?side1 ?side2 A16.out).mono ?_); (case side1 => exact zc HO_5.out); (case side2 => exact (Kd.R_reads' HO_5.out).2.1); rintro e w19 ⟨v560, rfl, ho0, hb⟩; refine ⟨_, rfl, ?_⟩; have n0_ := aM (Kd.R_elder' (mR_ HO_5.out) (Kd.R_base ho0) hb); have n1_ := aM (Kd.R_lower (Kd.R_new' ho0 (Kd.R_lt (mR_ HO_5.out))) (below_size zb)); have n2_ := aM (below_step zb hb); clear HO_5 HB; have HO_5 := n0_; have HO561 := n1_; have HB := n2_; clear n0_ n1_ n2_; (try clear hb); (try clear hb2); (try clear hk); (try clear hi); (try clear ho0); obtain ⟨Ao20, co20, eo20⟩ := Kd.R_slice HO561.out; subst eo20) | ((with_reducible refine gate_callee (f := 96) rfl ?_); refine goesL_ (some 26) rfl rfl Try.func96 (by kernel_rfl) rfl #[.slice Ao20 t559.length co20] rfl zm ?_; (with_reducible refine (impl_normal.calls k1 _ _ t559 t562 _ ?side1 ?side2 A17.out).mono ?_); (case side1 => exact zc HO561.out); (case side2 => exact (Kd.R_reads' HO561.out).2.1); rintro e w21 ⟨v563, rfl, ho0, hb⟩; refine ⟨_, rfl, ?_⟩; have n0_ := aM (Kd.R_elder' (mR_ HO_5.out) (Kd.R_base ho0) hb); have n1_ := aM (Kd.R_elder' (mR_ HO561.out) (Kd.R_base ho0) hb); have n2_ := aM (Kd.R_lower (Kd.R_new' (Kd.R_new' ho0 (Kd.R_lt (mR_ HO_5.out))) (Kd.R_lt (mR_ HO561.out))) (below_size zb)); have n3_ := aM (below_step zb hb); clear HO_5 HO561 HB; have HO_5 := n0_; have HO561 := n1_; have HO564 := n2_; have HB := n3_; clear n0_ n1_ n2_ n3_; (try clear hb); (try clear hb2); (try clear hk); (try clear hi); (try clear ho0)))
    go_ret
    exact ⟨_, zw, zd0 HO564.out, zb⟩
   rw [if_pos c7] at H
   have c7b0 : decide (x13_1 < (l0.length : Int)) = true := decide_eq_true c7
   clear c7
   by_cases c8 : 0 ≤ x13_1
   rotate_left
   ·rw [if_neg c8] at H
    exact absurd H (by simp)
   rw [if_pos c8] at H
   have c8b0 : decide (0 ≤ x13_1) = true := decide_eq_true c8
   clear c8
   by_cases c9 : x13_1 < (l0.length : Int)
   rotate_left
   ·rw [if_neg c9] at H
    exact absurd H (by simp)
   rw [if_pos c9] at H
   have c9b0 : decide (x13_1 < (l0.length : Int)) = true := decide_eq_true c9
   clear c9
   replace H := Option.bind_eq_some_iff.mp H
   obtain ⟨⟨t554, t555⟩, A100, H⟩ := H
   replace H : (if x5_1.length < 8796093022208 then (impl_form.l0 k1 a1 (x5_1 ++ [(⟨t554, t555⟩ : S59)]) l0 (l0.length : Int) (wrap64 (x13_1 + 1))) else (none)) = some r := H
   have A10 := aM A100
   clear A100
   by_cases c11 : x5_1.length < 8796093022208
   rotate_left
   ·rw [if_neg c11] at H
    exact absurd H (by simp)
   rw [if_pos c11] at H
   have LMc11 := aM c11
   clear c11
   obtain ⟨y556, hy556⟩ : ∃ y_ : List (S59), y_ = (x5_1 ++ [(⟨t554, t555⟩ : S59)]) := ⟨_, rfl⟩
   replace H : (impl_form.l0 k1 a1 y556 l0 (l0.length : Int) (wrap64 (x13_1 + 1))) = some r := zy H hy556
   have Ny556 := aM hy556
   clear hy556
   have H' := aM H
   clear H
   have p552 : 0 ≤ (x13_1 : Int) := of_decide_eq_true za
   have q552 : x13_1 < (l0.length : Int) := of_decide_eq_true za
   obtain ⟨ad552, e552, hx552_0, hx552_1⟩ := at_T59 HR0.out x13_1 p552 q552
   cases e552
   replace hx552_0 := zk HB.out hx552_0
   replace hx552_1 := zk HB.out hx552_1
   replace p552 := eq_true p552
   replace q552 := eq_true q552
   go_wp2_with (first | ((with_reducible refine gate_dst (N := 7) rfl ?_); refine zx 7 #[.int .i64 0, .int .i64 0] 59 ?_; intro gb553 hg w12 hbox hb; have n0_ := aM (Kd.R_below (Kd.R_elderB (mR_ HO_5.out) gb553 (Nat.le_of_eq hg.symm)) hb); have n1_ := aM (below_step zb hb); have n2_ := aM (hbox); have n3_ := aM ((ze : w.heap.size ≤ gb553)); have n4_ := aM ((ze : w.heap.size ≤ gb553)); clear HO_5 HB; have HO_5 := n0_; have HB := n1_; have BK553 := n2_; have GW553 := n3_; have GE553 := n4_; clear n0_ n1_ n2_ n3_ n4_ hb hbox hg; have hcz13_0 : w12.cell? ⟨gb553, 0, none⟩ = some (.int .i64 0) := (blk_cell BK553.out 0).trans rfl; have hcz13_1 : w12.cell? ⟨gb553, 1, none⟩ = some (.int .i64 0) := (blk_cell BK553.out 1).trans rfl; have hfz13_0 := blk_frozen BK553.out 0; have hfz13_1 := blk_frozen BK553.out 1) | ((with_reducible refine gate_callee (f := 108) rfl ?_); refine goesL_ (some 20) rfl rfl Try.func108 (by kernel_rfl) rfl #[.agg #[.int .i64 ((rd_T59 l0 x13_1).f0), .int .i64 ((rd_T59 l0 x13_1).f1)], .int .i64 a1] rfl zm ?_; (with_reducible refine (impl_turnCell.calls k1 ((rd_T59 l0 x13_1).f0) ((rd_T59 l0 x13_1).f1) a1 t554 t555 _ A10.out).mono ?_); rintro e w14 ⟨rfl, hb⟩; refine ⟨_, rfl, ?_⟩; have n0_ := aM (Kd.R_below (by (with_reducible repeat (first | apply Kd.R_alloc | apply Kd.R_drewN | apply Kd.R_drew)); exact (Kd.R_mono (Kd.R_far (p := ⟨gb553, 1, none⟩) (Kd.R_far (p := ⟨gb553, 0, none⟩) (Kd.R_mono HO_5.out (fun k_ hk => (⟨hk, hk.2⟩ : _ ∧ k_ ≠ gb553))) (fun _ hk => hk.2) (.int .i64 ((rd_T59 l0 x13_1).f0))) (fun _ hk => hk.2) (.int .i64 ((rd_T59 l0 x13_1).f1))) (fun _ h_ => h_.1))) hb); have n1_ := aM (blk_below (g := gb553) (o := .cells #[.int .i64 ((rd_T59 l0 x13_1).f0), .int .i64 ((rd_T59 l0 x13_1).f1)] 59 (0, 0)) (by (with_reducible repeat (first | refine blk_drewN ?_ _ | refine blk_drew ?_ | refine blk_alloc ?_ _)); refine blk_put (cs := #[.int .i64 ((rd_T59 l0 x13_1).f0), .int .i64 0]) ?_ 1 _ rfl; (with_reducible repeat (first | refine blk_drewN ?_ _ | refine blk_drew ?_ | refine blk_alloc ?_ _)); refine blk_put (cs := #[.int .i64 0, .int .i64 0]) ?_ 0 _ rfl; (with_reducible repeat (first | refine blk_drewN ?_ _ | refine blk_drew ?_ | refine blk_alloc ?_ _)); exact BK553.out) hb); have n2_ := aM (below_step (zs GE553.out) hb); clear HO_5 BK553 HB; have HO_5 := n0_; have BK553 := n1_; have HB := n2_; clear n0_ n1_ n2_; (try clear hb); (try clear hb2); (try clear hk); (try clear hi)) | ((with_reducible refine gate_builtin (b := .append) (xs := #[.tmp 17, .tmp 21]) rfl ?_); at_builtin; refine Kd.R_append k59 (w0 := w) w.heap.size rfl (.tmp 17) (.tmp 21) 24 59 (.agg #[(.int .i64 0), (.int .i64 0)]) 16 rfl Try.underlying24 info59 rfl (by decide) (by omega) u5 x5_1 (⟨t554, t555⟩ : S59) [.int .i64 t554, .int .i64 t555] (fun k_ => k_ ≠ gb553) (fun _ => False) rfl rfl ?aP (fun _ hk => hk.elim) ?aF ?aO ?aB ?aS ?aL ?_; (case aP => exact k59_mkM _ _ _ (⟨t554, t555⟩ : S59)); (case aB => exact (zs GE553.out)); (case aF => exact (fun k_ hk => Kd.freshB (g := gb553) (o := .cells #[.int .i64 ((rd_T59 l0 x13_1).f0), .int .i64 ((rd_T59 l0 x13_1).f1)] 59 (0, 0)) (mB_ BK553.out) k_ hk)); (case aO => exact (zd1 HO_5.out)); (case aS => exact (below_size (zs GE553.out))); (case aL => have := LMc11.out; omega); intro v557 w15 ho hb hg hat; rw [← Ny556.out] at ho; have n0_ := aM (blk_grown (g := gb553) (o := .cells #[.int .i64 ((rd_T59 l0 x13_1).f0), .int .i64 ((rd_T59 l0 x13_1).f1)] 59 (0, 0)) (mB_ BK553.out) hg (Kd.R_away HO_5.out (fun _ hk => hk.2))); have n1_ := aM (hb); have n2_ := aM (ho); clear BK553 HB HO_5; have BK553 := n0_; have HB := n1_; have HO558 := n2_; clear n0_ n1_ n2_; clear ho hb hg hat))
   go_roundg k1
   case measure => have := HK1.out; omega
   case rel => exact ⟨(y556), (wrap64 (x13_1 + 1)), zr, H', ⟨by have := HK1.out; omega⟩, ⟨zd0 HO558.out⟩, ⟨zs GE553.out⟩⟩
def impl_TurnShape.f (k : Nat) (l0 : List (S59)) (a1 : Int) : Option ((List (S59)) × Int) := (impl_IsShape.f k l0).bind fun t565 => (if t565 = true then ((impl_isTurn.f a1).bind fun t566 => (if t566 = true then ((impl_shapeCode.f k l0).bind fun t567 => (if t567 = 0 then ((impl_form.f k l0 a1).bind fun t568 => (some (t568, 0))) else (some (([] : List (S59)), t567)))) else (some (([] : List (S59)), 2)))) else (some (([] : List (S59)), 1)))
theorem impl_TurnShape.calls (k : Nat) (A0 : Option Addr) (c0 : Nat) (l0 : List (S59)) (a1 : Int) (r1 : List (S59)) (r2 : Int) (w : World) (hr0 : Kd.C k59 w A0 l0.length l0) (hc0 : l0.length ≤ c0) (h : impl_TurnShape.f k l0 a1 = some (r1, r2)) :
  Calls Try.prog 24 #[.slice A0 l0.length c0, .int .i64 a1] w fun e w' => ∃ v0_ : Value, e = .returned (.tuple #[v0_, .int .i64 r2]) ∧ Kd.R k59 59 w' w.heap.size (fun _ => True) v0_ r1 ∧ Below w.heap.size w w' := by
 have HR0 := aM hr0
 have HC0 := aM hc0
 clear hr0 hc0
 have HB := aM (Below.refl w.heap.size w)
 have H : ((impl_IsShape.f k l0).bind fun t565 => (if t565 = true then ((impl_isTurn.f a1).bind fun t566 => (if t566 = true then ((impl_shapeCode.f k l0).bind fun t567 => (if t567 = 0 then ((impl_form.f k l0 a1).bind fun t568 => (some (t568, 0))) else (some (([] : List (S59)), t567)))) else (some (([] : List (S59)), 2)))) else (some (([] : List (S59)), 1)))) = some (r1, r2) := h
 clear h
 replace H := Option.bind_eq_some_iff.mp H
 obtain ⟨t565, A30, H⟩ := H
 replace H : (if t565 = true then ((impl_isTurn.f a1).bind fun t566 => (if t566 = true then ((impl_shapeCode.f k l0).bind fun t567 => (if t567 = 0 then ((impl_form.f k l0 a1).bind fun t568 => (some (t568, 0))) else (some (([] : List (S59)), t567)))) else (some (([] : List (S59)), 2)))) else (some (([] : List (S59)), 1))) = some (r1, r2) := H
 have A3 := aM A30
 clear A30
 by_cases c4 : t565 = true
 rotate_left
 ·replace c4 := Bool.eq_false_iff.mpr c4
  subst c4
  have H1 : (some (([] : List (S59)), 1)) = some (r1, r2) := by rw [if_neg (show ¬ (false = true) by decide)] at H; exact H
  clear H
  have H := H1
  clear H1
  simp only [Option.some.injEq, Prod.mk.injEq] at H
  obtain ⟨rfl, rfl⟩ := H
  go_enter Try.func24, Try.ntmps24
  go_wp2_with (first | ((with_reducible refine gate_callee (f := 61) rfl ?_); refine goesL_ (some 8) rfl rfl Try.func61 (by kernel_rfl) rfl #[.slice A0 l0.length c0] rfl zm ?_; (with_reducible refine (impl_IsShape.calls k _ _ l0 false _ ?side1 ?side2 A3.out).mono ?_); (case side1 => repeat (first | exact HR0.out | (with_reducible refine Kd.C_alloc ?_ _) | (with_reducible refine Kd.C_drewN ?_ _) | (with_reducible refine Kd.C_drew ?_))); (case side2 => exact HC0.out); rintro e w16 ⟨rfl, hb⟩; refine ⟨_, rfl, ?_⟩; have n0_ := aM (below_step zb hb); clear HB; have HB := n0_; clear n0_; (try clear hb); (try clear hb2); (try clear hk); (try clear hi)))
  go_ret2
  exact ⟨_, zw, by first | exact Kd.R_nil _ _ _ _ _ | exact Kd.N_nil _ _ _ _ _ | exact Kd.V_nil _ _ _ _ _ | exact Kd.Q_nil _ _ _ _ _ | exact Kd.S_nil _ _ _ _ _, zb⟩
 subst c4
 have H1 : ((impl_isTurn.f a1).bind fun t566 => (if t566 = true then ((impl_shapeCode.f k l0).bind fun t567 => (if t567 = 0 then ((impl_form.f k l0 a1).bind fun t568 => (some (t568, 0))) else (some (([] : List (S59)), t567)))) else (some (([] : List (S59)), 2)))) = some (r1, r2) := by rw [if_pos rfl] at H; exact H
 clear H
 have H := H1
 clear H1
 replace H := Option.bind_eq_some_iff.mp H
 obtain ⟨t566, A50, H⟩ := H
 replace H : (if t566 = true then ((impl_shapeCode.f k l0).bind fun t567 => (if t567 = 0 then ((impl_form.f k l0 a1).bind fun t568 => (some (t568, 0))) else (some (([] : List (S59)), t567)))) else (some (([] : List (S59)), 2))) = some (r1, r2) := H
 have A5 := aM A50
 clear A50
 by_cases c6 : t566 = true
 rotate_left
 ·replace c6 := Bool.eq_false_iff.mpr c6
  subst c6
  have H1 : (some (([] : List (S59)), 2)) = some (r1, r2) := by rw [if_neg (show ¬ (false = true) by decide)] at H; exact H
  clear H
  have H := H1
  clear H1
  simp only [Option.some.injEq, Prod.mk.injEq] at H
  obtain ⟨rfl, rfl⟩ := H
  go_enter Try.func24, Try.ntmps24
  go_wp2_with (first | ((with_reducible refine gate_callee (f := 61) rfl ?_); refine goesL_ (some 8) rfl rfl Try.func61 (by kernel_rfl) rfl #[.slice A0 l0.length c0] rfl zm ?_; (with_reducible refine (impl_IsShape.calls k _ _ l0 true _ ?side1 ?side2 A3.out).mono ?_); (case side1 => repeat (first | exact HR0.out | (with_reducible refine Kd.C_alloc ?_ _) | (with_reducible refine Kd.C_drewN ?_ _) | (with_reducible refine Kd.C_drew ?_))); (case side2 => exact HC0.out); rintro e w15 ⟨rfl, hb⟩; refine ⟨_, rfl, ?_⟩; have n0_ := aM (below_step zb hb); clear HB; have HB := n0_; clear n0_; (try clear hb); (try clear hb2); (try clear hk); (try clear hi)) | ((with_reducible refine gate_callee (f := 68) rfl ?_); refine goesL_ (some 11) rfl rfl Try.func68 (by kernel_rfl) rfl #[.int .i64 a1] rfl zm ?_; (with_reducible refine (impl_isTurn.calls a1 false _ A5.out).mono ?_); rintro e w' ⟨rfl, ⟨nd, rfl⟩⟩; refine ⟨_, rfl, ?_⟩))
  go_ret2
  exact ⟨_, zw, by first | exact Kd.R_nil _ _ _ _ _ | exact Kd.N_nil _ _ _ _ _ | exact Kd.V_nil _ _ _ _ _ | exact Kd.Q_nil _ _ _ _ _ | exact Kd.S_nil _ _ _ _ _, zb⟩
 subst c6
 have H1 : ((impl_shapeCode.f k l0).bind fun t567 => (if t567 = 0 then ((impl_form.f k l0 a1).bind fun t568 => (some (t568, 0))) else (some (([] : List (S59)), t567)))) = some (r1, r2) := by rw [if_pos rfl] at H; exact H
 clear H
 have H := H1
 clear H1
 replace H := Option.bind_eq_some_iff.mp H
 obtain ⟨t567, A70, H⟩ := H
 replace H : (if t567 = 0 then ((impl_form.f k l0 a1).bind fun t568 => (some (t568, 0))) else (some (([] : List (S59)), t567))) = some (r1, r2) := H
 have A7 := aM A70
 clear A70
 by_cases c8 : t567 = 0
 rotate_left
 ·rw [if_neg c8] at H
  have c8b0 : (t567 == 0) = false := beq_eq_false_iff_ne.mpr c8
  have c8b1 : (t567 != 0) = true := bne_iff_ne.mpr c8
  simp only [Option.some.injEq, Prod.mk.injEq] at H
  obtain ⟨rfl, rfl⟩ := H
  go_enter Try.func24, Try.ntmps24
  go_wp2_with (first | ((with_reducible refine gate_callee (f := 61) rfl ?_); refine goesL_ (some 8) rfl rfl Try.func61 (by kernel_rfl) rfl #[.slice A0 l0.length c0] rfl zm ?_; (with_reducible refine (impl_IsShape.calls k _ _ l0 true _ ?side1 ?side2 A3.out).mono ?_); (case side1 => repeat (first | exact HR0.out | (with_reducible refine Kd.C_alloc ?_ _) | (with_reducible refine Kd.C_drewN ?_ _) | (with_reducible refine Kd.C_drew ?_))); (case side2 => exact HC0.out); rintro e w13 ⟨rfl, hb⟩; refine ⟨_, rfl, ?_⟩; have n0_ := aM (below_step zb hb); clear HB; have HB := n0_; clear n0_; (try clear hb); (try clear hb2); (try clear hk); (try clear hi)) | ((with_reducible refine gate_callee (f := 68) rfl ?_); refine goesL_ (some 11) rfl rfl Try.func68 (by kernel_rfl) rfl #[.int .i64 a1] rfl zm ?_; (with_reducible refine (impl_isTurn.calls a1 true _ A5.out).mono ?_); rintro e w' ⟨rfl, ⟨nd, rfl⟩⟩; refine ⟨_, rfl, ?_⟩) | ((with_reducible refine gate_callee (f := 57) rfl ?_); refine goesL_ (some 14) rfl rfl Try.func57 (by kernel_rfl) rfl #[.slice A0 l0.length c0] rfl zm ?_; (with_reducible refine (impl_shapeCode.calls k _ _ l0 t567 _ ?side1 ?side2 A7.out).mono ?_); (case side1 => repeat (first | exact (Kd.C_below HR0.out zb) | (with_reducible refine Kd.C_alloc ?_ _) | (with_reducible refine Kd.C_drewN ?_ _) | (with_reducible refine Kd.C_drew ?_))); (case side2 => exact HC0.out); rintro e w14 ⟨rfl, hb⟩; refine ⟨_, rfl, ?_⟩; have n0_ := aM (below_step zb hb); clear HB; have HB := n0_; clear n0_; (try clear hb); (try clear hb2); (try clear hk); (try clear hi)))
  go_ret2
  exact ⟨_, zw, by first | exact Kd.R_nil _ _ _ _ _ | exact Kd.N_nil _ _ _ _ _ | exact Kd.V_nil _ _ _ _ _ | exact Kd.Q_nil _ _ _ _ _ | exact Kd.S_nil _ _ _ _ _, zb⟩
 rw [if_pos c8] at H
 have c8b0 : (t567 == 0) = true := beq_iff_eq.mpr c8
 have c8b1 : (t567 != 0) = false := bne_eq_false_iff_eq.mpr c8
 clear c8
 replace H := Option.bind_eq_some_iff.mp H
 obtain ⟨t568, A90, H⟩ := H
 replace H : (some (t568, 0)) = some (r1, r2) := H
 have A9 := aM A90
 clear A90
 simp only [Option.some.injEq, Prod.mk.injEq] at H
 obtain ⟨rfl, rfl⟩ := H
 go_enter Try.func24, Try.ntmps24
 go_wp2_with (first | ((with_reducible refine gate_callee (f := 61) rfl ?_); refine goesL_ (some 8) rfl rfl Try.func61 (by kernel_rfl) rfl #[.slice A0 l0.length c0] rfl zm ?_; (with_reducible refine (impl_IsShape.calls k _ _ l0 true _ ?side1 ?side2 A3.out).mono ?_); (case side1 => repeat (first | exact HR0.out | (with_reducible refine Kd.C_alloc ?_ _) | (with_reducible refine Kd.C_drewN ?_ _) | (with_reducible refine Kd.C_drew ?_))); (case side2 => exact HC0.out); rintro e w10 ⟨rfl, hb⟩; refine ⟨_, rfl, ?_⟩; have n0_ := aM (below_step zb hb); clear HB; have HB := n0_; clear n0_; (try clear hb); (try clear hb2); (try clear hk); (try clear hi)) | ((with_reducible refine gate_callee (f := 68) rfl ?_); refine goesL_ (some 11) rfl rfl Try.func68 (by kernel_rfl) rfl #[.int .i64 a1] rfl zm ?_; (with_reducible refine (impl_isTurn.calls a1 true _ A5.out).mono ?_); rintro e w' ⟨rfl, ⟨nd, rfl⟩⟩; refine ⟨_, rfl, ?_⟩) | ((with_reducible refine gate_callee (f := 57) rfl ?_); refine goesL_ (some 14) rfl rfl Try.func57 (by kernel_rfl) rfl #[.slice A0 l0.length c0] rfl zm ?_; (with_reducible refine (impl_shapeCode.calls k _ _ l0 t567 _ ?side1 ?side2 A7.out).mono ?_); (case side1 => repeat (first | exact (Kd.C_below HR0.out zb) | (with_reducible refine Kd.C_alloc ?_ _) | (with_reducible refine Kd.C_drewN ?_ _) | (with_reducible refine Kd.C_drew ?_))); (case side2 => exact HC0.out); rintro e w11 ⟨rfl, hb⟩; refine ⟨_, rfl, ?_⟩; have n0_ := aM (below_step zb hb); clear HB; have HB := n0_; clear n0_; (try clear hb); (try clear hb2); (try clear hk); (try clear hi)) | ((with_reducible refine gate_callee (f := 69) rfl ?_); refine goesL_ (some 20) rfl rfl Try.func69 (by kernel_rfl) rfl #[.slice A0 l0.length c0, .int .i64 a1] rfl zm ?_; (with_reducible refine (impl_form.calls k _ _ l0 a1 t568 _ ?side1 ?side2 A9.out).mono ?_); (case side1 => repeat (first | exact (Kd.C_below HR0.out HB.out) | (with_reducible refine Kd.C_alloc ?_ _) | (with_reducible refine Kd.C_drewN ?_ _) | (with_reducible refine Kd.C_drew ?_))); (case side2 => exact HC0.out); rintro e w12 ⟨v569, rfl, ho0, hb⟩; refine ⟨_, rfl, ?_⟩; have n0_ := aM (Kd.R_lower ho0 (below_size zb)); have n1_ := aM (below_step zb hb); clear HB; have HO570 := n0_; have HB := n1_; clear n0_ n1_; (try clear hb); (try clear hb2); (try clear hk); (try clear hi); (try clear ho0)))
 go_ret2
 exact ⟨_, zw, mR_ HO570.out, zb⟩
mutual
def impl_touches.l0 : Nat → List (S59) → Int → List (S59) → Int → Int → Option (Int)
 | 0, _, _, _, _, _ => none
 | k + 1, x0, x3, x8, x9, x10 => if x10 < x9 then (if 0 ≤ x10 then (if x10 < (x8.length : Int) then ((impl_around.f ((rd_T59 x8 x10).f0) ((rd_T59 x8 x10).f1)).bind fun t573 => (if 2 ≤ (t573.length : Int) then ((some (t573.drop (2 : Int).toNat : List (S59))).bind fun y576 => (impl_touches.l1 k x0 x3 x8 x9 x10 y576 (y576.length : Int) 0)) else (none))) else (none)) else (none)) else (some x3)
def impl_touches.l1 : Nat → List (S59) → Int → List (S59) → Int → Int → List (S59) → Int → Int → Option (Int)
 | 0, _, _, _, _, _, _, _, _ => none
 | k + 1, x0, x3, x8, x9, x10, x16, x17, x18 => if x18 < x17 then (if 0 ≤ x18 then (if x18 < (x16.length : Int) then ((impl_Cell_65.f k x0 ((rd_T59 x16 x18).f0) ((rd_T59 x16 x18).f1)).bind fun t581 => (if t581 = true then (impl_touches.l1 k x0 (wrap64 (x3 + 1)) x8 x9 x10 x16 x17 (wrap64 (x18 + 1))) else (impl_touches.l1 k x0 x3 x8 x9 x10 x16 x17 (wrap64 (x18 + 1))))) else (none)) else (none)) else (impl_touches.l0 k x0 x3 x8 x9 (wrap64 (x10 + 1)))
end
def impl_touches.f (k : Nat) (l0 : List (S59)) : Option (Int) := impl_touches.l0 k l0 0 l0 (l0.length : Int) 0
theorem impl_touches.calls (k : Nat) (A0 : Option Addr) (c0 : Nat) (l0 : List (S59)) (r : Int) (w : World) (hr0 : Kd.C k59 w A0 l0.length l0) (hc0 : l0.length ≤ c0) (h : impl_touches.f k l0 = some r) :
  Calls Try.prog 70 #[.slice A0 l0.length c0] w fun e w' => e = .returned (.int .i64 r) ∧ Below w.heap.size w w' := by
 have hu59 := Try.underlying59
 have HR0 := aM hr0
 have HC0 := aM hc0
 clear hr0 hc0
 have HB := aM (Below.refl w.heap.size w)
 have H : (impl_touches.l0 k l0 0 l0 (l0.length : Int) 0) = some r := h
 clear h
 have H' := aM H
 clear H
 go_enter Try.func70, Try.ntmps70
 go_wp2
 go_loopg [3, 10] k (fun kq v3 v10 w' => ∃ (x3_1 : Int) (x10_1 : Int), v3 = .int .i64 x3_1 ∧ v10 = .int .i64 x10_1 ∧ Aside0 (impl_touches.l0 kq l0 x3_1 l0 (l0.length : Int) x10_1 = some r) ∧ Aside0 (kq ≤ k) ∧ Aside0 (Below w.heap.size w w'))
 case atStart => exact ⟨(0), (0), zr, zr, H', ⟨Nat.le_refl _⟩, ⟨zb⟩⟩
 case round =>
  clear H'
  obtain ⟨x3_1, x10_1, rfl, rfl, HA, HK1, HB⟩ := hrel
  cases gk with
  | zero => exact absurd HA.out (by simp [impl_touches.l0])
  | succ k1 =>
   have H := HA.out
   clear HA
   simp only [impl_touches.l0] at H
   by_cases c2 : x10_1 < (l0.length : Int)
   rotate_left
   ·rw [if_neg c2] at H
    have c2b0 : decide (x10_1 < (l0.length : Int)) = false := decide_eq_false c2
    clear c2
    obtain rfl := Option.some.inj H
    go_wp2
    go_ret
    exact ⟨zw, zb⟩
   rw [if_pos c2] at H
   have c2b0 : decide (x10_1 < (l0.length : Int)) = true := decide_eq_true c2
   clear c2
   by_cases c3 : 0 ≤ x10_1
   rotate_left
   ·rw [if_neg c3] at H
    exact absurd H (by simp)
   rw [if_pos c3] at H
   have c3b0 : decide (0 ≤ x10_1) = true := decide_eq_true c3
   clear c3
   by_cases c4 : x10_1 < (l0.length : Int)
   rotate_left
   ·rw [if_neg c4] at H
    exact absurd H (by simp)
   rw [if_pos c4] at H
   have c4b0 : decide (x10_1 < (l0.length : Int)) = true := decide_eq_true c4
   clear c4
   replace H := Option.bind_eq_some_iff.mp H
   obtain ⟨t573, A50, H⟩ := H
   replace H : (if 2 ≤ (t573.length : Int) then ((some (t573.drop (2 : Int).toNat : List (S59))).bind fun y576 => (impl_touches.l1 k1 l0 x3_1 l0 (l0.length : Int) x10_1 y576 (y576.length : Int) 0)) else (none)) = some r := H
   have A5 := aM A50
   clear A50
   by_cases c6 : 2 ≤ (t573.length : Int)
   rotate_left
   ·rw [if_neg c6] at H
    exact absurd H (by simp)
   rw [if_pos c6] at H
   have c6b0 := eq_true c6
   have c6b1 : decide (2 ≤ (t573.length : Int)) = true := decide_eq_true c6
   clear c6
   obtain ⟨y576, hy576⟩ : ∃ y_ : List (S59), y_ = (t573.drop (2 : Int).toNat) := ⟨_, rfl⟩
   replace H : (impl_touches.l1 k1 l0 x3_1 l0 (l0.length : Int) x10_1 y576 (y576.length : Int) 0) = some r := zy H hy576
   have Ny576 := aM hy576
   clear hy576
   have H' := aM H
   clear H
   have p571 : 0 ≤ (x10_1 : Int) := of_decide_eq_true za
   have q571 : x10_1 < (l0.length : Int) := of_decide_eq_true za
   obtain ⟨ad571, e571, hx571_0, hx571_1⟩ := at_T59 HR0.out x10_1 p571 q571
   cases e571
   replace hx571_0 := zk HB.out hx571_0
   replace hx571_1 := zk HB.out hx571_1
   replace p571 := eq_true p571
   replace q571 := eq_true q571
   go_wp2_with (first | ((with_reducible refine gate_dst (N := 5) rfl ?_); refine zx 5 #[.int .i64 0, .int .i64 0] 59 ?_; intro gb572 hg w7 hbox hb; have n0_ := aM (below_step zb hb); have n1_ := aM (hbox); have n2_ := aM ((ze : w.heap.size ≤ gb572)); have n3_ := aM ((ze : w.heap.size ≤ gb572)); clear HB; have HB := n0_; have BK572 := n1_; have GW572 := n2_; have GE572 := n3_; clear n0_ n1_ n2_ n3_ hb hbox hg; have hcz8_0 : w7.cell? ⟨gb572, 0, none⟩ = some (.int .i64 0) := (blk_cell BK572.out 0).trans rfl; have hcz8_1 : w7.cell? ⟨gb572, 1, none⟩ = some (.int .i64 0) := (blk_cell BK572.out 1).trans rfl; have hfz8_0 := blk_frozen BK572.out 0; have hfz8_1 := blk_frozen BK572.out 1) | ((with_reducible refine gate_callee (f := 86) rfl ?_); refine goesL_ (some 15) rfl rfl Try.func86 (by kernel_rfl) rfl #[.agg #[.int .i64 ((rd_T59 l0 x10_1).f0), .int .i64 ((rd_T59 l0 x10_1).f1)]] rfl zm ?_; (with_reducible refine (impl_around.calls ((rd_T59 l0 x10_1).f0) ((rd_T59 l0 x10_1).f1) t573 _ A5.out).mono ?_); rintro e w9 ⟨v574, rfl, ho0, hb⟩; refine ⟨_, rfl, ?_⟩; have n0_ := aM (Kd.R_lower (Kd.R_newB ho0 (g := gb572) (o := .cells #[.int .i64 ((rd_T59 l0 x10_1).f0), .int .i64 ((rd_T59 l0 x10_1).f1)] 59 (0, 0)) (by (with_reducible repeat (first | refine blk_drewN ?_ _ | refine blk_drew ?_ | refine blk_alloc ?_ _)); refine blk_put (cs := #[.int .i64 ((rd_T59 l0 x10_1).f0), .int .i64 0]) ?_ 1 _ rfl; (with_reducible repeat (first | refine blk_drewN ?_ _ | refine blk_drew ?_ | refine blk_alloc ?_ _)); refine blk_put (cs := #[.int .i64 0, .int .i64 0]) ?_ 0 _ rfl; (with_reducible repeat (first | refine blk_drewN ?_ _ | refine blk_drew ?_ | refine blk_alloc ?_ _)); exact BK572.out)) (below_size (zs GE572.out))); have n1_ := aM (blk_below (g := gb572) (o := .cells #[.int .i64 ((rd_T59 l0 x10_1).f0), .int .i64 ((rd_T59 l0 x10_1).f1)] 59 (0, 0)) (by (with_reducible repeat (first | refine blk_drewN ?_ _ | refine blk_drew ?_ | refine blk_alloc ?_ _)); refine blk_put (cs := #[.int .i64 ((rd_T59 l0 x10_1).f0), .int .i64 0]) ?_ 1 _ rfl; (with_reducible repeat (first | refine blk_drewN ?_ _ | refine blk_drew ?_ | refine blk_alloc ?_ _)); refine blk_put (cs := #[.int .i64 0, .int .i64 0]) ?_ 0 _ rfl; (with_reducible repeat (first | refine blk_drewN ?_ _ | refine blk_drew ?_ | refine blk_alloc ?_ _)); exact BK572.out) hb); have n2_ := aM (below_step (zs GE572.out) hb); clear BK572 HB; have HO575 := n0_; have BK572 := n1_; have HB := n2_; clear n0_ n1_ n2_; (try clear hb); (try clear hb2); (try clear hk); (try clear hi); (try clear ho0); obtain ⟨Ao10, co10, eo10⟩ := Kd.R_slice HO575.out; subst eo10; have n_ := aM (Kd.R_mono (ok' := (fun k_ => k_ ≠ gb572)) HO575.out (fun k_ hk => hk.2)); clear HO575; have HO575 := n_; clear n_; have q11 : (2 : Int) ≤ ((t573.length : Int) : Int) := of_decide_eq_true za; obtain ⟨i011, hi011, _, hsz11, _⟩ := info_parts info59; have hcut11 := cut_from (P := Try.prog) 24 59 .i64 Try.underlying24 hi011 2 hsz11 Ao10 t573.length co10 2 (by omega) q11; have hr11 := Kd.Q_drop (k := (2 : Int).toNat) (Kd.Q_of_R HO575.out) (by omega); obtain ⟨A11, hA11⟩ : ∃ A1, A1 = (if co10 = (2 : Int).toNat then Ao10 else (Ao10 : Option Addr).map (·.add ((2 : Int).toNat * 2))) := ⟨_, rfl⟩; obtain ⟨c11, hc11⟩ : ∃ c1, c1 = co10 - (2 : Int).toNat := ⟨_, rfl⟩; have hy11 : y576.length = t573.length - (2 : Int).toNat := (by rw [Ny576.out, List.length_drop]); rw [← Ny576.out] at hr11; rw [← hy11, ← hA11, ← hc11] at hcut11; replace hr11 : Kd.Q k59 59 w9 w.heap.size (fun k_ => k_ ≠ gb572) (.slice A11 y576.length c11) y576 := (by rw [hA11, hc11, hy11]; exact hr11); have HE11 : Aside0 ((Value.slice A11 y576.length c11).ownBlock = (.slice Ao10 t573.length co10 : Value).ownBlock) := ⟨by rw [hA11]; split <;> (cases (Ao10 : Option Addr) <;> rfl)⟩; clear hy11 hi011 hsz11 HO575 hA11 hc11; have HO578 := aM hr11; clear hr11; replace q11 := eq_true q11))
   go_loopg [3, 18] k1 (fun kq v3 v18 w' => ∃ (x3_2 : Int) (x18_2 : Int), v3 = .int .i64 x3_2 ∧ v18 = .int .i64 x18_2 ∧ Aside0 (impl_touches.l1 kq l0 x3_2 l0 (l0.length : Int) x10_1 y576 (y576.length : Int) x18_2 = some r) ∧ Aside0 (kq ≤ k1) ∧ Aside0 (Kd.Q k59 59 w' w.heap.size (fun k_ => k_ ≠ gb572) (.slice A11 y576.length c11) y576) ∧ Aside0 (w'.heap[gb572]? = some (.cells #[.int .i64 ((rd_T59 l0 x10_1).f0), .int .i64 ((rd_T59 l0 x10_1).f1)] 59 (0, 0))) ∧ Aside0 (Below w.heap.size w w'))
   case atStart => exact ⟨(x3_1), (0), zr, zr, H', ⟨Nat.le_refl _⟩, ⟨by (with_reducible repeat (first | apply Kd.Q_alloc | apply Kd.Q_drewN | apply Kd.Q_drew)); exact HO578.out⟩, ⟨mB_ BK572.out⟩, ⟨zs GE572.out⟩⟩
   case round =>
    clear H'
    try clear c1
    try clear q1
    try clear c2
    try clear c2b0
    try clear p2
    try clear c3
    try clear c3b0
    try clear c4
    try clear c4b0
    try clear p5
    try clear q5
    try clear hx5
    try clear c6
    try clear c6b0
    try clear c6b1
    try clear c7
    try clear c8
    try clear c11
    try clear q11
    try clear hcz8_0
    try clear hcz8_1
    try clear hfz8_0
    try clear hfz8_1
    try clear hx571_0
    try clear hx571_1
    try clear p571
    try clear q11
    try clear q571
    obtain ⟨x3_2, x18_2, rfl, rfl, HA, HK2, HO_16, BK572, HB⟩ := hrel
    cases gk with
    | zero => exact absurd HA.out (by simp [impl_touches.l1])
    | succ k2 =>
     have H := HA.out
     clear HA
     simp only [impl_touches.l1] at H
     by_cases c12 : x18_2 < (y576.length : Int)
     rotate_left
     ·rw [if_neg c12] at H
      have c12b0 : decide (x18_2 < (y576.length : Int)) = false := decide_eq_false c12
      clear c12
      have H' := aM H
      clear H
      go_wp2
      go_roundg k2
      case measure => have := HK1.out; have := HK2.out; omega
      case rel => exact ⟨(x3_2), (wrap64 (x10_1 + 1)), zr, zr, H', ⟨by have := HK1.out; have := HK2.out; omega⟩, ⟨zs GE572.out⟩⟩
     rw [if_pos c12] at H
     have c12b0 : decide (x18_2 < (y576.length : Int)) = true := decide_eq_true c12
     clear c12
     by_cases c13 : 0 ≤ x18_2
     rotate_left
     ·rw [if_neg c13] at H
      exact absurd H (by simp)
     rw [if_pos c13] at H
     have c13b0 : decide (0 ≤ x18_2) = true := decide_eq_true c13
     clear c13
     by_cases c14 : x18_2 < (y576.length : Int)
     rotate_left
     ·rw [if_neg c14] at H
      exact absurd H (by simp)
     rw [if_pos c14] at H
     have c14b0 : decide (x18_2 < (y576.length : Int)) = true := decide_eq_true c14
     clear c14
     replace H := Option.bind_eq_some_iff.mp H
     obtain ⟨t581, A150, H⟩ := H
     replace H : (if t581 = true then (impl_touches.l1 k2 l0 (wrap64 (x3_2 + 1)) l0 (l0.length : Int) x10_1 y576 (y576.length : Int) (wrap64 (x18_2 + 1))) else (impl_touches.l1 k2 l0 x3_2 l0 (l0.length : Int) x10_1 y576 (y576.length : Int) (wrap64 (x18_2 + 1)))) = some r := H
     have A15 := aM A150
     clear A150
     by_cases c16 : t581 = true
     ·subst c16
      have H1 : (impl_touches.l1 k2 l0 (wrap64 (x3_2 + 1)) l0 (l0.length : Int) x10_1 y576 (y576.length : Int) (wrap64 (x18_2 + 1))) = some r := by rw [if_pos rfl] at H; exact H
      clear H
      have H := H1
      clear H1
      have H' := aM H
      clear H
      have p579 : 0 ≤ (x18_2 : Int) := of_decide_eq_true za
      have q579 : x18_2 < (y576.length : Int) := of_decide_eq_true za
      obtain ⟨ad579, e579, hx579_0, hx579_1⟩ := at_T59 (Kd.Q_reads' HO_16.out).2.2 x18_2 p579 q579
      cases e579
      replace p579 := eq_true p579
      replace q579 := eq_true q579
      go_wp2_with (first | ((with_reducible refine gate_dst (N := 7) rfl ?_); refine zx 7 #[.int .i64 0, .int .i64 0] 59 ?_; intro gb580 hg w17 hbox hb; have n0_ := aM (Kd.Q_below (Kd.Q_elderB (by (with_reducible repeat (first | apply Kd.Q_alloc | apply Kd.Q_drewN | apply Kd.Q_drew)); exact HO_16.out) gb580 (Nat.le_of_eq hg.symm)) hb); have n1_ := aM (blk_below (g := gb572) (o := .cells #[.int .i64 ((rd_T59 l0 x10_1).f0), .int .i64 ((rd_T59 l0 x10_1).f1)] 59 (0, 0)) (mB_ BK572.out) hb); have n2_ := aM (below_step (zs GE572.out) hb); have n3_ := aM (hbox); have n4_ := aM ((zf GE572.out : w.heap.size ≤ gb580)); have n5_ := aM ((zf GE572.out : w.heap.size ≤ gb580)); have n6_ := aM ((zl BK572.out : gb572 ≠ gb580)); have n7_ := aM ((zn BK572.out : gb580 ≠ gb572)); clear HO_16 BK572 HB; have HO_16 := n0_; have BK572 := n1_; have HB := n2_; have BK580 := n3_; have GW580 := n4_; have GE580 := n5_; have NB572_580 := n6_; have NB580_572 := n7_; clear n0_ n1_ n2_ n3_ n4_ n5_ n6_ n7_ hb hbox hg; have hnb18 := NB580_572.out; have hnc18 := NB572_580.out; have hcz19_0 : w17.cell? ⟨gb580, 0, none⟩ = some (.int .i64 0) := (blk_cell BK580.out 0).trans rfl; have hcz19_1 : w17.cell? ⟨gb580, 1, none⟩ = some (.int .i64 0) := (blk_cell BK580.out 1).trans rfl; have hfz19_0 := blk_frozen BK580.out 0; have hfz19_1 := blk_frozen BK580.out 1) | ((with_reducible refine gate_callee (f := 65) rfl ?_); refine goesL_ (some 24) rfl rfl Try.func65 (by kernel_rfl) rfl #[.slice (some ad571) l0.length c0, .agg #[.int .i64 ((rd_T59 y576 x18_2).f0), .int .i64 ((rd_T59 y576 x18_2).f1)]] rfl zm ?_; (with_reducible refine (impl_Cell_65.calls k2 _ _ l0 ((rd_T59 y576 x18_2).f0) ((rd_T59 y576 x18_2).f1) true _ ?side1 ?side2 A15.out).mono ?_); (case side1 => exact Kd.C_below HR0.out (zt GE572.out GE580.out)); (case side2 => exact HC0.out); rintro e w20 ⟨rfl, hb⟩; refine ⟨_, rfl, ?_⟩; have n0_ := aM (Kd.Q_below (by (with_reducible repeat (first | apply Kd.Q_alloc | apply Kd.Q_drewN | apply Kd.Q_drew)); exact (Kd.Q_mono (Kd.Q_far (p := ⟨gb580, 1, none⟩) (Kd.Q_far (p := ⟨gb580, 0, none⟩) (Kd.Q_mono HO_16.out (fun k_ hk => (⟨hk, hk.2⟩ : _ ∧ k_ ≠ gb580))) (fun _ hk => hk.2) (.int .i64 ((rd_T59 y576 x18_2).f0))) (fun _ hk => hk.2) (.int .i64 ((rd_T59 y576 x18_2).f1))) (fun _ h_ => h_.1))) hb); have n1_ := aM (blk_below (g := gb572) (o := .cells #[.int .i64 ((rd_T59 l0 x10_1).f0), .int .i64 ((rd_T59 l0 x10_1).f1)] 59 (0, 0)) (by (with_reducible repeat (first | refine blk_drewN ?_ _ | refine blk_drew ?_ | refine blk_alloc ?_ _)); refine blk_far ?_ NB572_580.out _; (with_reducible repeat (first | refine blk_drewN ?_ _ | refine blk_drew ?_ | refine blk_alloc ?_ _)); refine blk_far ?_ NB572_580.out _; (with_reducible repeat (first | refine blk_drewN ?_ _ | refine blk_drew ?_ | refine blk_alloc ?_ _)); exact BK572.out) hb); have n2_ := aM (blk_below (g := gb580) (o := .cells #[.int .i64 ((rd_T59 y576 x18_2).f0), .int .i64 ((rd_T59 y576 x18_2).f1)] 59 (0, 0)) (by (with_reducible repeat (first | refine blk_drewN ?_ _ | refine blk_drew ?_ | refine blk_alloc ?_ _)); refine blk_put (cs := #[.int .i64 ((rd_T59 y576 x18_2).f0), .int .i64 0]) ?_ 1 _ rfl; (with_reducible repeat (first | refine blk_drewN ?_ _ | refine blk_drew ?_ | refine blk_alloc ?_ _)); refine blk_put (cs := #[.int .i64 0, .int .i64 0]) ?_ 0 _ rfl; (with_reducible repeat (first | refine blk_drewN ?_ _ | refine blk_drew ?_ | refine blk_alloc ?_ _)); exact BK580.out) hb); have n3_ := aM (below_step (zt GE572.out GE580.out) hb); clear HO_16 BK572 BK580 HB; have HO_16 := n0_; have BK572 := n1_; have BK580 := n2_; have HB := n3_; clear n0_ n1_ n2_ n3_; (try clear hb); (try clear hb2); (try clear hk); (try clear hi)))
      go_roundg k2
      case measure => have := HK1.out; have := HK2.out; omega
      case rel => exact ⟨(wrap64 (x3_2 + 1)), (wrap64 (x18_2 + 1)), zr, zr, H', ⟨by have := HK1.out; have := HK2.out; omega⟩, ⟨by (with_reducible repeat (first | apply Kd.Q_alloc | apply Kd.Q_drewN | apply Kd.Q_drew)); exact Kd.Q_mono HO_16.out (fun _ hk => hk.1)⟩, ⟨mB_ BK572.out⟩, ⟨zt GE572.out GE580.out⟩⟩
     replace c16 := Bool.eq_false_iff.mpr c16
     subst c16
     have H1 : (impl_touches.l1 k2 l0 x3_2 l0 (l0.length : Int) x10_1 y576 (y576.length : Int) (wrap64 (x18_2 + 1))) = some r := by rw [if_neg (show ¬ (false = true) by decide)] at H; exact H
     clear H
     have H := H1
     clear H1
     have H' := aM H
     clear H
     have p579 : 0 ≤ (x18_2 : Int) := of_decide_eq_true za
     have q579 : x18_2 < (y576.length : Int) := of_decide_eq_true za
     obtain ⟨ad579, e579, hx579_0, hx579_1⟩ := at_T59 (Kd.Q_reads' HO_16.out).2.2 x18_2 p579 q579
     cases e579
     replace p579 := eq_true p579
     replace q579 := eq_true q579
     go_wp2_with (first | ((with_reducible refine gate_dst (N := 7) rfl ?_); refine zx 7 #[.int .i64 0, .int .i64 0] 59 ?_; intro gb580 hg w21 hbox hb; have n0_ := aM (Kd.Q_below (Kd.Q_elderB (by (with_reducible repeat (first | apply Kd.Q_alloc | apply Kd.Q_drewN | apply Kd.Q_drew)); exact HO_16.out) gb580 (Nat.le_of_eq hg.symm)) hb); have n1_ := aM (blk_below (g := gb572) (o := .cells #[.int .i64 ((rd_T59 l0 x10_1).f0), .int .i64 ((rd_T59 l0 x10_1).f1)] 59 (0, 0)) (mB_ BK572.out) hb); have n2_ := aM (below_step (zs GE572.out) hb); have n3_ := aM (hbox); have n4_ := aM ((zf GE572.out : w.heap.size ≤ gb580)); have n5_ := aM ((zf GE572.out : w.heap.size ≤ gb580)); have n6_ := aM ((zl BK572.out : gb572 ≠ gb580)); have n7_ := aM ((zn BK572.out : gb580 ≠ gb572)); clear HO_16 BK572 HB; have HO_16 := n0_; have BK572 := n1_; have HB := n2_; have BK580 := n3_; have GW580 := n4_; have GE580 := n5_; have NB572_580 := n6_; have NB580_572 := n7_; clear n0_ n1_ n2_ n3_ n4_ n5_ n6_ n7_ hb hbox hg; have hnb22 := NB580_572.out; have hnc22 := NB572_580.out; have hcz23_0 : w21.cell? ⟨gb580, 0, none⟩ = some (.int .i64 0) := (blk_cell BK580.out 0).trans rfl; have hcz23_1 : w21.cell? ⟨gb580, 1, none⟩ = some (.int .i64 0) := (blk_cell BK580.out 1).trans rfl; have hfz23_0 := blk_frozen BK580.out 0; have hfz23_1 := blk_frozen BK580.out 1) | ((with_reducible refine gate_callee (f := 65) rfl ?_); refine goesL_ (some 24) rfl rfl Try.func65 (by kernel_rfl) rfl #[.slice (some ad571) l0.length c0, .agg #[.int .i64 ((rd_T59 y576 x18_2).f0), .int .i64 ((rd_T59 y576 x18_2).f1)]] rfl zm ?_; (with_reducible refine (impl_Cell_65.calls k2 _ _ l0 ((rd_T59 y576 x18_2).f0) ((rd_T59 y576 x18_2).f1) false _ ?side1 ?side2 A15.out).mono ?_); (case side1 => exact Kd.C_below HR0.out (zt GE572.out GE580.out)); (case side2 => exact HC0.out); rintro e w24 ⟨rfl, hb⟩; refine ⟨_, rfl, ?_⟩; have n0_ := aM (Kd.Q_below (by (with_reducible repeat (first | apply Kd.Q_alloc | apply Kd.Q_drewN | apply Kd.Q_drew)); exact (Kd.Q_mono (Kd.Q_far (p := ⟨gb580, 1, none⟩) (Kd.Q_far (p := ⟨gb580, 0, none⟩) (Kd.Q_mono HO_16.out (fun k_ hk => (⟨hk, hk.2⟩ : _ ∧ k_ ≠ gb580))) (fun _ hk => hk.2) (.int .i64 ((rd_T59 y576 x18_2).f0))) (fun _ hk => hk.2) (.int .i64 ((rd_T59 y576 x18_2).f1))) (fun _ h_ => h_.1))) hb); have n1_ := aM (blk_below (g := gb572) (o := .cells #[.int .i64 ((rd_T59 l0 x10_1).f0), .int .i64 ((rd_T59 l0 x10_1).f1)] 59 (0, 0)) (by (with_reducible repeat (first | refine blk_drewN ?_ _ | refine blk_drew ?_ | refine blk_alloc ?_ _)); refine blk_far ?_ NB572_580.out _; (with_reducible repeat (first | refine blk_drewN ?_ _ | refine blk_drew ?_ | refine blk_alloc ?_ _)); refine blk_far ?_ NB572_580.out _; (with_reducible repeat (first | refine blk_drewN ?_ _ | refine blk_drew ?_ | refine blk_alloc ?_ _)); exact BK572.out) hb); have n2_ := aM (blk_below (g := gb580) (o := .cells #[.int .i64 ((rd_T59 y576 x18_2).f0), .int .i64 ((rd_T59 y576 x18_2).f1)] 59 (0, 0)) (by (with_reducible repeat (first | refine blk_drewN ?_ _ | refine blk_drew ?_ | refine blk_alloc ?_ _)); refine blk_put (cs := #[.int .i64 ((rd_T59 y576 x18_2).f0), .int .i64 0]) ?_ 1 _ rfl; (with_reducible repeat (first | refine blk_drewN ?_ _ | refine blk_drew ?_ | refine blk_alloc ?_ _)); refine blk_put (cs := #[.int .i64 0, .int .i64 0]) ?_ 0 _ rfl; (with_reducible repeat (first | refine blk_drewN ?_ _ | refine blk_drew ?_ | refine blk_alloc ?_ _)); exact BK580.out) hb); have n3_ := aM (below_step (zt GE572.out GE580.out) hb); clear HO_16 BK572 BK580 HB; have HO_16 := n0_; have BK572 := n1_; have BK580 := n2_; have HB := n3_; clear n0_ n1_ n2_ n3_; (try clear hb); (try clear hb2); (try clear hk); (try clear hi)))
     go_roundg k2
     case measure => have := HK1.out; have := HK2.out; omega
     case rel => exact ⟨(x3_2), (wrap64 (x18_2 + 1)), zr, zr, H', ⟨by have := HK1.out; have := HK2.out; omega⟩, ⟨by (with_reducible repeat (first | apply Kd.Q_alloc | apply Kd.Q_drewN | apply Kd.Q_drew)); exact Kd.Q_mono HO_16.out (fun _ hk => hk.1)⟩, ⟨mB_ BK572.out⟩, ⟨zt GE572.out GE580.out⟩⟩
def impl_EdgeCount.f (k : Nat) (l0 : List (S59)) : Option (Int × Int) := (impl_IsShape.f k l0).bind fun t582 => (if t582 = true then ((impl_touches.f k l0).bind fun t583 => (some (wrap64 ((wrap64 (4 * (l0.length : Int))) - (wrap64 (2 * t583))), 0))) else (some (0, 1)))
theorem impl_EdgeCount.calls (k : Nat) (A0 : Option Addr) (c0 : Nat) (l0 : List (S59)) (r1 : Int) (r2 : Int) (w : World) (hr0 : Kd.C k59 w A0 l0.length l0) (hc0 : l0.length ≤ c0) (h : impl_EdgeCount.f k l0 = some (r1, r2)) :
  Calls Try.prog 25 #[.slice A0 l0.length c0] w fun e w' => e = .returned (.tuple #[.int .i64 r1, .int .i64 r2]) ∧ Below w.heap.size w w' := by
 have HR0 := aM hr0
 have HC0 := aM hc0
 clear hr0 hc0
 have HB := aM (Below.refl w.heap.size w)
 have H : ((impl_IsShape.f k l0).bind fun t582 => (if t582 = true then ((impl_touches.f k l0).bind fun t583 => (some (wrap64 ((wrap64 (4 * (l0.length : Int))) - (wrap64 (2 * t583))), 0))) else (some (0, 1)))) = some (r1, r2) := h
 clear h
 replace H := Option.bind_eq_some_iff.mp H
 obtain ⟨t582, A20, H⟩ := H
 replace H : (if t582 = true then ((impl_touches.f k l0).bind fun t583 => (some (wrap64 ((wrap64 (4 * (l0.length : Int))) - (wrap64 (2 * t583))), 0))) else (some (0, 1))) = some (r1, r2) := H
 have A2 := aM A20
 clear A20
 by_cases c3 : t582 = true
 rotate_left
 ·replace c3 := Bool.eq_false_iff.mpr c3
  subst c3
  have H1 : (some (0, 1)) = some (r1, r2) := by rw [if_neg (show ¬ (false = true) by decide)] at H; exact H
  clear H
  have H := H1
  clear H1
  simp only [Option.some.injEq, Prod.mk.injEq] at H
  obtain ⟨rfl, rfl⟩ := H
  go_enter Try.func25, Try.ntmps25
  go_wp2_with (first | ((with_reducible refine gate_callee (f := 61) rfl ?_); refine goesL_ (some 5) rfl rfl Try.func61 (by kernel_rfl) rfl #[.slice A0 l0.length c0] rfl zm ?_; (with_reducible refine (impl_IsShape.calls k _ _ l0 false _ ?side1 ?side2 A2.out).mono ?_); (case side1 => repeat (first | exact HR0.out | (with_reducible refine Kd.C_alloc ?_ _) | (with_reducible refine Kd.C_drewN ?_ _) | (with_reducible refine Kd.C_drew ?_))); (case side2 => exact HC0.out); rintro e w7 ⟨rfl, hb⟩; refine ⟨_, rfl, ?_⟩; have n0_ := aM (below_step zb hb); clear HB; have HB := n0_; clear n0_; (try clear hb); (try clear hb2); (try clear hk); (try clear hi)))
  go_ret2
  exact ⟨zw, zb⟩
 subst c3
 have H1 : ((impl_touches.f k l0).bind fun t583 => (some (wrap64 ((wrap64 (4 * (l0.length : Int))) - (wrap64 (2 * t583))), 0))) = some (r1, r2) := by rw [if_pos rfl] at H; exact H
 clear H
 have H := H1
 clear H1
 replace H := Option.bind_eq_some_iff.mp H
 obtain ⟨t583, A40, H⟩ := H
 replace H : (some (wrap64 ((wrap64 (4 * (l0.length : Int))) - (wrap64 (2 * t583))), 0)) = some (r1, r2) := H
 have A4 := aM A40
 clear A40
 simp only [Option.some.injEq, Prod.mk.injEq] at H
 obtain ⟨rfl, rfl⟩ := H
 go_enter Try.func25, Try.ntmps25
 go_wp2_with (first | ((with_reducible refine gate_callee (f := 61) rfl ?_); refine goesL_ (some 5) rfl rfl Try.func61 (by kernel_rfl) rfl #[.slice A0 l0.length c0] rfl zm ?_; (with_reducible refine (impl_IsShape.calls k _ _ l0 true _ ?side1 ?side2 A2.out).mono ?_); (case side1 => repeat (first | exact HR0.out | (with_reducible refine Kd.C_alloc ?_ _) | (with_reducible refine Kd.C_drewN ?_ _) | (with_reducible refine Kd.C_drew ?_))); (case side2 => exact HC0.out); rintro e w5 ⟨rfl, hb⟩; refine ⟨_, rfl, ?_⟩; have n0_ := aM (below_step zb hb); clear HB; have HB := n0_; clear n0_; (try clear hb); (try clear hb2); (try clear hk); (try clear hi)) | ((with_reducible refine gate_callee (f := 70) rfl ?_); refine goesL_ (some 11) rfl rfl Try.func70 (by kernel_rfl) rfl #[.slice A0 l0.length c0] rfl zm ?_; (with_reducible refine (impl_touches.calls k _ _ l0 t583 _ ?side1 ?side2 A4.out).mono ?_); (case side1 => repeat (first | exact (Kd.C_below HR0.out HB.out) | (with_reducible refine Kd.C_alloc ?_ _) | (with_reducible refine Kd.C_drewN ?_ _) | (with_reducible refine Kd.C_drew ?_))); (case side2 => exact HC0.out); rintro e w6 ⟨rfl, hb⟩; refine ⟨_, rfl, ?_⟩; have n0_ := aM (below_step zb hb); clear HB; have HB := n0_; clear n0_; (try clear hb); (try clear hb2); (try clear hk); (try clear hi)))
 go_ret2
 exact ⟨zw, zb⟩
def laws_FnConvex.j0 : Nat → List (S59) → Bool → Bool → Int → Int → Bool → Option (Bool)
 | 0, _, _, _, _, _, _ => none
 | k + 1, x3, x4, x5, x6, x10, x106 => if x106 = true then (some false) else (if x6 = 0 then ((impl_TurnShape.f k x3 1).bind fun bt604 => (if bt604.2 = 0 then ((impl_ConvexityOf.f k bt604.1).bind fun bt608 => ((impl_LongestLine.f k bt604.1).bind fun bt611 => ((impl_EdgeCount.f k bt604.1).bind fun bt613 => ((impl_EdgeCount.f k x3).bind fun bt615 => (if bt608.2.2 = 0 then (if bt611.2 = 0 then (if bt613.2 = 0 then (if bt615.2 = 0 then (if (bt608.1 == x5) = true then (if (bt608.2.1 == x4) = true then (if bt611.1 = x10 then (some (bt613.1 == bt615.1)) else (some false)) else (some false)) else (some false)) else (some false)) else (some false)) else (some false)) else (some false)))))) else (some (bt604.2 == 3)))) else (some true))
def laws_FnConvex.f (k : Nat) (l0 : List Int) : Option (Bool) := (laws_big.f l0).bind fun t584 => (if t584 = true then (some true) else ((spec_DrawConvexityOf.f k l0).bind fun t585 => ((impl_ConvexityOf.f k t585).bind fun bt588 => ((spec_ConvexityOf.f k t585).bind fun bt591 => ((impl_LongestLine.f k t585).bind fun bt594 => ((spec_LongestLine.f k t585).bind fun bt596 => ((impl_WeightOf.f k t585).bind fun bt598 => ((spec_WeightOf.f k t585).bind fun bt601 => (if bt588.2.2 = bt591.2.2 then (if (bt588.1 != bt591.1) = true then (laws_FnConvex.j0 k t585 bt588.1 bt588.2.1 bt588.2.2 bt594.1 true) else (if (bt588.2.1 != bt591.2.1) = true then (laws_FnConvex.j0 k t585 bt588.1 bt588.2.1 bt588.2.2 bt594.1 true) else (if bt594.2 = bt596.2 then (if bt594.1 = bt596.1 then (if bt598.2.2 = bt601.2.2 then (if bt598.1 = bt601.1 then (laws_FnConvex.j0 k t585 bt588.1 bt588.2.1 bt588.2.2 bt594.1 (bt598.2.1 != bt601.2.1)) else (laws_FnConvex.j0 k t585 bt588.1 bt588.2.1 bt588.2.2 bt594.1 true)) else (laws_FnConvex.j0 k t585 bt588.1 bt588.2.1 bt588.2.2 bt594.1 true)) else (laws_FnConvex.j0 k t585 bt588.1 bt588.2.1 bt588.2.2 bt594.1 true)) else (laws_FnConvex.j0 k t585 bt588.1 bt588.2.1 bt588.2.2 bt594.1 true)))) else (laws_FnConvex.j0 k t585 bt588.1 bt588.2.1 bt588.2.2 bt594.1 true))))))))))
theorem laws_FnConvex.calls (k : Nat) (A0 : Option Addr) (c0 : Nat) (l0 : List Int) (r : Bool) (w : World) (hr0 : Kd.C (Kd.int .u8) w A0 l0.length l0) (hc0 : l0.length ≤ c0) (h : laws_FnConvex.f k l0 = some r) :
  Calls Try.prog 4 #[.slice A0 l0.length c0] w fun e w' => e = .returned (.bool r) ∧ Below w.heap.size w w' := by
 have HR0 := aM hr0
 have HC0 := aM hc0
 clear hr0 hc0
 have HB := aM (Below.refl w.heap.size w)
 have H : ((laws_big.f l0).bind fun t584 => (if t584 = true then (some true) else ((spec_DrawConvexityOf.f k l0).bind fun t585 => ((impl_ConvexityOf.f k t585).bind fun bt588 => ((spec_ConvexityOf.f k t585).bind fun bt591 => ((impl_LongestLine.f k t585).bind fun bt594 => ((spec_LongestLine.f k t585).bind fun bt596 => ((impl_WeightOf.f k t585).bind fun bt598 => ((spec_WeightOf.f k t585).bind fun bt601 => (if bt588.2.2 = bt591.2.2 then (if (bt588.1 != bt591.1) = true then (laws_FnConvex.j0 k t585 bt588.1 bt588.2.1 bt588.2.2 bt594.1 true) else (if (bt588.2.1 != bt591.2.1) = true then (laws_FnConvex.j0 k t585 bt588.1 bt588.2.1 bt588.2.2 bt594.1 true) else (if bt594.2 = bt596.2 then (if bt594.1 = bt596.1 then (if bt598.2.2 = bt601.2.2 then (if bt598.1 = bt601.1 then (laws_FnConvex.j0 k t585 bt588.1 bt588.2.1 bt588.2.2 bt594.1 (bt598.2.1 != bt601.2.1)) else (laws_FnConvex.j0 k t585 bt588.1 bt588.2.1 bt588.2.2 bt594.1 true)) else (laws_FnConvex.j0 k t585 bt588.1 bt588.2.1 bt588.2.2 bt594.1 true)) else (laws_FnConvex.j0 k t585 bt588.1 bt588.2.1 bt588.2.2 bt594.1 true)) else (laws_FnConvex.j0 k t585 bt588.1 bt588.2.1 bt588.2.2 bt594.1 true)))) else (laws_FnConvex.j0 k t585 bt588.1 bt588.2.1 bt588.2.2 bt594.1 true))))))))))) = some r := h
 clear h
 replace H := Option.bind_eq_some_iff.mp H
 obtain ⟨t584, A20, H⟩ := H
 replace H : (if t584 = true then (some true) else ((spec_DrawConvexityOf.f k l0).bind fun t585 => ((impl_ConvexityOf.f k t585).bind fun bt588 => ((spec_ConvexityOf.f k t585).bind fun bt591 => ((impl_LongestLine.f k t585).bind fun bt594 => ((spec_LongestLine.f k t585).bind fun bt596 => ((impl_WeightOf.f k t585).bind fun bt598 => ((spec_WeightOf.f k t585).bind fun bt601 => (if bt588.2.2 = bt591.2.2 then (if (bt588.1 != bt591.1) = true then (laws_FnConvex.j0 k t585 bt588.1 bt588.2.1 bt588.2.2 bt594.1 true) else (if (bt588.2.1 != bt591.2.1) = true then (laws_FnConvex.j0 k t585 bt588.1 bt588.2.1 bt588.2.2 bt594.1 true) else (if bt594.2 = bt596.2 then (if bt594.1 = bt596.1 then (if bt598.2.2 = bt601.2.2 then (if bt598.1 = bt601.1 then (laws_FnConvex.j0 k t585 bt588.1 bt588.2.1 bt588.2.2 bt594.1 (bt598.2.1 != bt601.2.1)) else (laws_FnConvex.j0 k t585 bt588.1 bt588.2.1 bt588.2.2 bt594.1 true)) else (laws_FnConvex.j0 k t585 bt588.1 bt588.2.1 bt588.2.2 bt594.1 true)) else (laws_FnConvex.j0 k t585 bt588.1 bt588.2.1 bt588.2.2 bt594.1 true)) else (laws_FnConvex.j0 k t585 bt588.1 bt588.2.1 bt588.2.2 bt594.1 true)))) else (laws_FnConvex.j0 k t585 bt588.1 bt588.2.1 bt588.2.2 bt594.1 true)))))))))) = some r := H
 have A2 := aM A20
 clear A20
 by_cases c3 : t584 = true
 ·subst c3
  have H1 : (some true) = some r := by rw [if_pos rfl] at H; exact H
  clear H
  have H := H1
  clear H1
  obtain rfl := Option.some.inj H
  go_enter Try.func4, Try.ntmps4
  go_wp2_with (first | ((with_reducible refine gate_callee (f := 16) rfl ?_); refine goesL_ (some 32) rfl rfl Try.func16 (by kernel_rfl) rfl #[.slice A0 l0.length c0] rfl zm ?_; (with_reducible refine (laws_big.calls _ _ l0 true _ ?side1 ?side2 A2.out).mono ?_); (case side1 => repeat (first | exact HR0.out | (with_reducible refine Kd.C_alloc ?_ _) | (with_reducible refine Kd.C_drewN ?_ _) | (with_reducible refine Kd.C_drew ?_))); (case side2 => exact HC0.out); rintro e w' ⟨rfl, ⟨nd, rfl⟩⟩; refine ⟨_, rfl, ?_⟩))
  go_ret
  exact ⟨zw, zb⟩
 replace c3 := Bool.eq_false_iff.mpr c3
 subst c3
 have H1 : ((spec_DrawConvexityOf.f k l0).bind fun t585 => ((impl_ConvexityOf.f k t585).bind fun bt588 => ((spec_ConvexityOf.f k t585).bind fun bt591 => ((impl_LongestLine.f k t585).bind fun bt594 => ((spec_LongestLine.f k t585).bind fun bt596 => ((impl_WeightOf.f k t585).bind fun bt598 => ((spec_WeightOf.f k t585).bind fun bt601 => (if bt588.2.2 = bt591.2.2 then (if (bt588.1 != bt591.1) = true then (laws_FnConvex.j0 k t585 bt588.1 bt588.2.1 bt588.2.2 bt594.1 true) else (if (bt588.2.1 != bt591.2.1) = true then (laws_FnConvex.j0 k t585 bt588.1 bt588.2.1 bt588.2.2 bt594.1 true) else (if bt594.2 = bt596.2 then (if bt594.1 = bt596.1 then (if bt598.2.2 = bt601.2.2 then (if bt598.1 = bt601.1 then (laws_FnConvex.j0 k t585 bt588.1 bt588.2.1 bt588.2.2 bt594.1 (bt598.2.1 != bt601.2.1)) else (laws_FnConvex.j0 k t585 bt588.1 bt588.2.1 bt588.2.2 bt594.1 true)) else (laws_FnConvex.j0 k t585 bt588.1 bt588.2.1 bt588.2.2 bt594.1 true)) else (laws_FnConvex.j0 k t585 bt588.1 bt588.2.1 bt588.2.2 bt594.1 true)) else (laws_FnConvex.j0 k t585 bt588.1 bt588.2.1 bt588.2.2 bt594.1 true)))) else (laws_FnConvex.j0 k t585 bt588.1 bt588.2.1 bt588.2.2 bt594.1 true))))))))) = some r := by rw [if_neg (show ¬ (false = true) by decide)] at H; exact H
 clear H
 have H := H1
 clear H1
 replace H := Option.bind_eq_some_iff.mp H
 obtain ⟨t585, A40, H⟩ := H
 replace H : ((impl_ConvexityOf.f k t585).bind fun bt588 => ((spec_ConvexityOf.f k t585).bind fun bt591 => ((impl_LongestLine.f k t585).bind fun bt594 => ((spec_LongestLine.f k t585).bind fun bt596 => ((impl_WeightOf.f k t585).bind fun bt598 => ((spec_WeightOf.f k t585).bind fun bt601 => (if bt588.2.2 = bt591.2.2 then (if (bt588.1 != bt591.1) = true then (laws_FnConvex.j0 k t585 bt588.1 bt588.2.1 bt588.2.2 bt594.1 true) else (if (bt588.2.1 != bt591.2.1) = true then (laws_FnConvex.j0 k t585 bt588.1 bt588.2.1 bt588.2.2 bt594.1 true) else (if bt594.2 = bt596.2 then (if bt594.1 = bt596.1 then (if bt598.2.2 = bt601.2.2 then (if bt598.1 = bt601.1 then (laws_FnConvex.j0 k t585 bt588.1 bt588.2.1 bt588.2.2 bt594.1 (bt598.2.1 != bt601.2.1)) else (laws_FnConvex.j0 k t585 bt588.1 bt588.2.1 bt588.2.2 bt594.1 true)) else (laws_FnConvex.j0 k t585 bt588.1 bt588.2.1 bt588.2.2 bt594.1 true)) else (laws_FnConvex.j0 k t585 bt588.1 bt588.2.1 bt588.2.2 bt594.1 true)) else (laws_FnConvex.j0 k t585 bt588.1 bt588.2.1 bt588.2.2 bt594.1 true)))) else (laws_FnConvex.j0 k t585 bt588.1 bt588.2.1 bt588.2.2 bt594.1 true)))))))) = some r := H
 have A4 := aM A40
 clear A40
 replace H := Option.bind_eq_some_iff.mp H
 obtain ⟨⟨t588, t589, t590⟩, A50, H⟩ := H
 replace H : ((spec_ConvexityOf.f k t585).bind fun bt591 => ((impl_LongestLine.f k t585).bind fun bt594 => ((spec_LongestLine.f k t585).bind fun bt596 => ((impl_WeightOf.f k t585).bind fun bt598 => ((spec_WeightOf.f k t585).bind fun bt601 => (if t590 = bt591.2.2 then (if (t588 != bt591.1) = true then (laws_FnConvex.j0 k t585 t588 t589 t590 bt594.1 true) else (if (t589 != bt591.2.1) = true then (laws_FnConvex.j0 k t585 t588 t589 t590 bt594.1 true) else (if bt594.2 = bt596.2 then (if bt594.1 = bt596.1 then (if bt598.2.2 = bt601.2.2 then (if bt598.1 = bt601.1 then (laws_FnConvex.j0 k t585 t588 t589 t590 bt594.1 (bt598.2.1 != bt601.2.1)) else (laws_FnConvex.j0 k t585 t588 t589 t590 bt594.1 true)) else (laws_FnConvex.j0 k t585 t588 t589 t590 bt594.1 true)) else (laws_FnConvex.j0 k t585 t588 t589 t590 bt594.1 true)) else (laws_FnConvex.j0 k t585 t588 t589 t590 bt594.1 true)))) else (laws_FnConvex.j0 k t585 t588 t589 t590 bt594.1 true))))))) = some r := H
 have A5 := aM A50
 clear A50
 replace H := Option.bind_eq_some_iff.mp H
 obtain ⟨⟨t591, t592, t593⟩, A60, H⟩ := H
 replace H : ((impl_LongestLine.f k t585).bind fun bt594 => ((spec_LongestLine.f k t585).bind fun bt596 => ((impl_WeightOf.f k t585).bind fun bt598 => ((spec_WeightOf.f k t585).bind fun bt601 => (if t590 = t593 then (if (t588 != t591) = true then (laws_FnConvex.j0 k t585 t588 t589 t590 bt594.1 true) else (if (t589 != t592) = true then (laws_FnConvex.j0 k t585 t588 t589 t590 bt594.1 true) else (if bt594.2 = bt596.2 then (if bt594.1 = bt596.1 then (if bt598.2.2 = bt601.2.2 then (if bt598.1 = bt601.1 then (laws_FnConvex.j0 k t585 t588 t589 t590 bt594.1 (bt598.2.1 != bt601.2.1)) else (laws_FnConvex.j0 k t585 t588 t589 t590 bt594.1 true)) else (laws_FnConvex.j0 k t585 t588 t589 t590 bt594.1 true)) else (laws_FnConvex.j0 k t585 t588 t589 t590 bt594.1 true)) else (laws_FnConvex.j0 k t585 t588 t589 t590 bt594.1 true)))) else (laws_FnConvex.j0 k t585 t588 t589 t590 bt594.1 true)))))) = some r := H
 have A6 := aM A60
 clear A60
 replace H := Option.bind_eq_some_iff.mp H
 obtain ⟨⟨t594, t595⟩, A70, H⟩ := H
 replace H : ((spec_LongestLine.f k t585).bind fun bt596 => ((impl_WeightOf.f k t585).bind fun bt598 => ((spec_WeightOf.f k t585).bind fun bt601 => (if t590 = t593 then (if (t588 != t591) = true then (laws_FnConvex.j0 k t585 t588 t589 t590 t594 true) else (if (t589 != t592) = true then (laws_FnConvex.j0 k t585 t588 t589 t590 t594 true) else (if t595 = bt596.2 then (if t594 = bt596.1 then (if bt598.2.2 = bt601.2.2 then (if bt598.1 = bt601.1 then (laws_FnConvex.j0 k t585 t588 t589 t590 t594 (bt598.2.1 != bt601.2.1)) else (laws_FnConvex.j0 k t585 t588 t589 t590 t594 true)) else (laws_FnConvex.j0 k t585 t588 t589 t590 t594 true)) else (laws_FnConvex.j0 k t585 t588 t589 t590 t594 true)) else (laws_FnConvex.j0 k t585 t588 t589 t590 t594 true)))) else (laws_FnConvex.j0 k t585 t588 t589 t590 t594 true))))) = some r := H
 have A7 := aM A70
 clear A70
 replace H := Option.bind_eq_some_iff.mp H
 obtain ⟨⟨t596, t597⟩, A80, H⟩ := H
 replace H : ((impl_WeightOf.f k t585).bind fun bt598 => ((spec_WeightOf.f k t585).bind fun bt601 => (if t590 = t593 then (if (t588 != t591) = true then (laws_FnConvex.j0 k t585 t588 t589 t590 t594 true) else (if (t589 != t592) = true then (laws_FnConvex.j0 k t585 t588 t589 t590 t594 true) else (if t595 = t597 then (if t594 = t596 then (if bt598.2.2 = bt601.2.2 then (if bt598.1 = bt601.1 then (laws_FnConvex.j0 k t585 t588 t589 t590 t594 (bt598.2.1 != bt601.2.1)) else (laws_FnConvex.j0 k t585 t588 t589 t590 t594 true)) else (laws_FnConvex.j0 k t585 t588 t589 t590 t594 true)) else (laws_FnConvex.j0 k t585 t588 t589 t590 t594 true)) else (laws_FnConvex.j0 k t585 t588 t589 t590 t594 true)))) else (laws_FnConvex.j0 k t585 t588 t589 t590 t594 true)))) = some r := H
 have A8 := aM A80
 clear A80
 replace H := Option.bind_eq_some_iff.mp H
 obtain ⟨⟨t598, t599, t600⟩, A90, H⟩ := H
 replace H : ((spec_WeightOf.f k t585).bind fun bt601 => (if t590 = t593 then (if (t588 != t591) = true then (laws_FnConvex.j0 k t585 t588 t589 t590 t594 true) else (if (t589 != t592) = true then (laws_FnConvex.j0 k t585 t588 t589 t590 t594 true) else (if t595 = t597 then (if t594 = t596 then (if t600 = bt601.2.2 then (if t598 = bt601.1 then (laws_FnConvex.j0 k t585 t588 t589 t590 t594 (t599 != bt601.2.1)) else (laws_FnConvex.j0 k t585 t588 t589 t590 t594 true)) else (laws_FnConvex.j0 k t585 t588 t589 t590 t594 true)) else (laws_FnConvex.j0 k t585 t588 t589 t590 t594 true)) else (laws_FnConvex.j0 k t585 t588 t589 t590 t594 true)))) else (laws_FnConvex.j0 k t585 t588 t589 t590 t594 true))) = some r := H
 have A9 := aM A90
 clear A90
 replace H := Option.bind_eq_some_iff.mp H
 obtain ⟨⟨t601, t602, t603⟩, A100, H⟩ := H
 replace H : (if t590 = t593 then (if (t588 != t591) = true then (laws_FnConvex.j0 k t585 t588 t589 t590 t594 true) else (if (t589 != t592) = true then (laws_FnConvex.j0 k t585 t588 t589 t590 t594 true) else (if t595 = t597 then (if t594 = t596 then (if t600 = t603 then (if t598 = t601 then (laws_FnConvex.j0 k t585 t588 t589 t590 t594 (t599 != t602)) else (laws_FnConvex.j0 k t585 t588 t589 t590 t594 true)) else (laws_FnConvex.j0 k t585 t588 t589 t590 t594 true)) else (laws_FnConvex.j0 k t585 t588 t589 t590 t594 true)) else (laws_FnConvex.j0 k t585 t588 t589 t590 t594 true)))) else (laws_FnConvex.j0 k t585 t588 t589 t590 t594 true)) = some r := H
 have A10 := aM A100
 clear A100
 have HC11 := aM H
 clear H
 go_enter Try.func4, Try.ntmps4
 go_upto_region 10 with (first | ((with_reducible refine gate_callee (f := 16) rfl ?_); refine goesL_ (some 32) rfl rfl Try.func16 (by kernel_rfl) rfl #[.slice A0 l0.length c0] rfl zm ?_; (with_reducible refine (laws_big.calls _ _ l0 false _ ?side1 ?side2 A2.out).mono ?_); (case side1 => repeat (first | exact HR0.out | (with_reducible refine Kd.C_alloc ?_ _) | (with_reducible refine Kd.C_drewN ?_ _) | (with_reducible refine Kd.C_drew ?_))); (case side2 => exact HC0.out); rintro e w' ⟨rfl, ⟨nd, rfl⟩⟩; refine ⟨_, rfl, ?_⟩) | ((with_reducible refine gate_callee (f := 17) rfl ?_); refine goesL_ (some 34) rfl rfl Try.func17 (by kernel_rfl) rfl #[.slice A0 l0.length c0] rfl zm ?_; (with_reducible refine (spec_DrawConvexityOf.calls k _ _ l0 t585 _ ?side1 ?side2 A4.out).mono ?_); (case side1 => repeat (first | exact HR0.out | (with_reducible refine Kd.C_alloc ?_ _) | (with_reducible refine Kd.C_drewN ?_ _) | (with_reducible refine Kd.C_drew ?_))); (case side2 => exact HC0.out); rintro e w12 ⟨v586, rfl, ho0, hb⟩; refine ⟨_, rfl, ?_⟩; have n0_ := aM (Kd.R_lower ho0 (below_size zb)); have n1_ := aM (below_step zb hb); clear HB; have HO587 := n0_; have HB := n1_; clear n0_ n1_; (try clear hb); (try clear hb2); (try clear hk); (try clear hi); (try clear ho0); obtain ⟨Ao13, co13, eo13⟩ := Kd.R_slice HO587.out; subst eo13) | ((with_reducible refine gate_callee (f := 18) rfl ?_); refine goesL_ (some 37) rfl rfl Try.func18 (by kernel_rfl) rfl #[.slice Ao13 t585.length co13] rfl zm ?_; (with_reducible refine (impl_ConvexityOf.calls k _ _ t585 t588 t589 t590 _ ?side1 ?side2 A5.out).mono ?_); (case side1 => exact zc HO587.out); (case side2 => exact (Kd.R_reads' HO587.out).2.1); rintro e w14 ⟨rfl, hb⟩; refine ⟨_, rfl, ?_⟩; have n0_ := aM (Kd.R_below (mR_ HO587.out) hb); have n1_ := aM (below_step zb hb); clear HO587 HB; have HO587 := n0_; have HB := n1_; clear n0_ n1_; (try clear hb); (try clear hb2); (try clear hk); (try clear hi)) | ((with_reducible refine gate_callee (f := 19) rfl ?_); refine goesL_ (some 43) rfl rfl Try.func19 (by kernel_rfl) rfl #[.slice Ao13 t585.length co13] rfl zm ?_; (with_reducible refine (spec_ConvexityOf.calls k _ _ t585 t591 t592 t593 _ ?side1 ?side2 A6.out).mono ?_); (case side1 => exact zc HO587.out); (case side2 => exact (Kd.R_reads' HO587.out).2.1); rintro e w15 ⟨rfl, hb⟩; refine ⟨_, rfl, ?_⟩; have n0_ := aM (Kd.R_below (mR_ HO587.out) hb); have n1_ := aM (below_step zb hb); clear HO587 HB; have HO587 := n0_; have HB := n1_; clear n0_ n1_; (try clear hb); (try clear hb2); (try clear hk); (try clear hi)) | ((with_reducible refine gate_callee (f := 20) rfl ?_); refine goesL_ (some 49) rfl rfl Try.func20 (by kernel_rfl) rfl #[.slice Ao13 t585.length co13] rfl zm ?_; (with_reducible refine (impl_LongestLine.calls k _ _ t585 t594 t595 _ ?side1 ?side2 A7.out).mono ?_); (case side1 => exact zc HO587.out); (case side2 => exact (Kd.R_reads' HO587.out).2.1); rintro e w16 ⟨rfl, hb⟩; refine ⟨_, rfl, ?_⟩; have n0_ := aM (Kd.R_below (mR_ HO587.out) hb); have n1_ := aM (below_step zb hb); clear HO587 HB; have HO587 := n0_; have HB := n1_; clear n0_ n1_; (try clear hb); (try clear hb2); (try clear hk); (try clear hi)) | ((with_reducible refine gate_callee (f := 21) rfl ?_); refine goesL_ (some 54) rfl rfl Try.func21 (by kernel_rfl) rfl #[.slice Ao13 t585.length co13] rfl zm ?_; (with_reducible refine (spec_LongestLine.calls k _ _ t585 t596 t597 _ ?side1 ?side2 A8.out).mono ?_); (case side1 => exact zc HO587.out); (case side2 => exact (Kd.R_reads' HO587.out).2.1); rintro e w17 ⟨rfl, hb⟩; refine ⟨_, rfl, ?_⟩; have n0_ := aM (Kd.R_below (mR_ HO587.out) hb); have n1_ := aM (below_step zb hb); clear HO587 HB; have HO587 := n0_; have HB := n1_; clear n0_ n1_; (try clear hb); (try clear hb2); (try clear hk); (try clear hi)) | ((with_reducible refine gate_callee (f := 22) rfl ?_); refine goesL_ (some 59) rfl rfl Try.func22 (by kernel_rfl) rfl #[.slice Ao13 t585.length co13] rfl zm ?_; (with_reducible refine (impl_WeightOf.calls k _ _ t585 t598 t599 t600 _ ?side1 ?side2 A9.out).mono ?_); (case side1 => exact zc HO587.out); (case side2 => exact (Kd.R_reads' HO587.out).2.1); rintro e w18 ⟨rfl, hb⟩; refine ⟨_, rfl, ?_⟩; have n0_ := aM (Kd.R_below (mR_ HO587.out) hb); have n1_ := aM (below_step zb hb); clear HO587 HB; have HO587 := n0_; have HB := n1_; clear n0_ n1_; (try clear hb); (try clear hb2); (try clear hk); (try clear hi)) | ((with_reducible refine gate_callee (f := 23) rfl ?_); refine goesL_ (some 65) rfl rfl Try.func23 (by kernel_rfl) rfl #[.slice Ao13 t585.length co13] rfl zm ?_; (with_reducible refine (spec_WeightOf.calls k _ _ t585 t601 t602 t603 _ ?side1 ?side2 A10.out).mono ?_); (case side1 => exact zc HO587.out); (case side2 => exact (Kd.R_reads' HO587.out).2.1); rintro e w19 ⟨rfl, hb⟩; refine ⟨_, rfl, ?_⟩; have n0_ := aM (Kd.R_below (mR_ HO587.out) hb); have n1_ := aM (below_step zb hb); clear HO587 HB; have HO587 := n0_; have HB := n1_; clear n0_ n1_; (try clear hb); (try clear hb2); (try clear hk); (try clear hi)))
 (try simp only [Act.put, xA, xB, xC])
 go_cut [106] (fun v106 wc => ∃ (kq : Nat) (x106_10 : Bool), v106 = .bool x106_10 ∧ Aside0 (laws_FnConvex.j0 kq t585 t588 t589 t590 t594 x106_10 = some r) ∧ Aside0 (kq ≤ k) ∧ Aside0 (Kd.R k59 59 wc w.heap.size (fun _ => True) (.slice Ao13 t585.length co13) t585) ∧ Aside0 (Below w.heap.size w wc))
 case first =>
  have H := HC11.out
  clear HC11
  by_cases c20 : t590 = t593
  rotate_left
  ·rw [if_neg c20] at H
   have c20b0 : (t590 == t593) = false := beq_eq_false_iff_ne.mpr c20
   have c20b1 : (t590 != t593) = true := bne_iff_ne.mpr c20
   (first | rw [c20b0] | (simp only [i64_w, i32_w]; rw [c20b0]) | skip)
   have H' := aM H
   clear H
   go_wp2
   go_meet
   case rel => exact ⟨_, (true), zr, H', ⟨by first | omega | exact Nat.le_refl _⟩, ⟨mR_ HO587.out⟩, ⟨zb⟩⟩
  rw [if_pos c20] at H
  have c20b0 : (t590 == t593) = true := beq_iff_eq.mpr c20
  have c20b1 : (t590 != t593) = false := bne_eq_false_iff_eq.mpr c20
  clear c20
  (first | rw [c20b0] | (simp only [i64_w, i32_w]; rw [c20b0]) | skip)
  by_cases c21 : (t588 != t591) = true
  ·rw [if_pos c21] at H
   have c21b0 : (t588 != t591) = true := c21
   (try (have c21b1 : decide (t588 = t591) = false := by simpa using c21))
   (try (have c21b2 : (t588 == t591) = false := by simpa using c21))
   (try (have c21b3 : ¬ (t588 = t591) := by simpa using c21))
   clear c21
   have H' := aM H
   clear H
   go_wp2
   go_meet
   case rel => exact ⟨_, (true), zr, H', ⟨by first | omega | exact Nat.le_refl _⟩, ⟨mR_ HO587.out⟩, ⟨zb⟩⟩
  rw [if_neg c21] at H
  have c21b0 : (t588 != t591) = false := by simpa using c21
  (try (have c21b1 : decide (t588 = t591) = true := by simpa using c21))
  (try (have c21b2 : (t588 == t591) = true := by simpa using c21))
  clear c21
  by_cases c22 : (t589 != t592) = true
  ·rw [if_pos c22] at H
   have c22b0 : (t589 != t592) = true := c22
   (try (have c22b1 : decide (t589 = t592) = false := by simpa using c22))
   (try (have c22b2 : (t589 == t592) = false := by simpa using c22))
   (try (have c22b3 : ¬ (t589 = t592) := by simpa using c22))
   clear c22
   have H' := aM H
   clear H
   go_wp2
   go_meet
   case rel => exact ⟨_, (true), zr, H', ⟨by first | omega | exact Nat.le_refl _⟩, ⟨mR_ HO587.out⟩, ⟨zb⟩⟩
  rw [if_neg c22] at H
  have c22b0 : (t589 != t592) = false := by simpa using c22
  (try (have c22b1 : decide (t589 = t592) = true := by simpa using c22))
  (try (have c22b2 : (t589 == t592) = true := by simpa using c22))
  clear c22
  by_cases c23 : t595 = t597
  rotate_left
  ·rw [if_neg c23] at H
   have c23b0 : (t595 == t597) = false := beq_eq_false_iff_ne.mpr c23
   have c23b1 : (t595 != t597) = true := bne_iff_ne.mpr c23
   have H' := aM H
   clear H
   go_wp2
   go_meet
   case rel => exact ⟨_, (true), zr, H', ⟨by first | omega | exact Nat.le_refl _⟩, ⟨mR_ HO587.out⟩, ⟨zb⟩⟩
  rw [if_pos c23] at H
  have c23b0 : (t595 == t597) = true := beq_iff_eq.mpr c23
  have c23b1 : (t595 != t597) = false := bne_eq_false_iff_eq.mpr c23
  clear c23
  by_cases c24 : t594 = t596
  rotate_left
  ·rw [if_neg c24] at H
   have c24b0 : (t594 == t596) = false := beq_eq_false_iff_ne.mpr c24
   have c24b1 : (t594 != t596) = true := bne_iff_ne.mpr c24
   have H' := aM H
   clear H
   go_wp2
   go_meet
   case rel => exact ⟨_, (true), zr, H', ⟨by first | omega | exact Nat.le_refl _⟩, ⟨mR_ HO587.out⟩, ⟨zb⟩⟩
  rw [if_pos c24] at H
  have c24b0 : (t594 == t596) = true := beq_iff_eq.mpr c24
  have c24b1 : (t594 != t596) = false := bne_eq_false_iff_eq.mpr c24
  clear c24
  by_cases c25 : t600 = t603
  rotate_left
  ·rw [if_neg c25] at H
   have c25b0 : (t600 == t603) = false := beq_eq_false_iff_ne.mpr c25
   have c25b1 : (t600 != t603) = true := bne_iff_ne.mpr c25
   have H' := aM H
   clear H
   go_wp2
   go_meet
   case rel => exact ⟨_, (true), zr, H', ⟨by first | omega | exact Nat.le_refl _⟩, ⟨mR_ HO587.out⟩, ⟨zb⟩⟩
  rw [if_pos c25] at H
  have c25b0 : (t600 == t603) = true := beq_iff_eq.mpr c25
  have c25b1 : (t600 != t603) = false := bne_eq_false_iff_eq.mpr c25
  clear c25
  by_cases c26 : t598 = t601
  rotate_left
  ·rw [if_neg c26] at H
   have c26b0 : (t598 == t601) = false := beq_eq_false_iff_ne.mpr c26
   have c26b1 : (t598 != t601) = true := bne_iff_ne.mpr c26
   have H' := aM H
   clear H
   go_wp2
   go_meet
   case rel => exact ⟨_, (true), zr, H', ⟨by first | omega | exact Nat.le_refl _⟩, ⟨mR_ HO587.out⟩, ⟨zb⟩⟩
  rw [if_pos c26] at H
  have c26b0 : (t598 == t601) = true := beq_iff_eq.mpr c26
  have c26b1 : (t598 != t601) = false := bne_eq_false_iff_eq.mpr c26
  clear c26
  have H' := aM H
  clear H
  go_wp2
  go_meet
  case rel => exact ⟨_, ((t599 != t602)), zr, H', ⟨by first | omega | exact Nat.le_refl _⟩, ⟨mR_ HO587.out⟩, ⟨zb⟩⟩
 case rest =>
  clear HC11
  try clear c1
  try clear c2
  try clear p2
  try clear c3
  try clear c4
  try clear c16
  try clear c17
  try clear c18
  try clear c19
  try clear c20
  try clear c20b0
  try clear c20b1
  try clear c21
  try clear c21b0
  try clear c21b1
  try clear c21b2
  try clear c22
  try clear c22b0
  try clear c22b1
  try clear c22b2
  try clear c23
  try clear c23b0
  try clear c23b1
  try clear c24
  try clear c24b0
  try clear c24b1
  try clear c25
  try clear c25b0
  try clear c25b1
  try clear c26
  try clear c26b0
  try clear c26b1
  obtain ⟨kq, x106_10, rfl, HA, HJ10, HO_3, HB⟩ := hcut
  cases kq with
  | zero => exact absurd HA.out (by simp [laws_FnConvex.j0])
  | succ kj10 =>
   have H := HA.out
   clear HA
   simp only [laws_FnConvex.j0] at H
   by_cases c27 : x106_10 = true
   ·subst c27
    have H1 : (some false) = some r := by rw [if_pos rfl] at H; exact H
    clear H
    have H := H1
    clear H1
    obtain rfl := Option.some.inj H
    go_wp2
    go_ret
    exact ⟨zw, zb⟩
   replace c27 := Bool.eq_false_iff.mpr c27
   subst c27
   have H1 : (if t590 = 0 then ((impl_TurnShape.f kj10 t585 1).bind fun bt604 => (if bt604.2 = 0 then ((impl_ConvexityOf.f kj10 bt604.1).bind fun bt608 => ((impl_LongestLine.f kj10 bt604.1).bind fun bt611 => ((impl_EdgeCount.f kj10 bt604.1).bind fun bt613 => ((impl_EdgeCount.f kj10 t585).bind fun bt615 => (if bt608.2.2 = 0 then (if bt611.2 = 0 then (if bt613.2 = 0 then (if bt615.2 = 0 then (if (bt608.1 == t589) = true then (if (bt608.2.1 == t588) = true then (if bt611.1 = t594 then (some (bt613.1 == bt615.1)) else (some false)) else (some false)) else (some false)) else (some false)) else (some false)) else (some false)) else (some false)))))) else (some (bt604.2 == 3)))) else (some true)) = some r := by rw [if_neg (show ¬ (false = true) by decide)] at H; exact H
   clear H
   have H := H1
   clear H1
   by_cases c28 : t590 = 0
   rotate_left
   ·rw [if_neg c28] at H
    have c28b0 : (t590 == 0) = false := beq_eq_false_iff_ne.mpr c28
    have c28b1 : (t590 != 0) = true := bne_iff_ne.mpr c28
    obtain rfl := Option.some.inj H
    go_wp2
    go_ret
    exact ⟨zw, zb⟩
   rw [if_pos c28] at H
   have c28b0 : (t590 == 0) = true := beq_iff_eq.mpr c28
   have c28b1 : (t590 != 0) = false := bne_eq_false_iff_eq.mpr c28
   clear c28
   replace H := Option.bind_eq_some_iff.mp H
   obtain ⟨⟨t604, t605⟩, A290, H⟩ := H
   replace H : (if t605 = 0 then ((impl_ConvexityOf.f kj10 t604).bind fun bt608 => ((impl_LongestLine.f kj10 t604).bind fun bt611 => ((impl_EdgeCount.f kj10 t604).bind fun bt613 => ((impl_EdgeCount.f kj10 t585).bind fun bt615 => (if bt608.2.2 = 0 then (if bt611.2 = 0 then (if bt613.2 = 0 then (if bt615.2 = 0 then (if (bt608.1 == t589) = true then (if (bt608.2.1 == t588) = true then (if bt611.1 = t594 then (some (bt613.1 == bt615.1)) else (some false)) else (some false)) else (some false)) else (some false)) else (some false)) else (some false)) else (some false)))))) else (some (t605 == 3))) = some r := H
   have A29 := aM A290
   clear A290
   by_cases c30 : t605 = 0
   rotate_left
   ·rw [if_neg c30] at H
    have c30b0 : (t605 == 0) = false := beq_eq_false_iff_ne.mpr c30
    have c30b1 : (t605 != 0) = true := bne_iff_ne.mpr c30
    obtain rfl := Option.some.inj H
    go_wp2_with (first | ((with_reducible refine gate_callee (f := 24) rfl ?_); refine goesL_ (some 111) rfl rfl Try.func24 (by kernel_rfl) rfl #[.slice Ao13 t585.length co13, .int .i64 1] rfl zm ?_; (with_reducible refine (impl_TurnShape.calls kj10 _ _ t585 1 t604 t605 _ ?side1 ?side2 A29.out).mono ?_); (case side1 => exact zc HO_3.out); (case side2 => exact (Kd.R_reads' HO_3.out).2.1); rintro e w90 ⟨v606, rfl, ho0, hb⟩; refine ⟨_, rfl, ?_⟩; have n0_ := aM (Kd.R_elder' (mR_ HO_3.out) (Kd.R_base ho0) hb); have n1_ := aM (Kd.R_lower (Kd.R_new' ho0 (Kd.R_lt (mR_ HO_3.out))) (below_size zb)); have n2_ := aM (below_step zb hb); clear HO_3 HB; have HO_3 := n0_; have HO607 := n1_; have HB := n2_; clear n0_ n1_ n2_; (try clear hb); (try clear hb2); (try clear hk); (try clear hi); (try clear ho0)))
    go_ret
    exact ⟨zw, zb⟩
   rw [if_pos c30] at H
   have c30b0 : (t605 == 0) = true := beq_iff_eq.mpr c30
   have c30b1 : (t605 != 0) = false := bne_eq_false_iff_eq.mpr c30
   clear c30
   replace H := Option.bind_eq_some_iff.mp H
   obtain ⟨⟨t608, t609, t610⟩, A310, H⟩ := H
   replace H : ((impl_LongestLine.f kj10 t604).bind fun bt611 => ((impl_EdgeCount.f kj10 t604).bind fun bt613 => ((impl_EdgeCount.f kj10 t585).bind fun bt615 => (if t610 = 0 then (if bt611.2 = 0 then (if bt613.2 = 0 then (if bt615.2 = 0 then (if (t608 == t589) = true then (if (t609 == t588) = true then (if bt611.1 = t594 then (some (bt613.1 == bt615.1)) else (some false)) else (some false)) else (some false)) else (some false)) else (some false)) else (some false)) else (some false))))) = some r := H
   have A31 := aM A310
   clear A310
   replace H := Option.bind_eq_some_iff.mp H
   obtain ⟨⟨t611, t612⟩, A320, H⟩ := H
   replace H : ((impl_EdgeCount.f kj10 t604).bind fun bt613 => ((impl_EdgeCount.f kj10 t585).bind fun bt615 => (if t610 = 0 then (if t612 = 0 then (if bt613.2 = 0 then (if bt615.2 = 0 then (if (t608 == t589) = true then (if (t609 == t588) = true then (if t611 = t594 then (some (bt613.1 == bt615.1)) else (some false)) else (some false)) else (some false)) else (some false)) else (some false)) else (some false)) else (some false)))) = some r := H
   have A32 := aM A320
   clear A320
   replace H := Option.bind_eq_some_iff.mp H
   obtain ⟨⟨t613, t614⟩, A330, H⟩ := H
   replace H : ((impl_EdgeCount.f kj10 t585).bind fun bt615 => (if t610 = 0 then (if t612 = 0 then (if t614 = 0 then (if bt615.2 = 0 then (if (t608 == t589) = true then (if (t609 == t588) = true then (if t611 = t594 then (some (t613 == bt615.1)) else (some false)) else (some false)) else (some false)) else (some false)) else (some false)) else (some false)) else (some false))) = some r := H
   have A33 := aM A330
   clear A330
   replace H := Option.bind_eq_some_iff.mp H
   obtain ⟨⟨t615, t616⟩, A340, H⟩ := H
   replace H : (if t610 = 0 then (if t612 = 0 then (if t614 = 0 then (if t616 = 0 then (if (t608 == t589) = true then (if (t609 == t588) = true then (if t611 = t594 then (some (t613 == t615)) else (some false)) else (some false)) else (some false)) else (some false)) else (some false)) else (some false)) else (some false)) = some r := H
   have A34 := aM A340
   clear A340
   by_cases c35 : t610 = 0
   rotate_left
   ·rw [if_neg c35] at H
    have c35b0 : (t610 == 0) = false := beq_eq_false_iff_ne.mpr c35
    have c35b1 : (t610 != 0) = true := bne_iff_ne.mpr c35
    obtain rfl := Option.some.inj H
    go_wp2_with (first | ((with_reducible refine gate_callee (f := 24) rfl ?_); refine goesL_ (some 111) rfl rfl Try.func24 (by kernel_rfl) rfl #[.slice Ao13 t585.length co13, .int .i64 1] rfl zm ?_; (with_reducible refine (impl_TurnShape.calls kj10 _ _ t585 1 t604 t605 _ ?side1 ?side2 A29.out).mono ?_); (case side1 => exact zc HO_3.out); (case side2 => exact (Kd.R_reads' HO_3.out).2.1); rintro e w84 ⟨v606, rfl, ho0, hb⟩; refine ⟨_, rfl, ?_⟩; have n0_ := aM (Kd.R_elder' (mR_ HO_3.out) (Kd.R_base ho0) hb); have n1_ := aM (Kd.R_lower (Kd.R_new' ho0 (Kd.R_lt (mR_ HO_3.out))) (below_size zb)); have n2_ := aM (below_step zb hb); clear HO_3 HB; have HO_3 := n0_; have HO607 := n1_; have HB := n2_; clear n0_ n1_ n2_; (try clear hb); (try clear hb2); (try clear hk); (try clear hi); (try clear ho0); obtain ⟨Ao85, co85, eo85⟩ := Kd.R_slice HO607.out; subst eo85) | ((with_reducible refine gate_callee (f := 18) rfl ?_); refine goesL_ (some 120) rfl rfl Try.func18 (by kernel_rfl) rfl #[.slice Ao85 t604.length co85] rfl zm ?_; (with_reducible refine (impl_ConvexityOf.calls kj10 _ _ t604 t608 t609 t610 _ ?side1 ?side2 A31.out).mono ?_); (case side1 => exact zc HO607.out); (case side2 => exact (Kd.R_reads' HO607.out).2.1); rintro e w86 ⟨rfl, hb⟩; refine ⟨_, rfl, ?_⟩; have n0_ := aM (Kd.R_below (mR_ HO_3.out) hb); have n1_ := aM (Kd.R_below (mR_ HO607.out) hb); have n2_ := aM (below_step zb hb); clear HO_3 HO607 HB; have HO_3 := n0_; have HO607 := n1_; have HB := n2_; clear n0_ n1_ n2_; (try clear hb); (try clear hb2); (try clear hk); (try clear hi)) | ((with_reducible refine gate_callee (f := 20) rfl ?_); refine goesL_ (some 126) rfl rfl Try.func20 (by kernel_rfl) rfl #[.slice Ao85 t604.length co85] rfl zm ?_; (with_reducible refine (impl_LongestLine.calls kj10 _ _ t604 t611 t612 _ ?side1 ?side2 A32.out).mono ?_); (case side1 => exact zc HO607.out); (case side2 => exact (Kd.R_reads' HO607.out).2.1); rintro e w87 ⟨rfl, hb⟩; refine ⟨_, rfl, ?_⟩; have n0_ := aM (Kd.R_below (mR_ HO_3.out) hb); have n1_ := aM (Kd.R_below (mR_ HO607.out) hb); have n2_ := aM (below_step zb hb); clear HO_3 HO607 HB; have HO_3 := n0_; have HO607 := n1_; have HB := n2_; clear n0_ n1_ n2_; (try clear hb); (try clear hb2); (try clear hk); (try clear hi)) | ((with_reducible refine gate_callee (f := 25) rfl ?_); refine goesL_ (some 131) rfl rfl Try.func25 (by kernel_rfl) rfl #[.slice Ao85 t604.length co85] rfl zm ?_; (with_reducible refine (impl_EdgeCount.calls kj10 _ _ t604 t613 t614 _ ?side1 ?side2 A33.out).mono ?_); (case side1 => exact zc HO607.out); (case side2 => exact (Kd.R_reads' HO607.out).2.1); rintro e w88 ⟨rfl, hb⟩; refine ⟨_, rfl, ?_⟩; have n0_ := aM (Kd.R_below (mR_ HO_3.out) hb); have n1_ := aM (Kd.R_below (mR_ HO607.out) hb); have n2_ := aM (below_step zb hb); clear HO_3 HO607 HB; have HO_3 := n0_; have HO607 := n1_; have HB := n2_; clear n0_ n1_ n2_; (try clear hb); (try clear hb2); (try clear hk); (try clear hi)) | ((with_reducible refine gate_callee (f := 25) rfl ?_); refine goesL_ (some 136) rfl rfl Try.func25 (by kernel_rfl) rfl #[.slice Ao13 t585.length co13] rfl zm ?_; (with_reducible refine (impl_EdgeCount.calls kj10 _ _ t585 t615 t616 _ ?side1 ?side2 A34.out).mono ?_); (case side1 => exact zc HO_3.out); (case side2 => exact (Kd.R_reads' HO_3.out).2.1); rintro e w89 ⟨rfl, hb⟩; refine ⟨_, rfl, ?_⟩; have n0_ := aM (Kd.R_below (mR_ HO_3.out) hb); have n1_ := aM (Kd.R_below (mR_ HO607.out) hb); have n2_ := aM (below_step zb hb); clear HO_3 HO607 HB; have HO_3 := n0_; have HO607 := n1_; have HB := n2_; clear n0_ n1_ n2_; (try clear hb); (try clear hb2); (try clear hk); (try clear hi)))
    go_ret
    exact ⟨zw, zb⟩
   rw [if_pos c35] at H
   have c35b0 : (t610 == 0) = true := beq_iff_eq.mpr c35
   have c35b1 : (t610 != 0) = false := bne_eq_false_iff_eq.mpr c35
   clear c35
   by_cases c36 : t612 = 0
   rotate_left
   ·rw [if_neg c36] at H
    have c36b0 : (t612 == 0) = false := beq_eq_false_iff_ne.mpr c36
    have c36b1 : (t612 != 0) = true := bne_iff_ne.mpr c36
    obtain rfl := Option.some.inj H
    go_wp2_with (first | ((with_reducible refine gate_callee (f := 24) rfl ?_); refine goesL_ (some 111) rfl rfl Try.func24 (by kernel_rfl) rfl #[.slice Ao13 t585.length co13, .int .i64 1] rfl zm ?_; (with_reducible refine (impl_TurnShape.calls kj10 _ _ t585 1 t604 t605 _ ?side1 ?side2 A29.out).mono ?_); (case side1 => exact zc HO_3.out); (case side2 => exact (Kd.R_reads' HO_3.out).2.1); rintro e w78 ⟨v606, rfl, ho0, hb⟩; refine ⟨_, rfl, ?_⟩; have n0_ := aM (Kd.R_elder' (mR_ HO_3.out) (Kd.R_base ho0) hb); have n1_ := aM (Kd.R_lower (Kd.R_new' ho0 (Kd.R_lt (mR_ HO_3.out))) (below_size zb)); have n2_ := aM (below_step zb hb); clear HO_3 HB; have HO_3 := n0_; have HO607 := n1_; have HB := n2_; clear n0_ n1_ n2_; (try clear hb); (try clear hb2); (try clear hk); (try clear hi); (try clear ho0); obtain ⟨Ao79, co79, eo79⟩ := Kd.R_slice HO607.out; subst eo79) | ((with_reducible refine gate_callee (f := 18) rfl ?_); refine goesL_ (some 120) rfl rfl Try.func18 (by kernel_rfl) rfl #[.slice Ao79 t604.length co79] rfl zm ?_; (with_reducible refine (impl_ConvexityOf.calls kj10 _ _ t604 t608 t609 t610 _ ?side1 ?side2 A31.out).mono ?_); (case side1 => exact zc HO607.out); (case side2 => exact (Kd.R_reads' HO607.out).2.1); rintro e w80 ⟨rfl, hb⟩; refine ⟨_, rfl, ?_⟩; have n0_ := aM (Kd.R_below (mR_ HO_3.out) hb); have n1_ := aM (Kd.R_below (mR_ HO607.out) hb); have n2_ := aM (below_step zb hb); clear HO_3 HO607 HB; have HO_3 := n0_; have HO607 := n1_; have HB := n2_; clear n0_ n1_ n2_; (try clear hb); (try clear hb2); (try clear hk); (try clear hi)) | ((with_reducible refine gate_callee (f := 20) rfl ?_); refine goesL_ (some 126) rfl rfl Try.func20 (by kernel_rfl) rfl #[.slice Ao79 t604.length co79] rfl zm ?_; (with_reducible refine (impl_LongestLine.calls kj10 _ _ t604 t611 t612 _ ?side1 ?side2 A32.out).mono ?_); (case side1 => exact zc HO607.out); (case side2 => exact (Kd.R_reads' HO607.out).2.1); rintro e w81 ⟨rfl, hb⟩; refine ⟨_, rfl, ?_⟩; have n0_ := aM (Kd.R_below (mR_ HO_3.out) hb); have n1_ := aM (Kd.R_below (mR_ HO607.out) hb); have n2_ := aM (below_step zb hb); clear HO_3 HO607 HB; have HO_3 := n0_; have HO607 := n1_; have HB := n2_; clear n0_ n1_ n2_; (try clear hb); (try clear hb2); (try clear hk); (try clear hi)) | ((with_reducible refine gate_callee (f := 25) rfl ?_); refine goesL_ (some 131) rfl rfl Try.func25 (by kernel_rfl) rfl #[.slice Ao79 t604.length co79] rfl zm ?_; (with_reducible refine (impl_EdgeCount.calls kj10 _ _ t604 t613 t614 _ ?side1 ?side2 A33.out).mono ?_); (case side1 => exact zc HO607.out); (case side2 => exact (Kd.R_reads' HO607.out).2.1); rintro e w82 ⟨rfl, hb⟩; refine ⟨_, rfl, ?_⟩; have n0_ := aM (Kd.R_below (mR_ HO_3.out) hb); have n1_ := aM (Kd.R_below (mR_ HO607.out) hb); have n2_ := aM (below_step zb hb); clear HO_3 HO607 HB; have HO_3 := n0_; have HO607 := n1_; have HB := n2_; clear n0_ n1_ n2_; (try clear hb); (try clear hb2); (try clear hk); (try clear hi)) | ((with_reducible refine gate_callee (f := 25) rfl ?_); refine goesL_ (some 136) rfl rfl Try.func25 (by kernel_rfl) rfl #[.slice Ao13 t585.length co13] rfl zm ?_; (with_reducible refine (impl_EdgeCount.calls kj10 _ _ t585 t615 t616 _ ?side1 ?side2 A34.out).mono ?_); (case side1 => exact zc HO_3.out); (case side2 => exact (Kd.R_reads' HO_3.out).2.1); rintro e w83 ⟨rfl, hb⟩; refine ⟨_, rfl, ?_⟩; have n0_ := aM (Kd.R_below (mR_ HO_3.out) hb); have n1_ := aM (Kd.R_below (mR_ HO607.out) hb); have n2_ := aM (below_step zb hb); clear HO_3 HO607 HB; have HO_3 := n0_; have HO607 := n1_; have HB := n2_; clear n0_ n1_ n2_; (try clear hb); (try clear hb2); (try clear hk); (try clear hi)))
    go_ret
    exact ⟨zw, zb⟩
   rw [if_pos c36] at H
   have c36b0 : (t612 == 0) = true := beq_iff_eq.mpr c36
   have c36b1 : (t612 != 0) = false := bne_eq_false_iff_eq.mpr c36
   clear c36
   by_cases c37 : t614 = 0
   rotate_left
   ·rw [if_neg c37] at H
    have c37b0 : (t614 == 0) = false := beq_eq_false_iff_ne.mpr c37
    have c37b1 : (t614 != 0) = true := bne_iff_ne.mpr c37
    obtain rfl := Option.some.inj H
    go_wp2_with (first | ((with_reducible refine gate_callee (f := 24) rfl ?_); refine goesL_ (some 111) rfl rfl Try.func24 (by kernel_rfl) rfl #[.slice Ao13 t585.length co13, .int .i64 1] rfl zm ?_; (with_reducible refine (impl_TurnShape.calls kj10 _ _ t585 1 t604 t605 _ ?side1 ?side2 A29.out).mono ?_); (case side1 => exact zc HO_3.out); (case side2 => exact (Kd.R_reads' HO_3.out).2.1); rintro e w72 ⟨v606, rfl, ho0, hb⟩; refine ⟨_, rfl, ?_⟩; have n0_ := aM (Kd.R_elder' (mR_ HO_3.out) (Kd.R_base ho0) hb); have n1_ := aM (Kd.R_lower (Kd.R_new' ho0 (Kd.R_lt (mR_ HO_3.out))) (below_size zb)); have n2_ := aM (below_step zb hb); clear HO_3 HB; have HO_3 := n0_; have HO607 := n1_; have HB := n2_; clear n0_ n1_ n2_; (try clear hb); (try clear hb2); (try clear hk); (try clear hi); (try clear ho0); obtain ⟨Ao73, co73, eo73⟩ := Kd.R_slice HO607.out; subst eo73) | ((with_reducible refine gate_callee (f := 18) rfl ?_); refine goesL_ (some 120) rfl rfl Try.func18 (by kernel_rfl) rfl #[.slice Ao73 t604.length co73] rfl zm ?_; (with_reducible refine (impl_ConvexityOf.calls kj10 _ _ t604 t608 t609 t610 _ ?side1 ?side2 A31.out).mono ?_); (case side1 => exact zc HO607.out); (case side2 => exact (Kd.R_reads' HO607.out).2.1); rintro e w74 ⟨rfl, hb⟩; refine ⟨_, rfl, ?_⟩; have n0_ := aM (Kd.R_below (mR_ HO_3.out) hb); have n1_ := aM (Kd.R_below (mR_ HO607.out) hb); have n2_ := aM (below_step zb hb); clear HO_3 HO607 HB; have HO_3 := n0_; have HO607 := n1_; have HB := n2_; clear n0_ n1_ n2_; (try clear hb); (try clear hb2); (try clear hk); (try clear hi)) | ((with_reducible refine gate_callee (f := 20) rfl ?_); refine goesL_ (some 126) rfl rfl Try.func20 (by kernel_rfl) rfl #[.slice Ao73 t604.length co73] rfl zm ?_; (with_reducible refine (impl_LongestLine.calls kj10 _ _ t604 t611 t612 _ ?side1 ?side2 A32.out).mono ?_); (case side1 => exact zc HO607.out); (case side2 => exact (Kd.R_reads' HO607.out).2.1); rintro e w75 ⟨rfl, hb⟩; refine ⟨_, rfl, ?_⟩; have n0_ := aM (Kd.R_below (mR_ HO_3.out) hb); have n1_ := aM (Kd.R_below (mR_ HO607.out) hb); have n2_ := aM (below_step zb hb); clear HO_3 HO607 HB; have HO_3 := n0_; have HO607 := n1_; have HB := n2_; clear n0_ n1_ n2_; (try clear hb); (try clear hb2); (try clear hk); (try clear hi)) | ((with_reducible refine gate_callee (f := 25) rfl ?_); refine goesL_ (some 131) rfl rfl Try.func25 (by kernel_rfl) rfl #[.slice Ao73 t604.length co73] rfl zm ?_; (with_reducible refine (impl_EdgeCount.calls kj10 _ _ t604 t613 t614 _ ?side1 ?side2 A33.out).mono ?_); (case side1 => exact zc HO607.out); (case side2 => exact (Kd.R_reads' HO607.out).2.1); rintro e w76 ⟨rfl, hb⟩; refine ⟨_, rfl, ?_⟩; have n0_ := aM (Kd.R_below (mR_ HO_3.out) hb); have n1_ := aM (Kd.R_below (mR_ HO607.out) hb); have n2_ := aM (below_step zb hb); clear HO_3 HO607 HB; have HO_3 := n0_; have HO607 := n1_; have HB := n2_; clear n0_ n1_ n2_; (try clear hb); (try clear hb2); (try clear hk); (try clear hi)) | ((with_reducible refine gate_callee (f := 25) rfl ?_); refine goesL_ (some 136) rfl rfl Try.func25 (by kernel_rfl) rfl #[.slice Ao13 t585.length co13] rfl zm ?_; (with_reducible refine (impl_EdgeCount.calls kj10 _ _ t585 t615 t616 _ ?side1 ?side2 A34.out).mono ?_); (case side1 => exact zc HO_3.out); (case side2 => exact (Kd.R_reads' HO_3.out).2.1); rintro e w77 ⟨rfl, hb⟩; refine ⟨_, rfl, ?_⟩; have n0_ := aM (Kd.R_below (mR_ HO_3.out) hb); have n1_ := aM (Kd.R_below (mR_ HO607.out) hb); have n2_ := aM (below_step zb hb); clear HO_3 HO607 HB; have HO_3 := n0_; have HO607 := n1_; have HB := n2_; clear n0_ n1_ n2_; (try clear hb); (try clear hb2); (try clear hk); (try clear hi)))
    go_ret
    exact ⟨zw, zb⟩
   rw [if_pos c37] at H
   have c37b0 : (t614 == 0) = true := beq_iff_eq.mpr c37
   have c37b1 : (t614 != 0) = false := bne_eq_false_iff_eq.mpr c37
   clear c37
   by_cases c38 : t616 = 0
   rotate_left
   ·rw [if_neg c38] at H
    have c38b0 : (t616 == 0) = false := beq_eq_false_iff_ne.mpr c38
    have c38b1 : (t616 != 0) = true := bne_iff_ne.mpr c38
    obtain rfl := Option.some.inj H
    go_wp2_with (first | ((with_reducible refine gate_callee (f := 24) rfl ?_); refine goesL_ (some 111) rfl rfl Try.func24 (by kernel_rfl) rfl #[.slice Ao13 t585.length co13, .int .i64 1] rfl zm ?_; (with_reducible refine (impl_TurnShape.calls kj10 _ _ t585 1 t604 t605 _ ?side1 ?side2 A29.out).mono ?_); (case side1 => exact zc HO_3.out); (case side2 => exact (Kd.R_reads' HO_3.out).2.1); rintro e w66 ⟨v606, rfl, ho0, hb⟩; refine ⟨_, rfl, ?_⟩; have n0_ := aM (Kd.R_elder' (mR_ HO_3.out) (Kd.R_base ho0) hb); have n1_ := aM (Kd.R_lower (Kd.R_new' ho0 (Kd.R_lt (mR_ HO_3.out))) (below_size zb)); have n2_ := aM (below_step zb hb); clear HO_3 HB; have HO_3 := n0_; have HO607 := n1_; have HB := n2_; clear n0_ n1_ n2_; (try clear hb); (try clear hb2); (try clear hk); (try clear hi); (try clear ho0); obtain ⟨Ao67, co67, eo67⟩ := Kd.R_slice HO607.out; subst eo67) | ((with_reducible refine gate_callee (f := 18) rfl ?_); refine goesL_ (some 120) rfl rfl Try.func18 (by kernel_rfl) rfl #[.slice Ao67 t604.length co67] rfl zm ?_; (with_reducible refine (impl_ConvexityOf.calls kj10 _ _ t604 t608 t609 t610 _ ?side1 ?side2 A31.out).mono ?_); (case side1 => exact zc HO607.out); (case side2 => exact (Kd.R_reads' HO607.out).2.1); rintro e w68 ⟨rfl, hb⟩; refine ⟨_, rfl, ?_⟩; have n0_ := aM (Kd.R_below (mR_ HO_3.out) hb); have n1_ := aM (Kd.R_below (mR_ HO607.out) hb); have n2_ := aM (below_step zb hb); clear HO_3 HO607 HB; have HO_3 := n0_; have HO607 := n1_; have HB := n2_; clear n0_ n1_ n2_; (try clear hb); (try clear hb2); (try clear hk); (try clear hi)) | ((with_reducible refine gate_callee (f := 20) rfl ?_); refine goesL_ (some 126) rfl rfl Try.func20 (by kernel_rfl) rfl #[.slice Ao67 t604.length co67] rfl zm ?_; (with_reducible refine (impl_LongestLine.calls kj10 _ _ t604 t611 t612 _ ?side1 ?side2 A32.out).mono ?_); (case side1 => exact zc HO607.out); (case side2 => exact (Kd.R_reads' HO607.out).2.1); rintro e w69 ⟨rfl, hb⟩; refine ⟨_, rfl, ?_⟩; have n0_ := aM (Kd.R_below (mR_ HO_3.out) hb); have n1_ := aM (Kd.R_below (mR_ HO607.out) hb); have n2_ := aM (below_step zb hb); clear HO_3 HO607 HB; have HO_3 := n0_; have HO607 := n1_; have HB := n2_; clear n0_ n1_ n2_; (try clear hb); (try clear hb2); (try clear hk); (try clear hi)) | ((with_reducible refine gate_callee (f := 25) rfl ?_); refine goesL_ (some 131) rfl rfl Try.func25 (by kernel_rfl) rfl #[.slice Ao67 t604.length co67] rfl zm ?_; (with_reducible refine (impl_EdgeCount.calls kj10 _ _ t604 t613 t614 _ ?side1 ?side2 A33.out).mono ?_); (case side1 => exact zc HO607.out); (case side2 => exact (Kd.R_reads' HO607.out).2.1); rintro e w70 ⟨rfl, hb⟩; refine ⟨_, rfl, ?_⟩; have n0_ := aM (Kd.R_below (mR_ HO_3.out) hb); have n1_ := aM (Kd.R_below (mR_ HO607.out) hb); have n2_ := aM (below_step zb hb); clear HO_3 HO607 HB; have HO_3 := n0_; have HO607 := n1_; have HB := n2_; clear n0_ n1_ n2_; (try clear hb); (try clear hb2); (try clear hk); (try clear hi)) | ((with_reducible refine gate_callee (f := 25) rfl ?_); refine goesL_ (some 136) rfl rfl Try.func25 (by kernel_rfl) rfl #[.slice Ao13 t585.length co13] rfl zm ?_; (with_reducible refine (impl_EdgeCount.calls kj10 _ _ t585 t615 t616 _ ?side1 ?side2 A34.out).mono ?_); (case side1 => exact zc HO_3.out); (case side2 => exact (Kd.R_reads' HO_3.out).2.1); rintro e w71 ⟨rfl, hb⟩; refine ⟨_, rfl, ?_⟩; have n0_ := aM (Kd.R_below (mR_ HO_3.out) hb); have n1_ := aM (Kd.R_below (mR_ HO607.out) hb); have n2_ := aM (below_step zb hb); clear HO_3 HO607 HB; have HO_3 := n0_; have HO607 := n1_; have HB := n2_; clear n0_ n1_ n2_; (try clear hb); (try clear hb2); (try clear hk); (try clear hi)))
    go_ret
    exact ⟨zw, zb⟩
   rw [if_pos c38] at H
   have c38b0 : (t616 == 0) = true := beq_iff_eq.mpr c38
   have c38b1 : (t616 != 0) = false := bne_eq_false_iff_eq.mpr c38
   clear c38
   by_cases c39 : (t608 == t589) = true
   rotate_left
   ·rw [if_neg c39] at H
    have c39b0 : (t608 == t589) = false := by simpa using c39
    (try (have c39b1 : decide (t608 = t589) = false := by simpa using c39))
    (try (have c39b2 : (t608 == t589) = false := by simpa using c39))
    (try (have c39b3 : ¬ (t608 = t589) := by simpa using c39))
    clear c39
    obtain rfl := Option.some.inj H
    go_wp2_with (first | ((with_reducible refine gate_callee (f := 24) rfl ?_); refine goesL_ (some 111) rfl rfl Try.func24 (by kernel_rfl) rfl #[.slice Ao13 t585.length co13, .int .i64 1] rfl zm ?_; (with_reducible refine (impl_TurnShape.calls kj10 _ _ t585 1 t604 t605 _ ?side1 ?side2 A29.out).mono ?_); (case side1 => exact zc HO_3.out); (case side2 => exact (Kd.R_reads' HO_3.out).2.1); rintro e w60 ⟨v606, rfl, ho0, hb⟩; refine ⟨_, rfl, ?_⟩; have n0_ := aM (Kd.R_elder' (mR_ HO_3.out) (Kd.R_base ho0) hb); have n1_ := aM (Kd.R_lower (Kd.R_new' ho0 (Kd.R_lt (mR_ HO_3.out))) (below_size zb)); have n2_ := aM (below_step zb hb); clear HO_3 HB; have HO_3 := n0_; have HO607 := n1_; have HB := n2_; clear n0_ n1_ n2_; (try clear hb); (try clear hb2); (try clear hk); (try clear hi); (try clear ho0); obtain ⟨Ao61, co61, eo61⟩ := Kd.R_slice HO607.out; subst eo61) | ((with_reducible refine gate_callee (f := 18) rfl ?_); refine goesL_ (some 120) rfl rfl Try.func18 (by kernel_rfl) rfl #[.slice Ao61 t604.length co61] rfl zm ?_; (with_reducible refine (impl_ConvexityOf.calls kj10 _ _ t604 t608 t609 t610 _ ?side1 ?side2 A31.out).mono ?_); (case side1 => exact zc HO607.out); (case side2 => exact (Kd.R_reads' HO607.out).2.1); rintro e w62 ⟨rfl, hb⟩; refine ⟨_, rfl, ?_⟩; have n0_ := aM (Kd.R_below (mR_ HO_3.out) hb); have n1_ := aM (Kd.R_below (mR_ HO607.out) hb); have n2_ := aM (below_step zb hb); clear HO_3 HO607 HB; have HO_3 := n0_; have HO607 := n1_; have HB := n2_; clear n0_ n1_ n2_; (try clear hb); (try clear hb2); (try clear hk); (try clear hi)) | ((with_reducible refine gate_callee (f := 20) rfl ?_); refine goesL_ (some 126) rfl rfl Try.func20 (by kernel_rfl) rfl #[.slice Ao61 t604.length co61] rfl zm ?_; (with_reducible refine (impl_LongestLine.calls kj10 _ _ t604 t611 t612 _ ?side1 ?side2 A32.out).mono ?_); (case side1 => exact zc HO607.out); (case side2 => exact (Kd.R_reads' HO607.out).2.1); rintro e w63 ⟨rfl, hb⟩; refine ⟨_, rfl, ?_⟩; have n0_ := aM (Kd.R_below (mR_ HO_3.out) hb); have n1_ := aM (Kd.R_below (mR_ HO607.out) hb); have n2_ := aM (below_step zb hb); clear HO_3 HO607 HB; have HO_3 := n0_; have HO607 := n1_; have HB := n2_; clear n0_ n1_ n2_; (try clear hb); (try clear hb2); (try clear hk); (try clear hi)) | ((with_reducible refine gate_callee (f := 25) rfl ?_); refine goesL_ (some 131) rfl rfl Try.func25 (by kernel_rfl) rfl #[.slice Ao61 t604.length co61] rfl zm ?_; (with_reducible refine (impl_EdgeCount.calls kj10 _ _ t604 t613 t614 _ ?side1 ?side2 A33.out).mono ?_); (case side1 => exact zc HO607.out); (case side2 => exact (Kd.R_reads' HO607.out).2.1); rintro e w64 ⟨rfl, hb⟩; refine ⟨_, rfl, ?_⟩; have n0_ := aM (Kd.R_below (mR_ HO_3.out) hb); have n1_ := aM (Kd.R_below (mR_ HO607.out) hb); have n2_ := aM (below_step zb hb); clear HO_3 HO607 HB; have HO_3 := n0_; have HO607 := n1_; have HB := n2_; clear n0_ n1_ n2_; (try clear hb); (try clear hb2); (try clear hk); (try clear hi)) | ((with_reducible refine gate_callee (f := 25) rfl ?_); refine goesL_ (some 136) rfl rfl Try.func25 (by kernel_rfl) rfl #[.slice Ao13 t585.length co13] rfl zm ?_; (with_reducible refine (impl_EdgeCount.calls kj10 _ _ t585 t615 t616 _ ?side1 ?side2 A34.out).mono ?_); (case side1 => exact zc HO_3.out); (case side2 => exact (Kd.R_reads' HO_3.out).2.1); rintro e w65 ⟨rfl, hb⟩; refine ⟨_, rfl, ?_⟩; have n0_ := aM (Kd.R_below (mR_ HO_3.out) hb); have n1_ := aM (Kd.R_below (mR_ HO607.out) hb); have n2_ := aM (below_step zb hb); clear HO_3 HO607 HB; have HO_3 := n0_; have HO607 := n1_; have HB := n2_; clear n0_ n1_ n2_; (try clear hb); (try clear hb2); (try clear hk); (try clear hi)))
    go_ret
    exact ⟨zw, zb⟩
   rw [if_pos c39] at H
   have c39b0 : (t608 == t589) = true := c39
   (try (have c39b1 : decide (t608 = t589) = true := by simpa using c39))
   (try (have c39b2 : (t608 == t589) = true := by simpa using c39))
   clear c39
   by_cases c40 : (t609 == t588) = true
   rotate_left
   ·rw [if_neg c40] at H
    have c40b0 : (t609 == t588) = false := by simpa using c40
    (try (have c40b1 : decide (t609 = t588) = false := by simpa using c40))
    (try (have c40b2 : (t609 == t588) = false := by simpa using c40))
    (try (have c40b3 : ¬ (t609 = t588) := by simpa using c40))
    clear c40
    obtain rfl := Option.some.inj H
    go_wp2_with (first | ((with_reducible refine gate_callee (f := 24) rfl ?_); refine goesL_ (some 111) rfl rfl Try.func24 (by kernel_rfl) rfl #[.slice Ao13 t585.length co13, .int .i64 1] rfl zm ?_; (with_reducible refine (impl_TurnShape.calls kj10 _ _ t585 1 t604 t605 _ ?side1 ?side2 A29.out).mono ?_); (case side1 => exact zc HO_3.out); (case side2 => exact (Kd.R_reads' HO_3.out).2.1); rintro e w54 ⟨v606, rfl, ho0, hb⟩; refine ⟨_, rfl, ?_⟩; have n0_ := aM (Kd.R_elder' (mR_ HO_3.out) (Kd.R_base ho0) hb); have n1_ := aM (Kd.R_lower (Kd.R_new' ho0 (Kd.R_lt (mR_ HO_3.out))) (below_size zb)); have n2_ := aM (below_step zb hb); clear HO_3 HB; have HO_3 := n0_; have HO607 := n1_; have HB := n2_; clear n0_ n1_ n2_; (try clear hb); (try clear hb2); (try clear hk); (try clear hi); (try clear ho0); obtain ⟨Ao55, co55, eo55⟩ := Kd.R_slice HO607.out; subst eo55) | ((with_reducible refine gate_callee (f := 18) rfl ?_); refine goesL_ (some 120) rfl rfl Try.func18 (by kernel_rfl) rfl #[.slice Ao55 t604.length co55] rfl zm ?_; (with_reducible refine (impl_ConvexityOf.calls kj10 _ _ t604 t608 t609 t610 _ ?side1 ?side2 A31.out).mono ?_); (case side1 => exact zc HO607.out); (case side2 => exact (Kd.R_reads' HO607.out).2.1); rintro e w56 ⟨rfl, hb⟩; refine ⟨_, rfl, ?_⟩; have n0_ := aM (Kd.R_below (mR_ HO_3.out) hb); have n1_ := aM (Kd.R_below (mR_ HO607.out) hb); have n2_ := aM (below_step zb hb); clear HO_3 HO607 HB; have HO_3 := n0_; have HO607 := n1_; have HB := n2_; clear n0_ n1_ n2_; (try clear hb); (try clear hb2); (try clear hk); (try clear hi)) | ((with_reducible refine gate_callee (f := 20) rfl ?_); refine goesL_ (some 126) rfl rfl Try.func20 (by kernel_rfl) rfl #[.slice Ao55 t604.length co55] rfl zm ?_; (with_reducible refine (impl_LongestLine.calls kj10 _ _ t604 t611 t612 _ ?side1 ?side2 A32.out).mono ?_); (case side1 => exact zc HO607.out); (case side2 => exact (Kd.R_reads' HO607.out).2.1); rintro e w57 ⟨rfl, hb⟩; refine ⟨_, rfl, ?_⟩; have n0_ := aM (Kd.R_below (mR_ HO_3.out) hb); have n1_ := aM (Kd.R_below (mR_ HO607.out) hb); have n2_ := aM (below_step zb hb); clear HO_3 HO607 HB; have HO_3 := n0_; have HO607 := n1_; have HB := n2_; clear n0_ n1_ n2_; (try clear hb); (try clear hb2); (try clear hk); (try clear hi)) | ((with_reducible refine gate_callee (f := 25) rfl ?_); refine goesL_ (some 131) rfl rfl Try.func25 (by kernel_rfl) rfl #[.slice Ao55 t604.length co55] rfl zm ?_; (with_reducible refine (impl_EdgeCount.calls kj10 _ _ t604 t613 t614 _ ?side1 ?side2 A33.out).mono ?_); (case side1 => exact zc HO607.out); (case side2 => exact (Kd.R_reads' HO607.out).2.1); rintro e w58 ⟨rfl, hb⟩; refine ⟨_, rfl, ?_⟩; have n0_ := aM (Kd.R_below (mR_ HO_3.out) hb); have n1_ := aM (Kd.R_below (mR_ HO607.out) hb); have n2_ := aM (below_step zb hb); clear HO_3 HO607 HB; have HO_3 := n0_; have HO607 := n1_; have HB := n2_; clear n0_ n1_ n2_; (try clear hb); (try clear hb2); (try clear hk); (try clear hi)) | ((with_reducible refine gate_callee (f := 25) rfl ?_); refine goesL_ (some 136) rfl rfl Try.func25 (by kernel_rfl) rfl #[.slice Ao13 t585.length co13] rfl zm ?_; (with_reducible refine (impl_EdgeCount.calls kj10 _ _ t585 t615 t616 _ ?side1 ?side2 A34.out).mono ?_); (case side1 => exact zc HO_3.out); (case side2 => exact (Kd.R_reads' HO_3.out).2.1); rintro e w59 ⟨rfl, hb⟩; refine ⟨_, rfl, ?_⟩; have n0_ := aM (Kd.R_below (mR_ HO_3.out) hb); have n1_ := aM (Kd.R_below (mR_ HO607.out) hb); have n2_ := aM (below_step zb hb); clear HO_3 HO607 HB; have HO_3 := n0_; have HO607 := n1_; have HB := n2_; clear n0_ n1_ n2_; (try clear hb); (try clear hb2); (try clear hk); (try clear hi)))
    go_ret
    exact ⟨zw, zb⟩
   rw [if_pos c40] at H
   have c40b0 : (t609 == t588) = true := c40
   (try (have c40b1 : decide (t609 = t588) = true := by simpa using c40))
   (try (have c40b2 : (t609 == t588) = true := by simpa using c40))
   clear c40
   by_cases c41 : t611 = t594
   rotate_left
   ·rw [if_neg c41] at H
    have c41b0 : (t611 == t594) = false := beq_eq_false_iff_ne.mpr c41
    have c41b1 : (t611 != t594) = true := bne_iff_ne.mpr c41
    obtain rfl := Option.some.inj H
    go_wp2_with (first | ((with_reducible refine gate_callee (f := 24) rfl ?_); refine goesL_ (some 111) rfl rfl Try.func24 (by kernel_rfl) rfl #[.slice Ao13 t585.length co13, .int .i64 1] rfl zm ?_; (with_reducible refine (impl_TurnShape.calls kj10 _ _ t585 1 t604 t605 _ ?side1 ?side2 A29.out).mono ?_); (case side1 => exact zc HO_3.out); (case side2 => exact (Kd.R_reads' HO_3.out).2.1); rintro e w48 ⟨v606, rfl, ho0, hb⟩; refine ⟨_, rfl, ?_⟩; have n0_ := aM (Kd.R_elder' (mR_ HO_3.out) (Kd.R_base ho0) hb); have n1_ := aM (Kd.R_lower (Kd.R_new' ho0 (Kd.R_lt (mR_ HO_3.out))) (below_size zb)); have n2_ := aM (below_step zb hb); clear HO_3 HB; have HO_3 := n0_; have HO607 := n1_; have HB := n2_; clear n0_ n1_ n2_; (try clear hb); (try clear hb2); (try clear hk); (try clear hi); (try clear ho0); obtain ⟨Ao49, co49, eo49⟩ := Kd.R_slice HO607.out; subst eo49) | ((with_reducible refine gate_callee (f := 18) rfl ?_); refine goesL_ (some 120) rfl rfl Try.func18 (by kernel_rfl) rfl #[.slice Ao49 t604.length co49] rfl zm ?_; (with_reducible refine (impl_ConvexityOf.calls kj10 _ _ t604 t608 t609 t610 _ ?side1 ?side2 A31.out).mono ?_); (case side1 => exact zc HO607.out); (case side2 => exact (Kd.R_reads' HO607.out).2.1); rintro e w50 ⟨rfl, hb⟩; refine ⟨_, rfl, ?_⟩; have n0_ := aM (Kd.R_below (mR_ HO_3.out) hb); have n1_ := aM (Kd.R_below (mR_ HO607.out) hb); have n2_ := aM (below_step zb hb); clear HO_3 HO607 HB; have HO_3 := n0_; have HO607 := n1_; have HB := n2_; clear n0_ n1_ n2_; (try clear hb); (try clear hb2); (try clear hk); (try clear hi)) | ((with_reducible refine gate_callee (f := 20) rfl ?_); refine goesL_ (some 126) rfl rfl Try.func20 (by kernel_rfl) rfl #[.slice Ao49 t604.length co49] rfl zm ?_; (with_reducible refine (impl_LongestLine.calls kj10 _ _ t604 t611 t612 _ ?side1 ?side2 A32.out).mono ?_); (case side1 => exact zc HO607.out); (case side2 => exact (Kd.R_reads' HO607.out).2.1); rintro e w51 ⟨rfl, hb⟩; refine ⟨_, rfl, ?_⟩; have n0_ := aM (Kd.R_below (mR_ HO_3.out) hb); have n1_ := aM (Kd.R_below (mR_ HO607.out) hb); have n2_ := aM (below_step zb hb); clear HO_3 HO607 HB; have HO_3 := n0_; have HO607 := n1_; have HB := n2_; clear n0_ n1_ n2_; (try clear hb); (try clear hb2); (try clear hk); (try clear hi)) | ((with_reducible refine gate_callee (f := 25) rfl ?_); refine goesL_ (some 131) rfl rfl Try.func25 (by kernel_rfl) rfl #[.slice Ao49 t604.length co49] rfl zm ?_; (with_reducible refine (impl_EdgeCount.calls kj10 _ _ t604 t613 t614 _ ?side1 ?side2 A33.out).mono ?_); (case side1 => exact zc HO607.out); (case side2 => exact (Kd.R_reads' HO607.out).2.1); rintro e w52 ⟨rfl, hb⟩; refine ⟨_, rfl, ?_⟩; have n0_ := aM (Kd.R_below (mR_ HO_3.out) hb); have n1_ := aM (Kd.R_below (mR_ HO607.out) hb); have n2_ := aM (below_step zb hb); clear HO_3 HO607 HB; have HO_3 := n0_; have HO607 := n1_; have HB := n2_; clear n0_ n1_ n2_; (try clear hb); (try clear hb2); (try clear hk); (try clear hi)) | ((with_reducible refine gate_callee (f := 25) rfl ?_); refine goesL_ (some 136) rfl rfl Try.func25 (by kernel_rfl) rfl #[.slice Ao13 t585.length co13] rfl zm ?_; (with_reducible refine (impl_EdgeCount.calls kj10 _ _ t585 t615 t616 _ ?side1 ?side2 A34.out).mono ?_); (case side1 => exact zc HO_3.out); (case side2 => exact (Kd.R_reads' HO_3.out).2.1); rintro e w53 ⟨rfl, hb⟩; refine ⟨_, rfl, ?_⟩; have n0_ := aM (Kd.R_below (mR_ HO_3.out) hb); have n1_ := aM (Kd.R_below (mR_ HO607.out) hb); have n2_ := aM (below_step zb hb); clear HO_3 HO607 HB; have HO_3 := n0_; have HO607 := n1_; have HB := n2_; clear n0_ n1_ n2_; (try clear hb); (try clear hb2); (try clear hk); (try clear hi)))
    go_ret
    exact ⟨zw, zb⟩
   rw [if_pos c41] at H
   have c41b0 : (t611 == t594) = true := beq_iff_eq.mpr c41
   have c41b1 : (t611 != t594) = false := bne_eq_false_iff_eq.mpr c41
   clear c41
   obtain rfl := Option.some.inj H
   go_wp2_with (first | ((with_reducible refine gate_callee (f := 24) rfl ?_); refine goesL_ (some 111) rfl rfl Try.func24 (by kernel_rfl) rfl #[.slice Ao13 t585.length co13, .int .i64 1] rfl zm ?_; (with_reducible refine (impl_TurnShape.calls kj10 _ _ t585 1 t604 t605 _ ?side1 ?side2 A29.out).mono ?_); (case side1 => exact zc HO_3.out); (case side2 => exact (Kd.R_reads' HO_3.out).2.1); rintro e w42 ⟨v606, rfl, ho0, hb⟩; refine ⟨_, rfl, ?_⟩; have n0_ := aM (Kd.R_elder' (mR_ HO_3.out) (Kd.R_base ho0) hb); have n1_ := aM (Kd.R_lower (Kd.R_new' ho0 (Kd.R_lt (mR_ HO_3.out))) (below_size zb)); have n2_ := aM (below_step zb hb); clear HO_3 HB; have HO_3 := n0_; have HO607 := n1_; have HB := n2_; clear n0_ n1_ n2_; (try clear hb); (try clear hb2); (try clear hk); (try clear hi); (try clear ho0); obtain ⟨Ao43, co43, eo43⟩ := Kd.R_slice HO607.out; subst eo43) | ((with_reducible refine gate_callee (f := 18) rfl ?_); refine goesL_ (some 120) rfl rfl Try.func18 (by kernel_rfl) rfl #[.slice Ao43 t604.length co43] rfl zm ?_; (with_reducible refine (impl_ConvexityOf.calls kj10 _ _ t604 t608 t609 t610 _ ?side1 ?side2 A31.out).mono ?_); (case side1 => exact zc HO607.out); (case side2 => exact (Kd.R_reads' HO607.out).2.1); rintro e w44 ⟨rfl, hb⟩; refine ⟨_, rfl, ?_⟩; have n0_ := aM (Kd.R_below (mR_ HO_3.out) hb); have n1_ := aM (Kd.R_below (mR_ HO607.out) hb); have n2_ := aM (below_step zb hb); clear HO_3 HO607 HB; have HO_3 := n0_; have HO607 := n1_; have HB := n2_; clear n0_ n1_ n2_; (try clear hb); (try clear hb2); (try clear hk); (try clear hi)) | ((with_reducible refine gate_callee (f := 20) rfl ?_); refine goesL_ (some 126) rfl rfl Try.func20 (by kernel_rfl) rfl #[.slice Ao43 t604.length co43] rfl zm ?_; (with_reducible refine (impl_LongestLine.calls kj10 _ _ t604 t611 t612 _ ?side1 ?side2 A32.out).mono ?_); (case side1 => exact zc HO607.out); (case side2 => exact (Kd.R_reads' HO607.out).2.1); rintro e w45 ⟨rfl, hb⟩; refine ⟨_, rfl, ?_⟩; have n0_ := aM (Kd.R_below (mR_ HO_3.out) hb); have n1_ := aM (Kd.R_below (mR_ HO607.out) hb); have n2_ := aM (below_step zb hb); clear HO_3 HO607 HB; have HO_3 := n0_; have HO607 := n1_; have HB := n2_; clear n0_ n1_ n2_; (try clear hb); (try clear hb2); (try clear hk); (try clear hi)) | ((with_reducible refine gate_callee (f := 25) rfl ?_); refine goesL_ (some 131) rfl rfl Try.func25 (by kernel_rfl) rfl #[.slice Ao43 t604.length co43] rfl zm ?_; (with_reducible refine (impl_EdgeCount.calls kj10 _ _ t604 t613 t614 _ ?side1 ?side2 A33.out).mono ?_); (case side1 => exact zc HO607.out); (case side2 => exact (Kd.R_reads' HO607.out).2.1); rintro e w46 ⟨rfl, hb⟩; refine ⟨_, rfl, ?_⟩; have n0_ := aM (Kd.R_below (mR_ HO_3.out) hb); have n1_ := aM (Kd.R_below (mR_ HO607.out) hb); have n2_ := aM (below_step zb hb); clear HO_3 HO607 HB; have HO_3 := n0_; have HO607 := n1_; have HB := n2_; clear n0_ n1_ n2_; (try clear hb); (try clear hb2); (try clear hk); (try clear hi)) | ((with_reducible refine gate_callee (f := 25) rfl ?_); refine goesL_ (some 136) rfl rfl Try.func25 (by kernel_rfl) rfl #[.slice Ao13 t585.length co13] rfl zm ?_; (with_reducible refine (impl_EdgeCount.calls kj10 _ _ t585 t615 t616 _ ?side1 ?side2 A34.out).mono ?_); (case side1 => exact zc HO_3.out); (case side2 => exact (Kd.R_reads' HO_3.out).2.1); rintro e w47 ⟨rfl, hb⟩; refine ⟨_, rfl, ?_⟩; have n0_ := aM (Kd.R_below (mR_ HO_3.out) hb); have n1_ := aM (Kd.R_below (mR_ HO607.out) hb); have n2_ := aM (below_step zb hb); clear HO_3 HO607 HB; have HO_3 := n0_; have HO607 := n1_; have HB := n2_; clear n0_ n1_ n2_; (try clear hb); (try clear hb2); (try clear hk); (try clear hi)))
   go_ret
   exact ⟨zw, zb⟩
end Go.Proofs.Ytfdfdifjkaaeoaa.F
end
section
namespace Go.Proofs.Ytfdfdifjkaaeoaa.Open
open Go.ChangeShapes Go.WideShapes Go.Deep Go.RowKit Go.Proofs.YtfdfdifjkaaeoaaW.PrintWords
def Opens {α : Type} (P : Program) (d : Kd α) (t : TypeId) (V : α → Prop) : Prop :=
  ∀ (H : Type) (enc : TypeId × Value → H) (w : World) (base : Nat) (spare : Nat → Bool) (held : Bool) (fuel : Nat) (cs : List Value) (x : DataW H × List MemPlace),
    DataW.trod enc P w base spare held fuel t cs = some x → ∃ a : α, d.K w a cs ∧ V a
theorem Opens.int {P : Program} {t : TypeId} {k : IntKind} (ht : P.underlying t = some (.int k)) : Opens P (Kd.int k) t (fun a => (Lit.int k a).wf = true) := by
  intro H enc w base spare held fuel cs x h
  obtain ⟨n, hcs, _, hw⟩ := DataW.trod_int ht h
  exact ⟨n, hcs, hw⟩
theorem Opens.bool {P : Program} {t : TypeId} (ht : P.underlying t = some .bool) : Opens P Kd.bool t (fun _ => True) := by
  intro H enc w base spare held fuel cs x h
  obtain ⟨b, hcs, _⟩ := DataW.trod_bool ht h
  exact ⟨b, hcs, trivial⟩
theorem Opens.slice {α : Type} [Inhabited α] {P : Program} {t e : TypeId} {d : Kd α} {V : α → Prop} (ht : P.underlying t = some (.slice e)) (hsz : P.cellsOf e = d.sz) (ho : Opens P d e V) :
    Opens P (Kd.slice e d) t (fun l => l.length ≤ 9223372036854775807 ∧ ∀ a ∈ l, V a) := by
  intro H enc w base spare held fuel cs x h
  rcases open_slice ht h with ⟨rfl, _⟩ | ⟨a, len, cap, m, n, D, Pl, rfl, hb, hl, hm, hmm, _, hi⟩
  · exact ⟨[], ⟨none, 0, rfl, Nat.le_refl _, rfl, by simp, fun hp => absurd hp (by simp)⟩, by simp, by simp⟩
  · have hlm : len ≤ m := by rw [hmm]; split <;> omega
    have hx : ∀ i, i < len → ∃ y : α, V y ∧ ∃ c : List Value, c.length = d.sz ∧ d.K w y c ∧ ∀ j u, c[j]? = some u → w.cell? (a.add (i * d.sz + j)) = some u := by
      intro i hil
      obtain ⟨cs', hc, ht'⟩ := hi i (by omega)
      obtain ⟨y, hk, hv⟩ := ho H enc w base spare held n cs' _ ht'
      obtain ⟨_, hcl, hat⟩ := World.cells?_some hc
      refine ⟨y, hv, cs', d.K_len hk, hk, fun j u hj => ?_⟩
      have hjl : j < cs'.length := (List.getElem?_eq_some_iff.1 hj).1
      have := hat j (by rw [hsz, ← d.K_len hk]; exact hjl)
      rw [Go.Deep.add_add, hsz] at this
      rw [this, hj]
    obtain ⟨f, hf⟩ := choose_lt hx
    have hlen : ((List.range len).map f).length = len := by simp
    refine ⟨(List.range len).map f, ⟨some a, cap, by rw [hlen], by rw [hlen]; exact hl, rfl, ?_, fun _ => ⟨a, rfl, fun j p hj => ?_⟩⟩, ?_⟩
    · rw [hlen]; unfold maxLen at hm; omega
    · have hjl : j < len := by
        have := (List.getElem?_eq_some_iff.1 hj).1
        rwa [hlen] at this
      have hp : f j = p := by
        rw [List.getElem?_map, List.getElem?_range hjl] at hj
        simpa using hj
      obtain ⟨_, c, h1, h2, h3⟩ := hf j hjl
      rw [hp] at h2
      exact ⟨c, h1, h2, h3⟩
    · refine ⟨by rw [hlen]; unfold maxLen at hm; omega, fun y hy => ?_⟩
      obtain ⟨i, hi', rfl⟩ := List.mem_map.1 hy
      exact (hf i (List.mem_range.1 hi')).1
theorem arg_open {α : Type} {P : Program} {t : TypeId} {d : Kd α} {V : α → Prop} (ho : Opens P d t V) {H : Type} {enc : TypeId × Value → H} {w : World} {base : Nat} {spare : Nat → Bool} {held : Bool} {v : Value} {x : DataW H} {p : List MemPlace}
    (h : DataW.Trod enc P w base spare held t v x p) : ∃ a : α, d.K w a v.cells.toList ∧ V a := by
  obtain ⟨fuel, hf⟩ := h
  exact ho _ _ _ _ _ _ _ _ _ hf
theorem slice_arg {α : Type} {d : Kd α} {e : Nat} {w : World} {l : List α} {a : Option Addr} {len cap : Nat} (h : (Kd.slice e d).K w l (Value.slice a len cap).cells.toList) : l.length = len ∧ l.length ≤ cap ∧ d.C w a l.length l := by
  obtain ⟨A, c, hcs, hl, hr⟩ := h
  simp [Value.cells] at hcs
  obtain ⟨rfl, rfl, rfl⟩ := hcs
  exact ⟨rfl, hl, hr⟩
end Go.Proofs.Ytfdfdifjkaaeoaa.Open
end
section
namespace Go.Proofs.Ytfdfdifjkaaeoaa.L
open Go.RowKit Go.Proofs.YtfdfdifjkaaeoaaW.PrintWords
theorem Ev.pos {α : Type} {c : Prop} [Decidable c] {f g : Nat → Option α} {r : α} (h : c) (e : Ev f r) : Ev (fun k => if c then f k else g k) r := by
  obtain ⟨K, e⟩ := e
  exact ⟨K, fun k hk => (if_pos h).trans (e k hk)⟩
theorem Ev.neg {α : Type} {c : Prop} [Decidable c] {f g : Nat → Option α} {r : α} (h : ¬ c) (e : Ev g r) : Ev (fun k => if c then f k else g k) r := by
  obtain ⟨K, e⟩ := e
  exact ⟨K, fun k hk => (if_neg h).trans (e k hk)⟩
theorem Ev.if_ {α : Type} {c : Prop} [Decidable c] {f g : Nat → Option α} {r s : α} (h : c → Ev f r) (h' : ¬ c → Ev g s) : Ev (fun k => if c then f k else g k) (if c then r else s) := by
  by_cases hc : c
  · rw [if_pos hc]; exact Ev.pos hc (h hc)
  · rw [if_neg hc]; exact Ev.neg hc (h' hc)
theorem Ev.of_eq {α : Type} {g : Nat → Option α} {r s : α} (h : Ev g r) (e : r = s) : Ev g s := e ▸ h
theorem Ev.bind0 {α β : Type} {o : Option α} {f : Nat → α → Option β} {a : α} {r : β} (h : o = some a) (k : Ev (fun n => f n a) r) : Ev (fun n => o.bind (f n)) r := by
  subst h
  exact k
theorem Ev.succ {α : Type} {g : Nat → Option α} {r : α} (h : Ev (fun k => g (k + 1)) r) : Ev g r := by
  obtain ⟨K, h⟩ := h
  refine ⟨K + 1, fun n hn => ?_⟩
  obtain ⟨m, rfl⟩ : ∃ m, n = m + 1 := ⟨n - 1, by omega⟩
  exact h m (by omega)
theorem w64 {n : Int} (h : -9223372036854775808 ≤ n) (h' : n ≤ 9223372036854775807) : wrap64 n = n := by
  unfold wrap64
  omega
theorem getD_at {α : Type} (pre suf : List α) (c d : α) : (pre ++ c :: suf).getD (pre.length : Int).toNat d = c := by
  simp [List.getD]
end Go.Proofs.Ytfdfdifjkaaeoaa.L
namespace Go.Proofs.Ytfdfdifjkaaeoaa.L
open Go.RowKit Go.Proofs.YtfdfdifjkaaeoaaW.PrintWords
theorem loop_list {α σ ρ : Type} (xs : List α) (l : Nat → Int → σ → Option ρ) (g : List α → List α → σ → ρ) (Inv : List α → σ → Prop)
    (hn : ∀ s, Inv xs s → Ev (fun k => l (k + 1) (xs.length : Int) s) (g xs [] s))
    (hs : ∀ (pre : List α) (c : α) (suf : List α) (s : σ), xs = pre ++ c :: suf → Inv pre s → (∀ s', Inv (pre ++ [c]) s' → Ev (fun k => l k ((pre.length : Int) + 1) s') (g (pre ++ [c]) suf s')) → Ev (fun k => l (k + 1) (pre.length : Int) s) (g pre (c :: suf) s)) :
    ∀ s, Inv [] s → Ev (fun k => l k 0 s) (g [] xs s) := by
  have key : ∀ (suf pre : List α), xs = pre ++ suf → ∀ s, Inv pre s → Ev (fun k => l k (pre.length : Int) s) (g pre suf s) := by
    intro suf
    induction suf with
    | nil =>
      intro pre hx s hi
      rw [List.append_nil] at hx
      subst hx
      exact Ev.succ (hn s hi)
    | cons c suf ih =>
      intro pre hx s hi
      refine Ev.succ (hs pre c suf s hx hi fun s' hi' => ?_)
      have := ih (pre ++ [c]) (by rw [hx]; simp) s' hi'
      rw [List.length_append] at this
      exact this
  intro s hi
  exact key xs [] rfl s hi
end Go.Proofs.Ytfdfdifjkaaeoaa.L
end
section
namespace Go.Proofs.Ytfdfdifjkaaeoaa.L
open Go.RowKit Go.Proofs.YtfdfdifjkaaeoaaW.PrintWords Go.Proofs.YtfdfdifjkaaeoaaW.PrintLast Go.Proofs.YtfdfdifjkaaeoaaW.PrintMore Go.Proofs.Ytfdfdifjkaaeoaa.F
set_option linter.unusedVariables false
set_option linter.unusedSimpArgs false
abbrev Cell := S59
theorem in_eq (a b c : Int) : spec_l01In.f a b c = some (decide (b ≤ a ∧ a ≤ c)) := by
  unfold spec_l01In.f
  by_cases h : a ≥ b
  · rw [if_pos h]; simp [show b ≤ a from h]
  · rw [if_neg h]; simp [show ¬ b ≤ a from h]
theorem within_eq (a b c : Int) : impl_within.f a b c = some (decide (b ≤ a ∧ a ≤ c)) := by
  unfold impl_within.f
  by_cases h : a ≥ b
  · rw [if_pos h]; simp [show b ≤ a from h]
  · rw [if_neg h]; simp [show ¬ b ≤ a from h]
def ok1 (n : Int) : Prop := -100 ≤ n ∧ n ≤ 100
instance (n : Int) : Decidable (ok1 n) := by unfold ok1; infer_instance
def okC (c : Cell) : Prop := ok1 c.f0 ∧ ok1 c.f1
instance (c : Cell) : Decidable (okC c) := by unfold okC; infer_instance
def ltC (a b : Cell) : Prop := a.f1 < b.f1 ∨ a.f1 = b.f1 ∧ a.f0 < b.f0
instance (a b : Cell) : Decidable (ltC a b) := by unfold ltC; infer_instance
theorem isCoordinate_eq (n : Int) : impl_isCoordinate.f n = some (decide (ok1 n)) := by
  unfold impl_isCoordinate.f
  rw [within_eq]
  rfl
theorem l02Cell_eq (x y : Int) : spec_l02Cell.f x y = some (decide (ok1 x ∧ ok1 y)) := by
  unfold spec_l02Cell.f
  rw [in_eq, in_eq]
  simp only [Option.bind_some]
  by_cases h : -100 ≤ x ∧ x ≤ 100
  · have h' : ok1 x := h
    simp only [h, and_self, decide_true, if_true, true_and, h', ok1]
  · have h' : ¬ ok1 x := h
    simp [h, h']
def small {α : Type} (l : List α) : Prop := l.length ≤ 4611686018427387904
theorem pre_lt {α : Type} {xs pre suf : List α} {c : α} (h : xs = pre ++ c :: suf) : ((pre.length : Int) < (xs.length : Int)) = True := by
  subst h; simp; omega
theorem pre_w {α : Type} {xs pre suf : List α} {c : α} (h : xs = pre ++ c :: suf) (hs : small xs) : wrap64 ((pre.length : Int) + 1) = (pre.length : Int) + 1 := by
  subst h
  unfold small at hs
  rw [List.length_append, List.length_cons] at hs
  exact w64 (by omega) (by omega)
theorem pre_0 {α : Type} (pre : List α) : (0 ≤ (pre.length : Int)) = True := by simp
theorem len_lt {α : Type} (xs : List α) : ((xs.length : Int) < (xs.length : Int)) = False := by simp
theorem at_pre {xs pre suf : List Cell} {c : Cell} (h : xs = pre ++ c :: suf) : rd_T59 xs (pre.length : Int) = c := by
  subst h; exact getD_at pre suf c _
theorem pre_len {α : Type} {xs pre suf : List α} {c : α} (h : xs = pre ++ c :: suf) : pre.length < xs.length := by
  subst h; simp
def cmpI (a b : Int) : Int := if a < b then -1 else if a > b then 1 else 0
theorem compare_eq (a b : Int) : cmp_Compare_int64.f a b = some (cmpI a b) := by
  unfold cmp_Compare_int64.f cmp_isNaN_int64.f cmpI
  simp only [bne_self_eq_false, Option.bind_some, Bool.false_eq_true, if_false]
  split
  · rfl
  · split <;> rfl
theorem l02Less_eq (a b c d : Int) : spec_l02Less.f a b c d = some (decide (b < d ∨ b = d ∧ a < c)) := by
  unfold spec_l02Less.f
  by_cases h : b < d
  · simp [h]
  · by_cases h' : b = d <;> simp [h, h']
    
def cmpC (a b : Cell) : Int := if cmpI a.f1 b.f1 = 0 then cmpI a.f0 b.f0 else cmpI a.f1 b.f1
theorem compareCells_eq (a b : Cell) : impl_compareCells.f a.f0 a.f1 b.f0 b.f1 = some (cmpC a b) := by
  unfold impl_compareCells.f cmpC
  simp only [compare_eq, Option.bind_some]
  split <;> rfl
theorem cmpC_lt {a b : Cell} : cmpC a b < 0 ↔ ltC a b := by
  unfold cmpC cmpI ltC
  repeat' split
  all_goals constructor <;> intro h <;> omega
theorem cmpC_ge {a b : Cell} : cmpC a b ≥ 0 ↔ ¬ ltC a b := by
  rw [← cmpC_lt]; omega
def goodFrom : Option Cell → List Cell → Bool
  | _, [] => true
  | p, c :: r => decide (okC c) && (match p with | none => true | some q => decide (ltC q c)) && goodFrom (some c) r
def shapeB (l : List Cell) : Bool := goodFrom none l && decide (1 ≤ (l.length : Int) ∧ (l.length : Int) ≤ 40)
theorem specIsShape_ev (l : List Cell) (hs : small l) : Ev (fun k => spec_IsShape.f k l) (shapeB l) := by
  unfold spec_IsShape.f
  refine loop_list l (fun k i (_ : Unit) => spec_IsShape.l0 k l i) (fun pre suf _ => goodFrom pre.getLast? suf && decide (1 ≤ (l.length : Int) ∧ (l.length : Int) ≤ 40)) (fun _ _ => True) ?_ ?_ () trivial
  · intro _ _
    simp only [spec_IsShape.l0, len_lt, if_false, in_eq, Option.bind_some]
    refine Ev.of_eq (Ev.now _) ?_
    simp [goodFrom]
  · intro pre c suf _ hx _ ih
    simp only [spec_IsShape.l0, pre_lt hx, pre_0, if_true, at_pre hx, l02Cell_eq, Option.bind_some, pre_w hx hs]
    by_cases hc : okC c
    · have hc' : ok1 c.f0 ∧ ok1 c.f1 := hc
      simp only [hc', and_self, decide_true, if_true]
      rcases List.eq_nil_or_concat pre with rfl | ⟨L, b, rfl⟩
      · refine Ev.neg (by simp) (Ev.of_eq (ih () trivial) ?_)
        simp [goodFrom, hc]
      · rw [List.concat_eq_append] at hx ih ⊢
        have hx2 : l = L ++ b :: (c :: suf) := by rw [hx]; simp
        have e1 : wrap64 (((L ++ [b]).length : Int) - 1) = (L.length : Int) := by
          unfold small at hs
          rw [hx2] at hs
          simp only [List.length_append, List.length_cons, List.length_nil] at hs ⊢
          rw [w64 (by omega) (by omega)]; omega
        refine Ev.pos (by simp <;> omega) ?_
        simp only [e1, pre_0, if_true, pre_lt hx2, at_pre hx2, l02Less_eq, Option.bind_some]
        by_cases hl : ltC b c
        · have hl' : b.f1 < c.f1 ∨ b.f1 = c.f1 ∧ b.f0 < c.f0 := hl
          refine Ev.pos (by simpa using hl') (Ev.of_eq (ih () trivial) ?_)
          simp [goodFrom, hc, hl]
        · have hl' : ¬ (b.f1 < c.f1 ∨ b.f1 = c.f1 ∧ b.f0 < c.f0) := hl
          refine Ev.neg (by simpa using hl') (Ev.of_eq (Ev.now _) ?_)
          simp [goodFrom, hc, hl]
    · have hc' : ¬ (ok1 c.f0 ∧ ok1 c.f1) := hc
      simp only [hc', decide_false, Bool.false_eq_true, if_false]
      refine Ev.of_eq (Ev.now _) ?_
      simp [goodFrom, hc]
theorem implIsShape_ev (l : List Cell) (hs : small l) : Ev (fun k => impl_IsShape.f k l) (shapeB l) := by
  unfold impl_IsShape.f
  refine loop_list l (fun k i (_ : Unit) => impl_IsShape.l0 k l l (l.length : Int) i) (fun pre suf _ => goodFrom pre.getLast? suf && decide (1 ≤ (l.length : Int) ∧ (l.length : Int) ≤ 40)) (fun _ _ => True) ?_ ?_ () trivial
  · intro _ _
    simp only [impl_IsShape.l0, len_lt, if_false]
    refine Ev.of_eq (Ev.if_ (fun _ => Ev.now _) (fun _ => Ev.now _)) ?_
    by_cases h : (l.length : Int) ≥ 1
    · rw [if_pos h]; simp [goodFrom, show 1 ≤ (l.length : Int) from h]
    · rw [if_neg h]; simp [goodFrom, show ¬ 1 ≤ (l.length : Int) from h]
  · intro pre c suf _ hx _ ih
    simp only [impl_IsShape.l0, pre_lt hx, pre_0, if_true, at_pre hx, isCoordinate_eq, Option.bind_some, pre_w hx hs]
    by_cases hc : okC c
    · have hc' : ok1 c.f0 ∧ ok1 c.f1 := hc
      simp only [hc'.1, hc'.2, decide_true, if_true]
      rcases List.eq_nil_or_concat pre with rfl | ⟨L, b, rfl⟩
      · refine Ev.neg (by simp) (Ev.of_eq (ih () trivial) ?_)
        simp [goodFrom, hc]
      · rw [List.concat_eq_append] at hx ih ⊢
        have hx2 : l = L ++ b :: (c :: suf) := by rw [hx]; simp
        have e1 : wrap64 (((L ++ [b]).length : Int) - 1) = (L.length : Int) := by
          unfold small at hs
          rw [hx2] at hs
          simp only [List.length_append, List.length_cons, List.length_nil] at hs ⊢
          rw [w64 (by omega) (by omega)]; omega
        refine Ev.pos (by simp <;> omega) ?_
        simp only [e1, pre_0, if_true, pre_lt hx2, at_pre hx2, compareCells_eq, Option.bind_some]
        by_cases hl : ltC b c
        · refine Ev.neg (fun h => cmpC_ge.1 h hl) (Ev.of_eq (ih () trivial) ?_)
          simp [goodFrom, hc, hl]
        · refine Ev.pos (cmpC_ge.2 hl) (Ev.of_eq (Ev.now _) ?_)
          simp [goodFrom, hc, hl]
    · by_cases h0 : ok1 c.f0
      · have h1 : ¬ ok1 c.f1 := fun h => hc ⟨h0, h⟩
        simp only [h0, h1, decide_true, if_true, decide_false, Bool.false_eq_true, if_false]
        refine Ev.of_eq (Ev.now _) ?_
        simp [goodFrom, hc]
      · simp only [h0, decide_false, Bool.false_eq_true, if_false]
        refine Ev.of_eq (Ev.now _) ?_
        simp [goodFrom, hc]
theorem goodFrom_ok : ∀ (l : List Cell) (p : Option Cell), goodFrom p l = true → ∀ c ∈ l, okC c
  | [], _, _, c, h => by simp at h
  | a :: r, p, hg, c, h => by
    simp only [goodFrom, Bool.and_eq_true, decide_eq_true_eq] at hg
    rcases List.mem_cons.1 h with rfl | h
    · exact hg.1.1
    · exact goodFrom_ok r _ hg.2 c h
theorem ltC_trans {a b c : Cell} (h : ltC a b) (h' : ltC b c) : ltC a c := by unfold ltC at *; omega
theorem goodFrom_lt : ∀ (l : List Cell) (p : Option Cell), goodFrom p l = true → (∀ q, p = some q → ∀ c ∈ l, ltC q c) ∧ l.Pairwise ltC
  | [], _, _ => ⟨fun _ _ c h => by simp at h, List.Pairwise.nil⟩
  | a :: r, p, hg => by
    simp only [goodFrom, Bool.and_eq_true, decide_eq_true_eq] at hg
    obtain ⟨h1, h2⟩ := goodFrom_lt r (some a) hg.2
    have h3 := h1 a rfl
    refine ⟨fun q hq c hc => ?_, List.pairwise_cons.2 ⟨h3, h2⟩⟩
    subst hq
    have h4 : ltC q a := by simpa using hg.1.2
    rcases List.mem_cons.1 hc with rfl | hc
    · exact h4
    · exact ltC_trans h4 (h3 c hc)
theorem goodFrom_of : ∀ (l : List Cell) (p : Option Cell), (∀ c ∈ l, okC c) → (∀ q, p = some q → ∀ c ∈ l, ltC q c) → l.Pairwise ltC → goodFrom p l = true
  | [], _, _, _, _ => rfl
  | a :: r, p, h0, h1, h2 => by
    obtain ⟨h3, h4⟩ := List.pairwise_cons.1 h2
    simp only [goodFrom, Bool.and_eq_true, decide_eq_true_eq]
    refine ⟨⟨h0 a List.mem_cons_self, ?_⟩, goodFrom_of r (some a) (fun c hc => h0 c (List.mem_cons_of_mem _ hc)) (fun q hq c hc => by injection hq with hq; subst hq; exact h3 c hc) h4⟩
    cases p with
    | none => rfl
    | some q => simpa using h1 q rfl a List.mem_cons_self
theorem shapeB_iff {l : List Cell} : shapeB l = true ↔ (∀ c ∈ l, okC c) ∧ l.Pairwise ltC ∧ 1 ≤ l.length ∧ l.length ≤ 40 := by
  unfold shapeB
  rw [Bool.and_eq_true, decide_eq_true_eq]
  constructor
  · rintro ⟨h, h'⟩
    exact ⟨goodFrom_ok l _ h, (goodFrom_lt l _ h).2, by omega, by omega⟩
  · rintro ⟨h1, h2, h3, h4⟩
    exact ⟨goodFrom_of l none h1 (fun _ h => by cases h) h2, by omega, by omega⟩
def minX : Int → List Cell → Int := fun z l => l.foldl (fun m c => mn m c.f0) z
def minY : Int → List Cell → Int := fun z l => l.foldl (fun m c => mn m c.f1) z
def leastOf (l : List Cell) : Int × Int := match l with | [] => (0, 0) | c :: r => (minX c.f0 r, minY c.f1 r)
theorem implCorner_ev (l : List Cell) (hs : small l) (h0 : 0 < l.length) : Ev (fun k => impl_corner.f k l) (leastOf l) := by
  unfold impl_corner.f
  obtain ⟨c, r, rfl⟩ : ∃ c r, l = c :: r := by cases l with | nil => simp at h0 | cons c r => exact ⟨c, r, rfl⟩
  refine Ev.pos (by simp <;> omega) ?_
  have h1 : rd_T59 (c :: r) 0 = c := rfl
  rw [h1]
  have := loop_list (c :: r) (fun k i (s : Int × Int) => impl_corner.l0 k (c :: r) ((c :: r).length : Int) i s.1 s.2) (fun _ suf s => (minX s.1 suf, minY s.2 suf)) (fun _ _ => True) ?_ ?_ (c.f0, c.f1) trivial
  · refine Ev.of_eq this ?_
    simp [leastOf, minX, minY, mn]
  · rintro s _
    simp only [impl_corner.l0, len_lt, if_false]
    exact Ev.now _
  · rintro pre d suf s hx _ ih
    simp only [impl_corner.l0, pre_lt hx, pre_0, if_true, at_pre hx, pre_w hx hs]
    exact ih (mn s.1 d.f0, mn s.2 d.f1) trivial
theorem loop_tail {α σ ρ : Type} (c : α) (r : List α) (l : Nat → Int → σ → Option ρ) (g : List α → List α → σ → ρ) (Inv : List α → σ → Prop)
    (hn : ∀ s, Inv (c :: r) s → Ev (fun k => l (k + 1) ((c :: r).length : Int) s) (g (c :: r) [] s))
    (hs : ∀ (pre : List α) (d : α) (suf : List α) (s : σ), c :: r = pre ++ d :: suf → pre ≠ [] → Inv pre s → (∀ s', Inv (pre ++ [d]) s' → Ev (fun k => l k ((pre.length : Int) + 1) s') (g (pre ++ [d]) suf s')) → Ev (fun k => l (k + 1) (pre.length : Int) s) (g pre (d :: suf) s)) :
    ∀ s, Inv [c] s → Ev (fun k => l k 1 s) (g [c] r s) := by
  have key : ∀ (suf pre : List α), c :: r = pre ++ suf → pre ≠ [] → ∀ s, Inv pre s → Ev (fun k => l k (pre.length : Int) s) (g pre suf s) := by
    intro suf
    induction suf with
    | nil =>
      intro pre hx _ s hi
      rw [List.append_nil] at hx
      subst hx
      exact Ev.succ (hn s hi)
    | cons d suf ih =>
      intro pre hx hp s hi
      refine Ev.succ (hs pre d suf s hx hp hi fun s' hi' => ?_)
      have := ih (pre ++ [d]) (by rw [hx]; simp) (by simp) s' hi'
      rw [List.length_append] at this
      exact this
  intro s hi
  exact key r [c] rfl (by simp) s hi
theorem specLeast_ev (l : List Cell) (hs : small l) (h0 : 0 < l.length) : Ev (fun k => spec_l02Least.f k l) (leastOf l) := by
  unfold spec_l02Least.f
  obtain ⟨c, r, rfl⟩ : ∃ c r, l = c :: r := by cases l with | nil => simp at h0 | cons c r => exact ⟨c, r, rfl⟩
  refine Ev.pos (by simp <;> omega) ?_
  have h1 : rd_T59 (c :: r) 0 = c := rfl
  rw [h1]
  refine loop_tail c r (fun k i (s : Int × Int) => spec_l02Least.l0 k (c :: r) s.1 s.2 i) (fun _ suf s => (minX s.1 suf, minY s.2 suf)) (fun _ _ => True) ?_ ?_ (c.f0, c.f1) trivial
  · rintro s _
    simp only [spec_l02Least.l0, len_lt, if_false]
    exact Ev.now _
  · rintro pre d suf s hx _ _ ih
    simp only [spec_l02Least.l0, pre_lt hx, pre_0, if_true, at_pre hx, pre_w hx hs]
    exact ih (mn s.1 d.f0, mn s.2 d.f1) trivial
theorem minX_le : ∀ (l : List Cell) (z : Int), minX z l ≤ z ∧ (∀ c ∈ l, minX z l ≤ c.f0) ∧ (minX z l = z ∨ ∃ c ∈ l, minX z l = c.f0)
  | [], z => ⟨Int.le_refl _, fun c h => by simp at h, .inl rfl⟩
  | a :: r, z => by
    obtain ⟨h1, h2, h3⟩ := minX_le r (mn z a.f0)
    have h4 : mn z a.f0 ≤ z ∧ mn z a.f0 ≤ a.f0 ∧ (mn z a.f0 = z ∨ mn z a.f0 = a.f0) := by unfold mn; split <;> omega
    have e : minX z (a :: r) = minX (mn z a.f0) r := rfl
    rw [e]
    refine ⟨by omega, fun c hc => ?_, ?_⟩
    · rcases List.mem_cons.1 hc with rfl | hc
      · omega
      · exact h2 c hc
    · rcases h3 with h3 | ⟨c, hc, h3⟩
      · rcases h4.2.2 with h5 | h5
        · exact .inl (h3.trans h5)
        · exact .inr ⟨a, List.mem_cons_self, h3.trans h5⟩
      · exact .inr ⟨c, List.mem_cons_of_mem _ hc, h3⟩
theorem minY_le : ∀ (l : List Cell) (z : Int), minY z l ≤ z ∧ (∀ c ∈ l, minY z l ≤ c.f1) ∧ (minY z l = z ∨ ∃ c ∈ l, minY z l = c.f1)
  | [], z => ⟨Int.le_refl _, fun c h => by simp at h, .inl rfl⟩
  | a :: r, z => by
    obtain ⟨h1, h2, h3⟩ := minY_le r (mn z a.f1)
    have h4 : mn z a.f1 ≤ z ∧ mn z a.f1 ≤ a.f1 ∧ (mn z a.f1 = z ∨ mn z a.f1 = a.f1) := by unfold mn; split <;> omega
    have e : minY z (a :: r) = minY (mn z a.f1) r := rfl
    rw [e]
    refine ⟨by omega, fun c hc => ?_, ?_⟩
    · rcases List.mem_cons.1 hc with rfl | hc
      · omega
      · exact h2 c hc
    · rcases h3 with h3 | ⟨c, hc, h3⟩
      · rcases h4.2.2 with h5 | h5
        · exact .inl (h3.trans h5)
        · exact .inr ⟨a, List.mem_cons_self, h3.trans h5⟩
      · exact .inr ⟨c, List.mem_cons_of_mem _ hc, h3⟩
theorem least_le {l : List Cell} {c : Cell} (h : c ∈ l) : (leastOf l).1 ≤ c.f0 ∧ (leastOf l).2 ≤ c.f1 := by
  cases l with
  | nil => simp at h
  | cons a r =>
    have hx := minX_le r a.f0
    have hy := minY_le r a.f1
    show minX a.f0 r ≤ c.f0 ∧ minY a.f1 r ≤ c.f1
    rcases List.mem_cons.1 h with rfl | h
    · exact ⟨hx.1, hy.1⟩
    · exact ⟨hx.2.1 c h, hy.2.1 c h⟩
theorem least_mem {l : List Cell} (h : l ≠ []) : (∃ c ∈ l, (leastOf l).1 = c.f0) ∧ (∃ c ∈ l, (leastOf l).2 = c.f1) := by
  cases l with
  | nil => exact absurd rfl h
  | cons a r =>
    refine ⟨?_, ?_⟩
    · rcases (minX_le r a.f0).2.2 with e | ⟨c, hc, e⟩
      · exact ⟨a, List.mem_cons_self, e⟩
      · exact ⟨c, List.mem_cons_of_mem _ hc, e⟩
    · rcases (minY_le r a.f1).2.2 with e | ⟨c, hc, e⟩
      · exact ⟨a, List.mem_cons_self, e⟩
      · exact ⟨c, List.mem_cons_of_mem _ hc, e⟩
theorem least_ok {l : List Cell} (h : l ≠ []) (ho : ∀ c ∈ l, okC c) : ok1 (leastOf l).1 ∧ ok1 (leastOf l).2 := by
  obtain ⟨⟨c, hc, e⟩, ⟨d, hd, e'⟩⟩ := least_mem h
  rw [e, e']
  exact ⟨(ho c hc).1, (ho d hd).2⟩
theorem shape_ne {l : List Cell} (h : shapeB l = true) : l ≠ [] := by
  have := (shapeB_iff.1 h).2.2.1
  intro e
  rw [e] at this
  simp at this
def sameC (a b : Cell) : Bool := decide (a.f0 = b.f0) && decide (a.f1 = b.f1)
theorem sameC_iff {a b : Cell} : sameC a b = true ↔ a = b := by
  obtain ⟨a0, a1⟩ := a
  obtain ⟨b0, b1⟩ := b
  simp [sameC]
def idxF : List Cell → Cell → Int → Int
  | [], _, _ => -1
  | a :: r, c, i => if sameC a c = true then i else idxF r c (i + 1)
def idxC (l : List Cell) (c : Cell) : Int := idxF l c 0
theorem specIndex_ev (l : List Cell) (c : Cell) (hs : small l) : Ev (fun k => spec_l02Index.f k l c.f0 c.f1) (idxC l c) := by
  unfold spec_l02Index.f
  refine loop_list l (fun k i (_ : Unit) => spec_l02Index.l0 k l i c.f0 c.f1) (fun pre suf _ => idxF suf c (pre.length : Int)) (fun _ _ => True) ?_ ?_ () trivial
  · intro _ _
    simp only [spec_l02Index.l0, len_lt, if_false]
    exact Ev.now _
  · intro pre d suf _ hx _ ih
    simp only [spec_l02Index.l0, pre_lt hx, pre_0, if_true, at_pre hx, pre_w hx hs, idxF]
    have e : (d.f0 == c.f0 && d.f1 == c.f1) = sameC d c := by simp [sameC, BEq.beq]
    rw [e]
    refine Ev.if_ (fun _ => Ev.now _) (fun _ => Ev.of_eq (ih () trivial) ?_)
    simp
theorem idxF_spec : ∀ (l : List Cell) (c : Cell) (i : Int), 0 ≤ i → (idxF l c i = -1 ∧ c ∉ l) ∨ (∃ j : Nat, j < l.length ∧ idxF l c i = i + (j : Int) ∧ l[j]? = some c ∧ ∀ q : Nat, q < j → l[q]? ≠ some c)
  | [], c, i, _ => .inl ⟨rfl, by simp⟩
  | a :: r, c, i, hi => by
    unfold idxF
    by_cases h : sameC a c = true
    · rw [if_pos h]
      exact .inr ⟨0, by simp, by simp, by simp [sameC_iff.1 h], fun q hq => by omega⟩
    · rw [if_neg h]
      have hne : a ≠ c := fun e => h (sameC_iff.2 e)
      rcases idxF_spec r c (i + 1) (by omega) with ⟨h1, h2⟩ | ⟨j, h1, h2, h3, h4⟩
      · exact .inl ⟨h1, by simp only [List.mem_cons, not_or]; exact ⟨fun e => hne e.symm, h2⟩⟩
      · refine .inr ⟨j + 1, by simpa using h1, by rw [h2]; simp; omega, by simpa using h3, fun q hq => ?_⟩
        cases q with
        | zero => simpa using hne
        | succ q => simpa using h4 q (by omega)
theorem idxC_spec (l : List Cell) (c : Cell) : (idxC l c = -1 ∧ c ∉ l) ∨ (∃ j : Nat, j < l.length ∧ idxC l c = (j : Int) ∧ l[j]? = some c ∧ ∀ q : Nat, q < j → l[q]? ≠ some c) := by
  rcases idxF_spec l c 0 (Int.le_refl _) with h | ⟨j, h1, h2, h3⟩
  · exact .inl h
  · exact .inr ⟨j, h1, by unfold idxC; rw [h2]; omega, h3⟩
theorem idxC_mem (l : List Cell) (c : Cell) : idxC l c ≥ 0 ↔ c ∈ l := by
  rcases idxC_spec l c with ⟨h1, h2⟩ | ⟨j, h1, h2, h3, _⟩
  · rw [h1]; constructor
    · intro h; omega
    · intro h; exact absurd h h2
  · rw [h2]; constructor
    · intro _; exact List.mem_of_getElem? h3
    · intro _; omega
theorem implIndex_ev (l : List Cell) (c : Cell) (hs : small l) : Ev (fun k => impl_Cell_104.f k l c.f0 c.f1) (idxC l c) := by
  unfold impl_Cell_104.f
  refine loop_list l (fun k i (_ : Unit) => impl_Cell_104.l0 k l (l.length : Int) i c.f0 c.f1) (fun pre suf _ => idxF suf c (pre.length : Int)) (fun _ _ => True) ?_ ?_ () trivial
  · intro _ _
    simp only [impl_Cell_104.l0, len_lt, if_false]
    exact Ev.now _
  · intro pre d suf _ hx _ ih
    simp only [impl_Cell_104.l0, pre_lt hx, pre_0, if_true, at_pre hx, pre_w hx hs, idxF]
    have e : (c.f0 == d.f0 && c.f1 == d.f1) = sameC d c := by
      rw [Bool.eq_iff_iff]
      simp only [sameC, Bool.and_eq_true, beq_iff_eq, decide_eq_true_eq]
      constructor <;> (rintro ⟨h, h'⟩; exact ⟨h.symm, h'.symm⟩)
    rw [e]
    refine Ev.if_ (fun _ => Ev.now _) (fun _ => Ev.of_eq (ih () trivial) ?_)
    simp
theorem implContains_ev (l : List Cell) (c : Cell) (hs : small l) : Ev (fun k => impl_Cell_65.f k l c.f0 c.f1) (decide (idxC l c ≥ 0)) := by
  unfold impl_Cell_65.f
  exact Ev.bind (implIndex_ev l c hs) (Ev.now _)
end Go.Proofs.Ytfdfdifjkaaeoaa.L
end
section
namespace Go.Proofs.Ytfdfdifjkaaeoaa.L
open Go.RowKit Go.Proofs.YtfdfdifjkaaeoaaW.PrintWords Go.Proofs.YtfdfdifjkaaeoaaW.PrintLast Go.Proofs.YtfdfdifjkaaeoaaW.PrintMore Go.Proofs.Ytfdfdifjkaaeoaa.F
set_option linter.unusedVariables false
set_option linter.unusedSimpArgs false
def allFrom (l : List Cell) (f : Int → Cell) : Nat → Int → Bool
  | 0, _ => true
  | n + 1, x => decide (idxC l (f x) ≥ 0) && allFrom l f n (x + 1)
def rowP (l : List Cell) (a b : Cell) : Bool := if a.f1 = b.f1 then allFrom l (fun x => ⟨x, a.f1⟩) (b.f0 - a.f0).toNat a.f0 else true
def colP (l : List Cell) (a b : Cell) : Bool := if a.f0 = b.f0 then allFrom l (fun y => ⟨a.f0, y⟩) (b.f1 - a.f1).toNat a.f1 else true
def rowsB (l : List Cell) : Bool := l.all fun a => l.all fun b => rowP l a b
def colsB (l : List Cell) : Bool := l.all fun a => l.all fun b => colP l a b
def convR (l : List Cell) : Bool × Bool × Int := if shapeB l = true then (rowsB l, colsB l, 0) else (false, false, 1)
theorem and_step (p q : Bool) (r : Bool) : (p && (q && r)) = ((p && q) && r) := by cases p <;> rfl
theorem allFrom_one {l : List Cell} {f : Int → Cell} {x y : Int} (h : idxC l (f x) ≥ 0) : allFrom l f (y - x).toNat x = allFrom l f (y - (x + 1)).toNat (x + 1) := by
  by_cases e : x < y
  · obtain ⟨n, hn⟩ : ∃ n : Nat, (y - x).toNat = n + 1 := ⟨(y - x).toNat - 1, by omega⟩
    rw [hn, show (y - (x + 1)).toNat = n by omega, allFrom]
    simp [h]
  · rw [show (y - x).toNat = 0 by omega, show (y - (x + 1)).toNat = 0 by omega]; rfl
section
variable (l : List Cell) (hs : small l) (hok : ∀ c ∈ l, okC c)
include hs
theorem specConv_l2 {r : Bool × Bool × Int} (i j : Int) (a b : Cell) (cols : Bool) (hb : okC b) : ∀ (n : Nat) (x : Int) (rows : Bool), (b.f0 - x).toNat = n → -200 ≤ x → x ≤ 200 →
    Ev (fun k => spec_ConvexityOf.j3 k l (rows && allFrom l (fun x => ⟨x, a.f1⟩) n x) cols i j a.f0 a.f1 b.f0 b.f1) r → Ev (fun k => spec_ConvexityOf.l2 k l rows cols i j x a.f0 a.f1 b.f0 b.f1) r
  | 0, x, rows, hn, h0, h1, hc => by
    refine Ev.succ ?_
    unfold okC ok1 at hb
    simp only [spec_ConvexityOf.l2]
    rw [allFrom, Bool.and_true] at hc
    exact Ev.neg (by omega) hc
  | n + 1, x, rows, hn, h0, h1, hc => by
    refine Ev.succ ?_
    have hb' := hb
    unfold okC ok1 at hb'
    have ew : wrap64 (x + 1) = x + 1 := w64 (by omega) (by omega)
    simp only [spec_ConvexityOf.l2, ew]
    refine Ev.pos (by omega) ?_
    rw [allFrom] at hc
    cases rows with
    | true =>
      refine Ev.pos rfl (Ev.bind (specIndex_ev l ⟨x, a.f1⟩ hs) (specConv_l2 i j a b cols hb n (x + 1) _ (by omega) (by omega) (by omega) ?_))
      rw [Bool.true_and] at hc
      exact hc
    | false =>
      refine Ev.neg (by simp) (specConv_l2 i j a b cols hb n (x + 1) false (by omega) (by omega) (by omega) ?_)
      rw [Bool.false_and] at hc ⊢
      exact hc
theorem specConv_l3 {r : Bool × Bool × Int} (i j : Int) (a b : Cell) (rows : Bool) (hb : okC b) : ∀ (n : Nat) (y : Int) (cols : Bool), (b.f1 - y).toNat = n → -200 ≤ y → y ≤ 200 →
    Ev (fun k => spec_ConvexityOf.l1 k l rows (cols && allFrom l (fun y => ⟨a.f0, y⟩) n y) i (wrap64 (j + 1))) r → Ev (fun k => spec_ConvexityOf.l3 k l rows cols i j y a.f0 a.f1 b.f0 b.f1) r
  | 0, y, cols, hn, h0, h1, hc => by
    refine Ev.succ ?_
    unfold okC ok1 at hb
    simp only [spec_ConvexityOf.l3]
    rw [allFrom, Bool.and_true] at hc
    exact Ev.neg (by omega) hc
  | n + 1, y, cols, hn, h0, h1, hc => by
    refine Ev.succ ?_
    have hb' := hb
    unfold okC ok1 at hb'
    have ew : wrap64 (y + 1) = y + 1 := w64 (by omega) (by omega)
    simp only [spec_ConvexityOf.l3, ew]
    refine Ev.pos (by omega) ?_
    rw [allFrom] at hc
    cases cols with
    | true =>
      refine Ev.pos rfl (Ev.bind (specIndex_ev l ⟨a.f0, y⟩ hs) (specConv_l3 i j a b rows hb n (y + 1) _ (by omega) (by omega) (by omega) ?_))
      rw [Bool.true_and] at hc
      exact hc
    | false =>
      refine Ev.neg (by simp) (specConv_l3 i j a b rows hb n (y + 1) false (by omega) (by omega) (by omega) ?_)
      rw [Bool.false_and] at hc ⊢
      exact hc
theorem specConv_pair {r : Bool × Bool × Int} (i j : Int) (a b : Cell) (rows cols : Bool) (ha : okC a) (hb : okC b) (hc : Ev (fun k => spec_ConvexityOf.l1 k l (rows && rowP l a b) (cols && colP l a b) i (wrap64 (j + 1))) r) :
    Ev (fun k => if a.f1 = b.f1 then spec_ConvexityOf.l2 k l rows cols i j a.f0 a.f0 a.f1 b.f0 b.f1 else spec_ConvexityOf.j3 k l rows cols i j a.f0 a.f1 b.f0 b.f1) r := by
  have ha' := ha
  unfold okC ok1 at ha'
  have h3 (R : Bool) (hR : R = (rows && rowP l a b)) : Ev (fun k => spec_ConvexityOf.j3 k l R cols i j a.f0 a.f1 b.f0 b.f1) r := by
    subst hR
    refine Ev.succ ?_
    simp only [spec_ConvexityOf.j3]
    unfold colP at hc
    by_cases h : a.f0 = b.f0
    · rw [if_pos h] at hc
      exact Ev.pos h (specConv_l3 l hs i j a b _ hb _ a.f1 cols rfl (by omega) (by omega) hc)
    · rw [if_neg h, Bool.and_true] at hc
      exact Ev.neg h hc
  by_cases h : a.f1 = b.f1
  · refine Ev.pos h (specConv_l2 l hs i j a b cols hb _ a.f0 rows rfl (by omega) (by omega) (h3 _ ?_))
    unfold rowP
    rw [if_pos h]
  · refine Ev.neg h (h3 rows ?_)
    unfold rowP
    rw [if_neg h, Bool.and_true]
end
theorem specConv_ev (l : List Cell) (hs : small l) : Ev (fun k => spec_ConvexityOf.f k l) (convR l) := by
  unfold spec_ConvexityOf.f convR
  refine Ev.bind (specIsShape_ev l hs) (Ev.if_ (fun h => ?_) (fun _ => Ev.now _))
  have hok := (shapeB_iff.1 h).1
  refine loop_list l (fun k i (s : Bool × Bool) => spec_ConvexityOf.l0 k l s.1 s.2 i) (fun _ suf s => (s.1 && suf.all fun a => l.all fun b => rowP l a b, s.2 && suf.all fun a => l.all fun b => colP l a b, 0)) (fun _ _ => True) ?_ ?_ (true, true) trivial
  · intro s _
    simp only [spec_ConvexityOf.l0, len_lt, if_false]
    exact Ev.of_eq (Ev.now _) (by simp)
  · intro pre a suf s hx _ ih
    have ha := hok a (by rw [hx]; simp)
    simp only [spec_ConvexityOf.l0, pre_lt hx, if_true]
    have := loop_list l (fun k j (s : Bool × Bool) => spec_ConvexityOf.l1 k l s.1 s.2 (pre.length : Int) j) (fun _ suf2 s => ((s.1 && suf2.all fun b => rowP l a b) && suf.all fun a => l.all fun b => rowP l a b, (s.2 && suf2.all fun b => colP l a b) && suf.all fun a => l.all fun b => colP l a b, 0)) (fun _ _ => True) ?_ ?_ s trivial
    · refine Ev.of_eq this ?_
      simp only [List.all_cons, and_step]
    · intro s _
      simp only [spec_ConvexityOf.l1, len_lt, if_false, pre_w hx hs]
      exact Ev.of_eq (ih s trivial) (by simp)
    · intro pre2 b suf2 s hx2 _ ih2
      simp only [spec_ConvexityOf.l1, pre_lt hx2, pre_lt hx, pre_0, if_true, at_pre hx2, at_pre hx]
      have := ih2 (s.1 && rowP l a b, s.2 && colP l a b) trivial
      simp only at this
      rw [← pre_w hx2 hs] at this
      refine Ev.of_eq (specConv_pair l hs _ _ a b s.1 s.2 ha (hok b (by rw [hx2]; simp)) this) ?_
      simp only [List.all_cons, and_step]
section
variable (l : List Cell) (hs : small l)
include hs
theorem implConv_l2 {r : Bool × Bool × Int} (i j : Int) (xs ys : List Cell) (n1 n2 : Int) (a b : Cell) (cols : Bool) (hb : okC b) (he : a.f1 = b.f1) : ∀ (n : Nat) (x : Int) (rows : Bool), (b.f0 - x).toNat = n → -200 ≤ x → x ≤ 200 →
    Ev (fun k => impl_ConvexityOf.j3 k l (rows && allFrom l (fun x => ⟨x, a.f1⟩) n x) cols xs n1 i ys n2 j a.f0 a.f1 b.f0 b.f1) r → Ev (fun k => impl_ConvexityOf.l2 k l rows cols x xs n1 i ys n2 j a.f0 a.f1 b.f0 b.f1) r
  | 0, x, rows, hn, h0, h1, hc => by
    refine Ev.succ ?_
    unfold okC ok1 at hb
    simp only [impl_ConvexityOf.l2]
    rw [allFrom, Bool.and_true] at hc
    exact Ev.pos he (Ev.neg (by omega) hc)
  | n + 1, x, rows, hn, h0, h1, hc => by
    refine Ev.succ ?_
    have hb' := hb
    unfold okC ok1 at hb'
    have ew : wrap64 (x + 1) = x + 1 := w64 (by omega) (by omega)
    simp only [impl_ConvexityOf.l2, ew]
    refine Ev.pos he (Ev.pos (by omega) ?_)
    rw [allFrom] at hc
    cases rows with
    | true =>
      refine Ev.pos rfl (Ev.bind (implContains_ev l ⟨x, a.f1⟩ hs) (implConv_l2 i j xs ys n1 n2 a b cols hb he n (x + 1) _ (by omega) (by omega) (by omega) ?_))
      rw [Bool.true_and] at hc
      exact hc
    | false =>
      refine Ev.neg (by simp) (implConv_l2 i j xs ys n1 n2 a b cols hb he n (x + 1) false (by omega) (by omega) (by omega) ?_)
      rw [Bool.false_and] at hc ⊢
      exact hc
theorem implConv_l3 {r : Bool × Bool × Int} (i j : Int) (xs ys : List Cell) (n1 n2 : Int) (a b : Cell) (rows : Bool) (hb : okC b) (he : a.f0 = b.f0) : ∀ (n : Nat) (y : Int) (cols : Bool), (b.f1 - y).toNat = n → -200 ≤ y → y ≤ 200 →
    Ev (fun k => impl_ConvexityOf.l1 k l rows (cols && allFrom l (fun y => ⟨a.f0, y⟩) n y) xs n1 i ys n2 (wrap64 (j + 1)) a.f0 a.f1) r → Ev (fun k => impl_ConvexityOf.l3 k l rows cols y xs n1 i ys n2 j a.f0 a.f1 b.f0 b.f1) r
  | 0, y, cols, hn, h0, h1, hc => by
    refine Ev.succ ?_
    unfold okC ok1 at hb
    simp only [impl_ConvexityOf.l3]
    rw [allFrom, Bool.and_true] at hc
    exact Ev.pos he (Ev.neg (by omega) hc)
  | n + 1, y, cols, hn, h0, h1, hc => by
    refine Ev.succ ?_
    have hb' := hb
    unfold okC ok1 at hb'
    have ew : wrap64 (y + 1) = y + 1 := w64 (by omega) (by omega)
    simp only [impl_ConvexityOf.l3, ew]
    refine Ev.pos he (Ev.pos (by omega) ?_)
    rw [allFrom] at hc
    cases cols with
    | true =>
      refine Ev.pos rfl (Ev.bind (implContains_ev l ⟨a.f0, y⟩ hs) (implConv_l3 i j xs ys n1 n2 a b rows hb he n (y + 1) _ (by omega) (by omega) (by omega) ?_))
      rw [Bool.true_and] at hc
      exact hc
    | false =>
      refine Ev.neg (by simp) (implConv_l3 i j xs ys n1 n2 a b rows hb he n (y + 1) false (by omega) (by omega) (by omega) ?_)
      rw [Bool.false_and] at hc ⊢
      exact hc
theorem implConv_pair {r : Bool × Bool × Int} (i j : Int) (xs ys : List Cell) (n1 n2 : Int) (a b : Cell) (rows cols : Bool) (ha : okC a) (hb : okC b) (hma : a ∈ l) (hc : Ev (fun k => impl_ConvexityOf.l1 k l (rows && rowP l a b) (cols && colP l a b) xs n1 i ys n2 (wrap64 (j + 1)) a.f0 a.f1) r) :
    Ev (fun k => impl_ConvexityOf.l2 k l rows cols (wrap64 (a.f0 + 1)) xs n1 i ys n2 j a.f0 a.f1 b.f0 b.f1) r := by
  have ha' := ha
  unfold okC ok1 at ha'
  have hm : idxC l a ≥ 0 := (idxC_mem l a).2 hma
  have e1 : wrap64 (a.f0 + 1) = a.f0 + 1 := w64 (by omega) (by omega)
  have e2 : wrap64 (a.f1 + 1) = a.f1 + 1 := w64 (by omega) (by omega)
  rw [e1]
  have h3 (R : Bool) (hR : R = (rows && rowP l a b)) : Ev (fun k => impl_ConvexityOf.j3 k l R cols xs n1 i ys n2 j a.f0 a.f1 b.f0 b.f1) r := by
    subst hR
    refine Ev.succ ?_
    simp only [impl_ConvexityOf.j3, e2]
    unfold colP at hc
    by_cases h : a.f0 = b.f0
    · rw [if_pos h, allFrom_one (f := fun y => ⟨a.f0, y⟩) hm] at hc
      exact implConv_l3 l hs i j xs ys n1 n2 a b _ hb h _ (a.f1 + 1) cols rfl (by omega) (by omega) hc
    · rw [if_neg h, Bool.and_true] at hc
      refine Ev.succ ?_
      simp only [impl_ConvexityOf.l3]
      exact Ev.neg h hc
  by_cases h : a.f1 = b.f1
  · refine implConv_l2 l hs i j xs ys n1 n2 a b cols hb h _ (a.f0 + 1) rows rfl (by omega) (by omega) (h3 _ ?_)
    unfold rowP
    rw [if_pos h, allFrom_one (f := fun x => ⟨x, a.f1⟩) hm]
  · refine Ev.succ ?_
    simp only [impl_ConvexityOf.l2]
    refine Ev.neg h (h3 rows ?_)
    unfold rowP
    rw [if_neg h, Bool.and_true]
end
end Go.Proofs.Ytfdfdifjkaaeoaa.L
end
