/- The row of FnTurnNumbers, with what it needs: text 8 of 11. -/
import Derived.Test.YtfdfdifjkaaeoaaKTN6
set_option maxHeartbeats 8000000
set_option maxRecDepth 100000
section
namespace Go.Proofs.Ytfdfdifjkaaeoaa.F
open Go.RowKit Go.Proofs.YtfdfdifjkaaeoaaW.PrintWords Go.Proofs.YtfdfdifjkaaeoaaW.PrintLast Go.Proofs.YtfdfdifjkaaeoaaW.PrintMore
attribute [local go_sem] max2_int min2_int max_two min_two max_three min_three max_four min_four
set_option linter.unusedVariables false
set_option linter.unusedSimpArgs false
theorem impl_form.calls (k : Nat) (A0 : Option Addr) (c0 : Nat) (l0 : List (S59)) (a1 : Int) (r : List (S59)) (w : World) (hr0 : Kd.C k59 w A0 l0.length l0) (hc0 : l0.length ≤ c0) (h : impl_form.f k l0 a1 = some r) :
  Calls Try.prog 69 #[.slice A0 l0.length c0, .int .i64 a1] w fun e w' => ∃ v0_ : Value, e = .returned (v0_) ∧ Kd.R k59 59 w' w.heap.size (fun _ => True) v0_ r ∧ Below w.heap.size w w' := by
 have hu59 := Try.underlying59
 have HR0 := aM hr0
 have HC0 := aM hc0
 clear hr0 hc0
 have HB := aM (Below.refl w.heap.size w)
 have H : (if 0 ≤ (l0.length : Int) then (if ((l0.length : Int) : Int).toNat ≤ 17592186044416 then (impl_form.l0 k a1 (([] : List (S59))) l0 (l0.length : Int) 0) else (none)) else (none)) = some r := h
 clear h
 by_cases c3 : 0 ≤ (l0.length : Int)
 rotate_left
 ·rw [if_neg c3] at H
  exact absurd H (by simp)
 rw [if_pos c3] at H
 have c3b0 := eq_true c3
 have c3b1 : decide (0 ≤ (l0.length : Int)) = true := decide_eq_true c3
 clear c3
 by_cases c4 : ((l0.length : Int) : Int).toNat ≤ 17592186044416
 rotate_left
 ·rw [if_neg c4] at H
  exact absurd H (by simp)
 rw [if_pos c4] at H
 have c4b0 := eq_true c4
 have c4b1 : decide (((l0.length : Int) : Int).toNat ≤ 17592186044416) = true := decide_eq_true c4
 clear c4
 obtain ⟨y549, hy549⟩ : ∃ y_ : List (S59), y_ = (([] : List (S59))) := ⟨_, rfl⟩
 replace H : (impl_form.l0 k a1 y549 l0 (l0.length : Int) 0) = some r := zy H hy549
 have Ny549 := aM hy549
 clear hy549
 have H' := aM H
 clear H
 go_enter Try.func69, Try.ntmps69
 go_wp2_with (first | ((with_reducible refine gate_dst (N := 10) rfl ?_); refine Kd.R_make0 k59 _ 59 rfl (N := 10) rfl 24 _ _ rfl (l0.length : Int) rfl rfl Try.underlying24 (.agg #[(.int .i64 0), (.int .i64 0)]) 16 info59 rfl (by decide) (by omega) z59 (ok := fun _ => True) (okp := fun _ => True) (k59_mkM _ _ _ z59 ) (fun _ hk => hk) trivial (of_decide_eq_true za) (Nat.le_trans (Nat.mul_le_mul_right _ (of_decide_eq_true za : (l0.length : Int).toNat ≤ 17592186044416)) (by omega)) (Below.refl _ _) (Nat.le_refl _) ?_; intro v550 w5 ho6 hb hg_ hnew_; clear hg_ hnew_; (first | rw [← Ny549.out] at ho6 | (simp only [Int.reduceToNat] at ho6; rw [← Ny549.out] at ho6)); have n0_ := aM (Kd.R_lower ho6 (below_size zb)); have n1_ := aM (below_step zb hb); clear HB; have HO551 := n0_; have HB := n1_; clear n0_ n1_; clear hb ho6))
 go_loopg [5, 13] k (fun kq v5 v13 w' => ∃ (x5_1 : List (S59)) (x13_1 : Int), v13 = .int .i64 x13_1 ∧ Aside0 (impl_form.l0 kq a1 x5_1 l0 (l0.length : Int) x13_1 = some r) ∧ Aside0 (kq ≤ k) ∧ Aside0 (Kd.R k59 59 w' w.heap.size (fun _ => True) v5 x5_1) ∧ Aside0 (Below w.heap.size w w'))
 case atStart => exact ⟨(y549), (0), zr, H', ⟨Nat.le_refl _⟩, ⟨mR_ HO551.out⟩, ⟨zb⟩⟩
 case round =>
  clear H'
  try clear p2
  try clear c3
  try clear c3b0
  try clear c3b1
  try clear c4
  try clear c4b0
  try clear c4b1
  try clear c6
  obtain ⟨x5_1, x13_1, rfl, HA, HK1, HO_5, HB⟩ := hrel
  cases gk with
  | zero => exact absurd HA.out (by simp [impl_form.l0])
  | succ k1 =>
   have H := HA.out
   clear HA
   simp only [impl_form.l0] at H
   by_cases c7 : x13_1 < (l0.length : Int)
   rotate_left
   ·rw [if_neg c7] at H
    have c7b0 : decide (x13_1 < (l0.length : Int)) = false := decide_eq_false c7
    clear c7
    replace H := Option.bind_eq_some_iff.mp H
    obtain ⟨t559, A160, H⟩ := H
    replace H : ((impl_normal.f k1 t559).bind fun t562 => (some t562)) = some r := H
    have A16 := aM A160
    clear A160
    replace H := Option.bind_eq_some_iff.mp H
    obtain ⟨t562, A170, H⟩ := H
    replace H : (some t562) = some r := H
    have A17 := aM A170
    clear A170
    obtain rfl := Option.some.inj H
    obtain ⟨Ao18, co18, eo18⟩ := Kd.R_slice HO_5.out
    subst eo18
    go_wp2_with (first | ((with_reducible refine gate_callee (f := 60) rfl ?_); refine goesL_ (some 25) rfl rfl Try.func60 (by kernel_rfl) rfl #[.slice Ao18 x5_1.length co18] rfl zm ?_; (with_reducible refine (impl_sorted.calls _ _ x5_1 t559 _ ?side1 ?side2 A16.out).mono ?_); (case side1 => exact zc HO_5.out); (case side2 => exact (Kd.R_reads' HO_5.out).2.1); rintro e w19 ⟨v560, rfl, ho0, hb⟩; refine ⟨_, rfl, ?_⟩; have n0_ := aM (Kd.R_elder' (mR_ HO_5.out) (Kd.R_base ho0) hb); have n1_ := aM (Kd.R_lower (Kd.R_new' ho0 (Kd.R_lt (mR_ HO_5.out))) (below_size zb)); have n2_ := aM (below_step zb hb); clear HO_5 HB; have HO_5 := n0_; have HO561 := n1_; have HB := n2_; clear n0_ n1_ n2_; (try clear hb); (try clear hb2); (try clear hk); (try clear hi); (try clear ho0); obtain ⟨Ao20, co20, eo20⟩ := Kd.R_slice HO561.out; subst eo20) | ((with_reducible refine gate_callee (f := 96) rfl ?_); refine goesL_ (some 26) rfl rfl Try.func96 (by kernel_rfl) rfl #[.slice Ao20 t559.length co20] rfl zm ?_; (with_reducible refine (impl_normal.calls k1 _ _ t559 t562 _ ?side1 ?side2 A17.out).mono ?_); (case side1 => exact zc HO561.out); (case side2 => exact (Kd.R_reads' HO561.out).2.1); rintro e w21 ⟨v563, rfl, ho0, hb⟩; refine ⟨_, rfl, ?_⟩; have n0_ := aM (Kd.R_elder' (mR_ HO_5.out) (Kd.R_base ho0) hb); have n1_ := aM (Kd.R_elder' (mR_ HO561.out) (Kd.R_base ho0) hb); have n2_ := aM (Kd.R_lower (Kd.R_new' (Kd.R_new' ho0 (Kd.R_lt (mR_ HO_5.out))) (Kd.R_lt (mR_ HO561.out))) (below_size zb)); have n3_ := aM (below_step zb hb); clear HO_5 HO561 HB; have HO_5 := n0_; have HO561 := n1_; have HO564 := n2_; have HB := n3_; clear n0_ n1_ n2_ n3_; (try clear hb); (try clear hb2); (try clear hk); (try clear hi); (try clear ho0)))
    go_ret
    exact ⟨_, zw, zd0 HO564.out, zb⟩
   rw [if_pos c7] at H
   have c7b0 : decide (x13_1 < (l0.length : Int)) = true := decide_eq_true c7
   clear c7
   by_cases c8 : 0 ≤ x13_1
   rotate_left
   ·rw [if_neg c8] at H
    exact absurd H (by simp)
   rw [if_pos c8] at H
   have c8b0 : decide (0 ≤ x13_1) = true := decide_eq_true c8
   clear c8
   by_cases c9 : x13_1 < (l0.length : Int)
   rotate_left
   ·rw [if_neg c9] at H
    exact absurd H (by simp)
   rw [if_pos c9] at H
   have c9b0 : decide (x13_1 < (l0.length : Int)) = true := decide_eq_true c9
   clear c9
   replace H := Option.bind_eq_some_iff.mp H
   obtain ⟨⟨t554, t555⟩, A100, H⟩ := H
   replace H : (if x5_1.length < 8796093022208 then (impl_form.l0 k1 a1 (x5_1 ++ [(⟨t554, t555⟩ : S59)]) l0 (l0.length : Int) (wrap64 (x13_1 + 1))) else (none)) = some r := H
   have A10 := aM A100
   clear A100
   by_cases c11 : x5_1.length < 8796093022208
   rotate_left
   ·rw [if_neg c11] at H
    exact absurd H (by simp)
   rw [if_pos c11] at H
   have LMc11 := aM c11
   clear c11
   obtain ⟨y556, hy556⟩ : ∃ y_ : List (S59), y_ = (x5_1 ++ [(⟨t554, t555⟩ : S59)]) := ⟨_, rfl⟩
   replace H : (impl_form.l0 k1 a1 y556 l0 (l0.length : Int) (wrap64 (x13_1 + 1))) = some r := zy H hy556
   have Ny556 := aM hy556
   clear hy556
   have H' := aM H
   clear H
   have p552 : 0 ≤ (x13_1 : Int) := of_decide_eq_true za
   have q552 : x13_1 < (l0.length : Int) := of_decide_eq_true za
   obtain ⟨ad552, e552, hx552_0, hx552_1⟩ := at_T59 HR0.out x13_1 p552 q552
   cases e552
   replace hx552_0 := zk HB.out hx552_0
   replace hx552_1 := zk HB.out hx552_1
   replace p552 := eq_true p552
   replace q552 := eq_true q552
   go_wp2_with (first | ((with_reducible refine gate_dst (N := 7) rfl ?_); refine zx 7 #[.int .i64 0, .int .i64 0] 59 ?_; intro gb553 hg w12 hbox hb; have n0_ := aM (Kd.R_below (Kd.R_elderB (mR_ HO_5.out) gb553 (Nat.le_of_eq hg.symm)) hb); have n1_ := aM (below_step zb hb); have n2_ := aM (hbox); have n3_ := aM ((ze : w.heap.size ≤ gb553)); have n4_ := aM ((ze : w.heap.size ≤ gb553)); clear HO_5 HB; have HO_5 := n0_; have HB := n1_; have BK553 := n2_; have GW553 := n3_; have GE553 := n4_; clear n0_ n1_ n2_ n3_ n4_ hb hbox hg; have hcz13_0 : w12.cell? ⟨gb553, 0, none⟩ = some (.int .i64 0) := (blk_cell BK553.out 0).trans rfl; have hcz13_1 : w12.cell? ⟨gb553, 1, none⟩ = some (.int .i64 0) := (blk_cell BK553.out 1).trans rfl; have hfz13_0 := blk_frozen BK553.out 0; have hfz13_1 := blk_frozen BK553.out 1) | ((with_reducible refine gate_callee (f := 108) rfl ?_); refine goesL_ (some 20) rfl rfl Try.func108 (by kernel_rfl) rfl #[.agg #[.int .i64 ((rd_T59 l0 x13_1).f0), .int .i64 ((rd_T59 l0 x13_1).f1)], .int .i64 a1] rfl zm ?_; (with_reducible refine (impl_turnCell.calls k1 ((rd_T59 l0 x13_1).f0) ((rd_T59 l0 x13_1).f1) a1 t554 t555 _ A10.out).mono ?_); rintro e w14 ⟨rfl, hb⟩; refine ⟨_, rfl, ?_⟩; have n0_ := aM (Kd.R_below (by (with_reducible repeat (first | apply Kd.R_alloc | apply Kd.R_drewN | apply Kd.R_drew)); exact (Kd.R_mono (Kd.R_far (p := ⟨gb553, 1, none⟩) (Kd.R_far (p := ⟨gb553, 0, none⟩) (Kd.R_mono HO_5.out (fun k_ hk => (⟨hk, hk.2⟩ : _ ∧ k_ ≠ gb553))) (fun _ hk => hk.2) (.int .i64 ((rd_T59 l0 x13_1).f0))) (fun _ hk => hk.2) (.int .i64 ((rd_T59 l0 x13_1).f1))) (fun _ h_ => h_.1))) hb); have n1_ := aM (blk_below (g := gb553) (o := .cells #[.int .i64 ((rd_T59 l0 x13_1).f0), .int .i64 ((rd_T59 l0 x13_1).f1)] 59 (0, 0)) (by (with_reducible repeat (first | refine blk_drewN ?_ _ | refine blk_drew ?_ | refine blk_alloc ?_ _)); refine blk_put (cs := #[.int .i64 ((rd_T59 l0 x13_1).f0), .int .i64 0]) ?_ 1 _ rfl; (with_reducible repeat (first | refine blk_drewN ?_ _ | refine blk_drew ?_ | refine blk_alloc ?_ _)); refine blk_put (cs := #[.int .i64 0, .int .i64 0]) ?_ 0 _ rfl; (with_reducible repeat (first | refine blk_drewN ?_ _ | refine blk_drew ?_ | refine blk_alloc ?_ _)); exact BK553.out) hb); have n2_ := aM (below_step (zs GE553.out) hb); clear HO_5 BK553 HB; have HO_5 := n0_; have BK553 := n1_; have HB := n2_; clear n0_ n1_ n2_; (try clear hb); (try clear hb2); (try clear hk); (try clear hi)) | ((with_reducible refine gate_builtin (b := .append) (xs := #[.tmp 17, .tmp 21]) rfl ?_); at_builtin; refine Kd.R_append k59 (w0 := w) w.heap.size rfl (.tmp 17) (.tmp 21) 24 59 (.agg #[(.int .i64 0), (.int .i64 0)]) 16 rfl Try.underlying24 info59 rfl (by decide) (by omega) u5 x5_1 (⟨t554, t555⟩ : S59) [.int .i64 t554, .int .i64 t555] (fun k_ => k_ ≠ gb553) (fun _ => False) rfl rfl ?aP (fun _ hk => hk.elim) ?aF ?aO ?aB ?aS ?aL ?_; (case aP => exact k59_mkM _ _ _ (⟨t554, t555⟩ : S59)); (case aB => exact (zs GE553.out)); (case aF => exact (fun k_ hk => Kd.freshB (g := gb553) (o := .cells #[.int .i64 ((rd_T59 l0 x13_1).f0), .int .i64 ((rd_T59 l0 x13_1).f1)] 59 (0, 0)) (mB_ BK553.out) k_ hk)); (case aO => exact (zd1 HO_5.out)); (case aS => exact (below_size (zs GE553.out))); (case aL => have := LMc11.out; omega); intro v557 w15 ho hb hg hat; rw [← Ny556.out] at ho; have n0_ := aM (blk_grown (g := gb553) (o := .cells #[.int .i64 ((rd_T59 l0 x13_1).f0), .int .i64 ((rd_T59 l0 x13_1).f1)] 59 (0, 0)) (mB_ BK553.out) hg (Kd.R_away HO_5.out (fun _ hk => hk.2))); have n1_ := aM (hb); have n2_ := aM (ho); clear BK553 HB HO_5; have BK553 := n0_; have HB := n1_; have HO558 := n2_; clear n0_ n1_ n2_; clear ho hb hg hat))
   go_roundg k1
   case measure => have := HK1.out; omega
   case rel => exact ⟨(y556), (wrap64 (x13_1 + 1)), zr, H', ⟨by have := HK1.out; omega⟩, ⟨zd0 HO558.out⟩, ⟨zs GE553.out⟩⟩
def impl_Cell_136__impl_compareCells.l0 : Nat → List (S59) → Int → Int → Int → Int → Int → Option (Int × Bool)
 | 0, _, _, _, _, _, _ => none
 | k + 1, x0, x8, x9, x10, x1062000, x1062001 => if x9 < x10 then (if 0 ≤ (wrap64 ((IntKind.u64.wrap (wrap64 (x9 + x10))) / 2)) then (if (wrap64 ((IntKind.u64.wrap (wrap64 (x9 + x10))) / 2)) < (x0.length : Int) then ((impl_compareCells.f ((rd_T59 x0 (wrap64 ((IntKind.u64.wrap (wrap64 (x9 + x10))) / 2))).f0) ((rd_T59 x0 (wrap64 ((IntKind.u64.wrap (wrap64 (x9 + x10))) / 2))).f1) x1062000 x1062001).bind fun t1063 => (if t1063 < 0 then (impl_Cell_136__impl_compareCells.l0 k x0 x8 (wrap64 ((wrap64 ((IntKind.u64.wrap (wrap64 (x9 + x10))) / 2)) + 1)) x10 x1062000 x1062001) else (impl_Cell_136__impl_compareCells.l0 k x0 x8 x9 (wrap64 ((IntKind.u64.wrap (wrap64 (x9 + x10))) / 2)) x1062000 x1062001))) else (none)) else (none)) else (if x9 < x8 then (if 0 ≤ x9 then (if x9 < (x0.length : Int) then ((impl_compareCells.f ((rd_T59 x0 x9).f0) ((rd_T59 x0 x9).f1) x1062000 x1062001).bind fun t1065 => (some (x9, (t1065 == 0)))) else (none)) else (none)) else (some (x9, false)))
def impl_Cell_136__impl_compareCells.f (k : Nat) (l0 : List (S59)) (a1_0 : Int) (a1_1 : Int)  : Option (Int × Bool) := impl_Cell_136__impl_compareCells.l0 k l0 (l0.length : Int) 0 (l0.length : Int) a1_0 a1_1
def impl_Cell_136__impl_compareCells.T5 : Bool × List (List Nat × List Nat) := (true, [([], []), ([], []), ([], []), ([1, 2], [1, 2]), ([3], [3]), ([], []), ([0, 4, 5], [0, 4, 5]), ([6], [6])])
def impl_Cell_136__impl_compareCells.B5 : List Nat := [0, 0, 0, 6, 14, 0, 63, 127]
theorem impl_Cell_136__impl_compareCells.tab5 : rtab .any (opsOf Try.f136 5) = impl_Cell_136__impl_compareCells.T5 := by kernel_rfl
theorem impl_Cell_136__impl_compareCells.bits5 : waitsOk impl_Cell_136__impl_compareCells.T5.2 impl_Cell_136__impl_compareCells.B5 = true := by kernel_rfl
def impl_Cell_136__impl_compareCells.T8 : Bool × List (List Nat × List Nat) := (true, [([], []), ([], []), ([], []), ([1, 2], [1, 2]), ([3], [3]), ([4], [4]), ([4], [4]), ([4], [4]), ([6, 7, 4], [4, 6, 7]), ([8, 4], [4, 8]), ([4], [4]), ([5, 9, 10, 4, 4], [4, 5, 9, 10]), ([11, 4], [4, 11]), ([4, 12], [4, 12]), ([0, 11, 0], [0]), ([13, 14, 0, 1, 2, 3, 4, 5, 6, 7, 8, 9, 10, 11, 12, 13, 14], [13])])
def impl_Cell_136__impl_compareCells.B8 : List Nat := [0, 0, 0, 6, 14, 30, 30, 30, 222, 478, 30, 2046, 4094, 8190, 4095, 32767]
theorem impl_Cell_136__impl_compareCells.tab8 : rtab .any (opsOf Try.f136 8) = impl_Cell_136__impl_compareCells.T8 := by kernel_rfl
theorem impl_Cell_136__impl_compareCells.bits8 : waitsOk impl_Cell_136__impl_compareCells.T8.2 impl_Cell_136__impl_compareCells.B8 = true := by kernel_rfl
theorem impl_Cell_136__impl_compareCells.calls (k : Nat) (A0 : Option Addr) (c0 : Nat) (l0 : List (S59)) (a1_0 : Int) (a1_1 : Int)  (r1 : Int) (r2 : Bool) (w : World) (hr0 : Kd.C k59 w A0 l0.length l0) (hc0 : l0.length ≤ c0) (h : impl_Cell_136__impl_compareCells.f k l0 a1_0 a1_1 = some (r1, r2)) :
  Calls Try.prog 136 #[.slice A0 l0.length c0, .agg #[.int .i64 a1_0, .int .i64 a1_1], .func (.func 101) #[] #[]] w fun e w' => e = .returned (.tuple #[.int .i64 r1, .bool r2]) ∧ Below w.heap.size w w' := by
 have hu59 := Try.underlying59
 have HR0 := aM hr0
 have HC0 := aM hc0
 clear hr0 hc0
 have HB := aM (Below.refl w.heap.size w)
 have H : (impl_Cell_136__impl_compareCells.l0 k l0 (l0.length : Int) 0 (l0.length : Int) a1_0 a1_1) = some (r1, r2) := h
 clear h
 have H' := aM H
 clear H
 go_enter Try.func136, Try.ntmps136
 go_wp2_with (first | ((with_reducible refine gate_dst (N := 4) rfl ?_); refine zx 4 #[.int .i64 a1_0, .int .i64 a1_1] 59 ?_; intro gb1061 hg w4 hbox hb; have n0_ := aM (below_step zb hb); have n1_ := aM (hbox); have n2_ := aM ((ze : w.heap.size ≤ gb1061)); have n3_ := aM ((ze : w.heap.size ≤ gb1061)); clear HB; have HB := n0_; have BK1061 := n1_; have GW1061 := n2_; have GE1061 := n3_; clear n0_ n1_ n2_ n3_; clear hb hbox hg))
 go_loopg [9, 10] k (fun kq v9 v10 w' => ∃ (x9_1 : Int) (x10_1 : Int), v9 = .int .i64 x9_1 ∧ v10 = .int .i64 x10_1 ∧ Aside0 (impl_Cell_136__impl_compareCells.l0 kq l0 (l0.length : Int) x9_1 x10_1 a1_0 a1_1 = some (r1, r2)) ∧ Aside0 (kq ≤ k) ∧ Aside0 (w'.heap[gb1061]? = some (.cells #[.int .i64 a1_0, .int .i64 a1_1] 59 (0, 0))) ∧ Aside0 (Below w.heap.size w w'))
 case atStart => exact ⟨(0), ((l0.length : Int)), zr, zr, H', ⟨Nat.le_refl _⟩, ⟨mB_ BK1061.out⟩, ⟨zs GE1061.out⟩⟩
 case round =>
  clear H'
  try clear p2
  obtain ⟨x9_1, x10_1, rfl, rfl, HA, HK1, BK1061, HB⟩ := hrel
  cases gk with
  | zero => exact absurd HA.out (by simp [impl_Cell_136__impl_compareCells.l0])
  | succ k1 =>
   have H := HA.out
   clear HA
   simp only [impl_Cell_136__impl_compareCells.l0] at H
   by_cases c5 : x9_1 < x10_1
   ·rw [if_pos c5] at H
    have c5b0 : decide (x9_1 < x10_1) = true := decide_eq_true c5
    clear c5
    obtain ⟨ji6, hji6⟩ : ∃ j_ : Int, (wrap64 ((IntKind.u64.wrap (wrap64 (x9_1 + x10_1))) / 2)) = j_ := ⟨_, rfl⟩
    replace H : (if 0 ≤ (ji6) then (if (ji6) < (l0.length : Int) then ((impl_compareCells.f ((rd_T59 l0 (ji6)).f0) ((rd_T59 l0 (ji6)).f1) a1_0 a1_1).bind fun t1063 => (if t1063 < 0 then (impl_Cell_136__impl_compareCells.l0 k1 l0 (l0.length : Int) (wrap64 ((ji6) + 1)) x10_1 a1_0 a1_1) else (impl_Cell_136__impl_compareCells.l0 k1 l0 (l0.length : Int) x9_1 ji6 a1_0 a1_1))) else (none)) else (none)) = some (r1, r2) := by first | (rw [hji6] at H; exact H) | (simp only [hji6] at H ⊢; exact H)
    have hji6w : (IntKind.i64.wrap ((IntKind.u64.wrap (wrap64 (x9_1 + x10_1))) / 2)) = ji6 := (i64_w _).trans hji6
    by_cases c7 : 0 ≤ (ji6)
    rotate_left
    ·rw [if_neg c7] at H
     exact absurd H (by simp)
    rw [if_pos c7] at H
    have c7b0 : decide (0 ≤ (ji6)) = true := decide_eq_true c7
    clear c7
    by_cases c8 : (ji6) < (l0.length : Int)
    rotate_left
    ·rw [if_neg c8] at H
     exact absurd H (by simp)
    rw [if_pos c8] at H
    have c8b0 : decide ((ji6) < (l0.length : Int)) = true := decide_eq_true c8
    clear c8
    replace H := Option.bind_eq_some_iff.mp H
    obtain ⟨t1063, A90, H⟩ := H
    replace H : (if t1063 < 0 then (impl_Cell_136__impl_compareCells.l0 k1 l0 (l0.length : Int) (wrap64 ((ji6) + 1)) x10_1 a1_0 a1_1) else (impl_Cell_136__impl_compareCells.l0 k1 l0 (l0.length : Int) x9_1 ji6 a1_0 a1_1)) = some (r1, r2) := H
    have A9 := aM A90
    clear A90
    by_cases c10 : t1063 < 0
    ·rw [if_pos c10] at H
     have c10b0 : decide (t1063 < 0) = true := decide_eq_true c10
     clear c10
     have H' := aM H
     clear H
     try go_wp2
     have n0_ := aM (blk_drew BK1061.out)
     have n1_ := aM (below_drew1 HB.out)
     clear BK1061
     clear HB
     have BK1061 := n0_
     have HB := n1_
     clear n0_ n1_
     have p1062 : 0 ≤ ((ji6) : Int) := of_decide_eq_true za
     have q1062 : (ji6) < (l0.length : Int) := of_decide_eq_true za
     obtain ⟨ad1062, e1062, hx1062_0, hx1062_1⟩ := at_T59 HR0.out (ji6) p1062 q1062
     have hw1062_1 := hx1062_1
     have hw1062_0 := hx1062_0
     cases e1062
     replace hx1062_0 := zk HB.out hx1062_0
     replace hx1062_1 := zk HB.out hx1062_1
     replace p1062 := eq_true p1062
     replace q1062 := eq_true q1062
     refine start_ (n := 8) (S := fun w' => w'.cell? ⟨gb1061, 0, none⟩ = some (.int .i64 a1_0) ∧ w'.cell? ⟨gb1061, 1, none⟩ = some (.int .i64 a1_1) ∧ w'.cell? (ad1062.add (((ji6)).toNat * 2)) = some (.int .i64 ((rd_T59 l0 (ji6)).f0)) ∧ w'.cell? ⟨(ad1062.add (((ji6)).toNat * 2)).block, (ad1062.add (((ji6)).toNat * 2)).off + 1, none⟩ = some (.int .i64 ((rd_T59 l0 (ji6)).f1))) (ds := []) #[false, false, false, false, false, false, false, false] (by kernel_rfl) rfl rfl ⟨(blk_cell BK1061.out 0).trans rfl, (blk_cell BK1061.out 1).trans rfl, (zk HB.out hw1062_0), (zk HB.out hw1062_1)⟩ (fun hHeld => ?_); refine with_tabW impl_Cell_136__impl_compareCells.tab5 impl_Cell_136__impl_compareCells.bits5 (fun HT_ HW_ => ?_)
     generalize wr.drew = w11 at BK1061 HB hx1062_0 hx1062_1 hHeld ⊢
     refine zp 0 (some 24) ?_ #[true, false, false, false, false, false, false, false] rfl rfl (Or.inl ⟨by rfl, ?_⟩) ?_ ?_ ?_
     rotate_left
     ·intro w'
      go_simp
      with_reducible rfl
     rotate_left
     ·simp only [Act.put, xA, xB, xC, i64_w, i32_w]
      rfl
     refine zp 1 (some 25) ?_ #[true, true, false, false, false, false, false, false] rfl rfl (Or.inl ⟨by rfl, ?_⟩) ?_ ?_ ?_
     rotate_left
     ·intro w'
      go_simp
      with_reducible rfl
     rotate_left
     ·simp only [Act.put, xA, xB, xC, i64_w, i32_w]
      rfl
     refine zp 2 (some 26) ?_ #[true, true, true, false, false, false, false, false] rfl rfl (Or.inl ⟨by rfl, ?_⟩) ?_ ?_ ?_
     rotate_left
     ·intro w'
      go_simp
      with_reducible rfl
     rotate_left
     ·simp only [Act.put, xA, xB, xC, i64_w, i32_w]
      rfl
     refine zp 3 (some 27) ?_ #[true, true, true, true, false, false, false, false] rfl rfl (Or.inl ⟨by rfl, ?_⟩) ?_ ?_ ?_
     rotate_left
     ·intro w'
      go_simp
      with_reducible rfl
     rotate_left
     ·simp only [Act.put, xA, xB, xC, i64_w, i32_w]
      rfl
     refine zu 4 (some 28) ?_ #[true, true, true, true, true, false, false, false] rfl rfl (Or.inl ⟨by rfl, ?_⟩) hHeld ?_ ?_ ?_
     rotate_left
     ·rintro w' ⟨s0, s1, s2, s3⟩
      go_simp
      with_reducible rfl
     rotate_left
     ·simp only [Act.put, xA, xB, xC, i64_w, i32_w]
      rfl
     refine zu 5 (some 29) ?_ #[true, true, true, true, true, true, false, false] rfl rfl (Or.inl ⟨by rfl, ?_⟩) hHeld ?_ ?_ ?_
     rotate_left
     ·rintro w' ⟨s0, s1, s2, s3⟩
      go_simp
      with_reducible rfl
     rotate_left
     ·simp only [Act.put, xA, xB, xC, i64_w, i32_w]
      rfl
     refine one_ (i := 6) (N := some 30) #[true, true, true, true, true, true, true, false] rfl rfl (one_of HT_.out (by kernel_rfl)) (by decide) (fun K hK => ?_)
     first | refine goesV_ Try.func101 (by kernel_rfl) rfl #[.agg #[.int .i64 ((rd_T59 l0 (ji6)).f0), .int .i64 ((rd_T59 l0 (ji6)).f1)], .agg #[.int .i64 a1_0, .int .i64 a1_1]] (by rfl) rfl _ rfl rfl (by (try simp only [mA, mB, mC]); first | done | (simp only [hji6]; rfl) | rfl | (simp only [lD, lT]; rfl)) ?_ | refine goes_ Try.func101 (by kernel_rfl) rfl #[.agg #[.int .i64 ((rd_T59 l0 (ji6)).f0), .int .i64 ((rd_T59 l0 (ji6)).f1)], .agg #[.int .i64 a1_0, .int .i64 a1_1]] (by rfl) rfl rfl (by (try simp only [mA, mB, mC]); first | done | (simp only [hji6]; rfl) | rfl | (simp only [lD, lT]; rfl)) ?_
     with_reducible refine (impl_compareCells.calls ((rd_T59 l0 (ji6)).f0) ((rd_T59 l0 (ji6)).f1) a1_0 a1_1 t1063 _ A9.out).mono ?_
     rintro e w12 ⟨rfl, hb⟩
     refine ⟨_, rfl, ?_⟩
     have n0_ := aM (blk_below (g := gb1061) (o := .cells #[.int .i64 a1_0, .int .i64 a1_1] 59 (0, 0)) (mB_ BK1061.out) hb)
     have n1_ := aM (below_step (zs GE1061.out) hb)
     clear BK1061
     clear HB
     have BK1061 := n0_
     have HB := n1_
     clear n0_ n1_
     (try clear hb)
     (try clear hb2)
     (try clear hk)
     (try clear hi)
     refine hK.out _ _ ⟨(blk_cell BK1061.out 0).trans rfl, (blk_cell BK1061.out 1).trans rfl, (zk HB.out hw1062_0), (zk HB.out hw1062_1)⟩ (fun hHeld => ?_)
     clear hK K
     refine norm_ (a' := ?_) ?_ ?_
     rotate_left
     ·show Act.put _ (some 30) _ = _
      simp only [Act.put, xA, xB, xC, i64_w, i32_w]
      rfl
     refine zp 7 (some 31) ?_ #[true, true, true, true, true, true, true, true] rfl rfl (Or.inl ⟨by rfl, ?_⟩) ?_ ?_ ?_
     rotate_left
     ·intro w'
      go_simp
      with_reducible rfl
     rotate_left
     ·simp only [Act.put, xA, xB, xC, i64_w, i32_w]
      rfl
     refine done_ (done_of HT_.out (by kernel_rfl)) ?_
     try go_wp2
     go_roundg k1
     case measure => have := HK1.out; omega
     case rel => exact ⟨(wrap64 ((ji6) + 1)), (x10_1), (by first | rfl | (simp; done) | (simp only [← hji6] <;> (first | rfl | simp)) | (simp [*]; done)), zr, H', ⟨by have := HK1.out; omega⟩, ⟨mB_ BK1061.out⟩, ⟨zs GE1061.out⟩⟩
    rw [if_neg c10] at H
    have c10b0 : decide (t1063 < 0) = false := decide_eq_false c10
    clear c10
    have H' := aM H
    clear H
    try go_wp2
    have n0_ := aM (blk_drew BK1061.out)
    have n1_ := aM (below_drew1 HB.out)
    clear BK1061
    clear HB
    have BK1061 := n0_
    have HB := n1_
    clear n0_ n1_
    have p1062 : 0 ≤ ((ji6) : Int) := of_decide_eq_true za
    have q1062 : (ji6) < (l0.length : Int) := of_decide_eq_true za
    obtain ⟨ad1062, e1062, hx1062_0, hx1062_1⟩ := at_T59 HR0.out (ji6) p1062 q1062
    have hw1062_1 := hx1062_1
    have hw1062_0 := hx1062_0
    cases e1062
    replace hx1062_0 := zk HB.out hx1062_0
    replace hx1062_1 := zk HB.out hx1062_1
    replace p1062 := eq_true p1062
    replace q1062 := eq_true q1062
    refine start_ (n := 8) (S := fun w' => w'.cell? ⟨gb1061, 0, none⟩ = some (.int .i64 a1_0) ∧ w'.cell? ⟨gb1061, 1, none⟩ = some (.int .i64 a1_1) ∧ w'.cell? (ad1062.add (((ji6)).toNat * 2)) = some (.int .i64 ((rd_T59 l0 (ji6)).f0)) ∧ w'.cell? ⟨(ad1062.add (((ji6)).toNat * 2)).block, (ad1062.add (((ji6)).toNat * 2)).off + 1, none⟩ = some (.int .i64 ((rd_T59 l0 (ji6)).f1))) (ds := []) #[false, false, false, false, false, false, false, false] (by kernel_rfl) rfl rfl ⟨(blk_cell BK1061.out 0).trans rfl, (blk_cell BK1061.out 1).trans rfl, (zk HB.out hw1062_0), (zk HB.out hw1062_1)⟩ (fun hHeld => ?_); refine with_tabW impl_Cell_136__impl_compareCells.tab5 impl_Cell_136__impl_compareCells.bits5 (fun HT_ HW_ => ?_)
    generalize wr.drew = w13 at BK1061 HB hx1062_0 hx1062_1 hHeld ⊢
    refine zp 0 (some 24) ?_ #[true, false, false, false, false, false, false, false] rfl rfl (Or.inl ⟨by rfl, ?_⟩) ?_ ?_ ?_
    rotate_left
    ·intro w'
     go_simp
     with_reducible rfl
    rotate_left
    ·simp only [Act.put, xA, xB, xC, i64_w, i32_w]
     rfl
    refine zp 1 (some 25) ?_ #[true, true, false, false, false, false, false, false] rfl rfl (Or.inl ⟨by rfl, ?_⟩) ?_ ?_ ?_
    rotate_left
    ·intro w'
     go_simp
     with_reducible rfl
    rotate_left
    ·simp only [Act.put, xA, xB, xC, i64_w, i32_w]
     rfl
    refine zp 2 (some 26) ?_ #[true, true, true, false, false, false, false, false] rfl rfl (Or.inl ⟨by rfl, ?_⟩) ?_ ?_ ?_
    rotate_left
    ·intro w'
     go_simp
     with_reducible rfl
    rotate_left
    ·simp only [Act.put, xA, xB, xC, i64_w, i32_w]
     rfl
    refine zp 3 (some 27) ?_ #[true, true, true, true, false, false, false, false] rfl rfl (Or.inl ⟨by rfl, ?_⟩) ?_ ?_ ?_
    rotate_left
    ·intro w'
     go_simp
     with_reducible rfl
    rotate_left
    ·simp only [Act.put, xA, xB, xC, i64_w, i32_w]
     rfl
    refine zu 4 (some 28) ?_ #[true, true, true, true, true, false, false, false] rfl rfl (Or.inl ⟨by rfl, ?_⟩) hHeld ?_ ?_ ?_
    rotate_left
    ·rintro w' ⟨s0, s1, s2, s3⟩
     go_simp
     with_reducible rfl
    rotate_left
    ·simp only [Act.put, xA, xB, xC, i64_w, i32_w]
     rfl
    refine zu 5 (some 29) ?_ #[true, true, true, true, true, true, false, false] rfl rfl (Or.inl ⟨by rfl, ?_⟩) hHeld ?_ ?_ ?_
    rotate_left
    ·rintro w' ⟨s0, s1, s2, s3⟩
     go_simp
     with_reducible rfl
    rotate_left
    ·simp only [Act.put, xA, xB, xC, i64_w, i32_w]
     rfl
    refine one_ (i := 6) (N := some 30) #[true, true, true, true, true, true, true, false] rfl rfl (one_of HT_.out (by kernel_rfl)) (by decide) (fun K hK => ?_)
    first | refine goesV_ Try.func101 (by kernel_rfl) rfl #[.agg #[.int .i64 ((rd_T59 l0 (ji6)).f0), .int .i64 ((rd_T59 l0 (ji6)).f1)], .agg #[.int .i64 a1_0, .int .i64 a1_1]] (by rfl) rfl _ rfl rfl (by (try simp only [mA, mB, mC]); first | done | (simp only [hji6]; rfl) | rfl | (simp only [lD, lT]; rfl)) ?_ | refine goes_ Try.func101 (by kernel_rfl) rfl #[.agg #[.int .i64 ((rd_T59 l0 (ji6)).f0), .int .i64 ((rd_T59 l0 (ji6)).f1)], .agg #[.int .i64 a1_0, .int .i64 a1_1]] (by rfl) rfl rfl (by (try simp only [mA, mB, mC]); first | done | (simp only [hji6]; rfl) | rfl | (simp only [lD, lT]; rfl)) ?_
    with_reducible refine (impl_compareCells.calls ((rd_T59 l0 (ji6)).f0) ((rd_T59 l0 (ji6)).f1) a1_0 a1_1 t1063 _ A9.out).mono ?_
    rintro e w14 ⟨rfl, hb⟩
    refine ⟨_, rfl, ?_⟩
    have n0_ := aM (blk_below (g := gb1061) (o := .cells #[.int .i64 a1_0, .int .i64 a1_1] 59 (0, 0)) (mB_ BK1061.out) hb)
    have n1_ := aM (below_step (zs GE1061.out) hb)
    clear BK1061
    clear HB
    have BK1061 := n0_
    have HB := n1_
    clear n0_ n1_
    (try clear hb)
    (try clear hb2)
    (try clear hk)
    (try clear hi)
    refine hK.out _ _ ⟨(blk_cell BK1061.out 0).trans rfl, (blk_cell BK1061.out 1).trans rfl, (zk HB.out hw1062_0), (zk HB.out hw1062_1)⟩ (fun hHeld => ?_)
    clear hK K
    refine norm_ (a' := ?_) ?_ ?_
    rotate_left
    ·show Act.put _ (some 30) _ = _
     simp only [Act.put, xA, xB, xC, i64_w, i32_w]
     rfl
    refine zp 7 (some 31) ?_ #[true, true, true, true, true, true, true, true] rfl rfl (Or.inl ⟨by rfl, ?_⟩) ?_ ?_ ?_
    rotate_left
    ·intro w'
     go_simp
     with_reducible rfl
    rotate_left
    ·simp only [Act.put, xA, xB, xC, i64_w, i32_w]
     rfl
    refine done_ (done_of HT_.out (by kernel_rfl)) ?_
    try go_wp2
    go_roundg k1
    case measure => have := HK1.out; omega
    case rel => exact ⟨(x9_1), (ji6), zr, (by first | rfl | (simp; done) | (simp only [← hji6] <;> (first | rfl | simp)) | (simp [*]; done)), H', ⟨by have := HK1.out; omega⟩, ⟨mB_ BK1061.out⟩, ⟨zs GE1061.out⟩⟩
   rw [if_neg c5] at H
   have c5b0 : decide (x9_1 < x10_1) = false := decide_eq_false c5
   clear c5
   by_cases c15 : x9_1 < (l0.length : Int)
   rotate_left
   ·rw [if_neg c15] at H
    have c15b0 : decide (x9_1 < (l0.length : Int)) = false := decide_eq_false c15
    clear c15
    simp only [Option.some.injEq, Prod.mk.injEq] at H
    obtain ⟨rfl, rfl⟩ := H
    try go_wp2
    have n0_ := aM (blk_drew BK1061.out)
    have n1_ := aM (below_drew1 HB.out)
    clear BK1061
    clear HB
    have BK1061 := n0_
    have HB := n1_
    clear n0_ n1_
    refine start_ (n := 16) (S := fun w' => True) (ds := []) zA53 (by kernel_rfl) rfl rfl trivial (fun hHeld => ?_); refine with_tabW impl_Cell_136__impl_compareCells.tab8 impl_Cell_136__impl_compareCells.bits8 (fun HT_ HW_ => ?_)
    generalize wr.drew = w21 at BK1061 HB hHeld ⊢
    refine zp 0 (some 35) ?_ zA54 rfl rfl (Or.inl ⟨by rfl, ?_⟩) ?_ ?_ ?_
    rotate_left
    ·intro w'
     go_simp
     with_reducible rfl
    rotate_left
    ·simp only [Act.put, xA, xB, xC, i64_w, i32_w]
     rfl
    refine zp 1 (some 36) ?_ zA55 rfl rfl (Or.inl ⟨by rfl, ?_⟩) ?_ ?_ ?_
    rotate_left
    ·intro w'
     go_simp
     with_reducible rfl
    rotate_left
    ·simp only [Act.put, xA, xB, xC, i64_w, i32_w]
     rfl
    refine zp 2 (some 37) ?_ zA56 rfl rfl (Or.inl ⟨by rfl, ?_⟩) ?_ ?_ ?_
    rotate_left
    ·intro w'
     go_simp
     with_reducible rfl
    rotate_left
    ·simp only [Act.put, xA, xB, xC, i64_w, i32_w]
     rfl
    refine zp 3 (some 38) ?_ zA57 rfl rfl (Or.inl ⟨by rfl, ?_⟩) ?_ ?_ ?_
    rotate_left
    ·intro w'
     go_simp
     with_reducible rfl
    rotate_left
    ·simp only [Act.put, xA, xB, xC, i64_w, i32_w]
     rfl
    refine zp 4 (some 39) ?_ zA143 rfl rfl (Or.inl ⟨by rfl, ?_⟩) ?_ ?_ ?_
    rotate_left
    ·intro w'
     go_simp
     with_reducible rfl
    rotate_left
    ·simp only [Act.put, xA, xB, xC, i64_w, i32_w]
     rfl
    refine zp 5 (some 40) undef zA144 rfl rfl (Or.inr ⟨by rfl, rfl⟩) ?_ ?_ ?_
    rotate_left
    ·simp only [Act.put, xA, xB, xC, i64_w, i32_w]
     rfl
    refine zp 6 (some 41) undef zA145 rfl rfl (Or.inr ⟨by rfl, rfl⟩) ?_ ?_ ?_
    rotate_left
    ·simp only [Act.put, xA, xB, xC, i64_w, i32_w]
     rfl
    refine zp 7 (some 42) undef zA146 rfl rfl (Or.inr ⟨by rfl, rfl⟩) ?_ ?_ ?_
    rotate_left
    ·simp only [Act.put, xA, xB, xC, i64_w, i32_w]
     rfl
    refine zp 8 (some 43) undef zA62 rfl rfl (Or.inr ⟨by rfl, rfl⟩) ?_ ?_ ?_
    rotate_left
    ·simp only [Act.put, xA, xB, xC, i64_w, i32_w]
     rfl
    refine zp 9 (some 44) undef zA63 rfl rfl (Or.inr ⟨by rfl, rfl⟩) ?_ ?_ ?_
    rotate_left
    ·simp only [Act.put, xA, xB, xC, i64_w, i32_w]
     rfl
    refine zp 10 (some 45) undef zA64 rfl rfl (Or.inr ⟨by rfl, rfl⟩) ?_ ?_ ?_
    rotate_left
    ·simp only [Act.put, xA, xB, xC, i64_w, i32_w]
     rfl
    refine zp 11 (some 46) undef zA65 rfl rfl (Or.inr ⟨by rfl, rfl⟩) ?_ ?_ ?_
    rotate_left
    ·simp only [Act.put, xA, xB, xC, i64_w, i32_w]
     rfl
    refine zp 12 (some 47) undef zA66 rfl rfl (Or.inr ⟨by rfl, rfl⟩) ?_ ?_ ?_
    rotate_left
    ·simp only [Act.put, xA, xB, xC, i64_w, i32_w]
     rfl
    refine zp 13 (some 48) ?_ zA67 rfl rfl (Or.inl ⟨by rfl, ?_⟩) ?_ ?_ ?_
    rotate_left
    ·intro w'
     go_simp
     with_reducible rfl
    rotate_left
    ·simp only [Act.put, xA, xB, xC, i64_w, i32_w]
     rfl
    refine zp 14 (some 6) ?_ zA68 rfl rfl (Or.inl ⟨by rfl, ?_⟩) ?_ ?_ ?_
    rotate_left
    ·intro w'
     go_simp
     with_reducible rfl
    rotate_left
    ·simp only [Act.put, xA, xB, xC, i64_w, i32_w]
     rfl
    refine zp 15 (some 7) ?_ zA69 rfl rfl (Or.inl ⟨by rfl, ?_⟩) ?_ ?_ ?_
    rotate_left
    ·intro w'
     go_simp
     with_reducible rfl
    rotate_left
    ·simp only [Act.put, xA, xB, xC, i64_w, i32_w]
     rfl
    refine done_ (done_of HT_.out (by kernel_rfl)) ?_
    try go_wp2
    go_ret2
    exact ⟨zw, zs GE1061.out⟩
   rw [if_pos c15] at H
   have c15b0 : decide (x9_1 < (l0.length : Int)) = true := decide_eq_true c15
   clear c15
   by_cases c16 : 0 ≤ x9_1
   rotate_left
   ·rw [if_neg c16] at H
    exact absurd H (by simp)
   rw [if_pos c16] at H
   have c16b0 : decide (0 ≤ x9_1) = true := decide_eq_true c16
   clear c16
   by_cases c17 : x9_1 < (l0.length : Int)
   rotate_left
   ·rw [if_neg c17] at H
    exact absurd H (by simp)
   rw [if_pos c17] at H
   have c17b0 : decide (x9_1 < (l0.length : Int)) = true := decide_eq_true c17
   clear c17
   replace H := Option.bind_eq_some_iff.mp H
   obtain ⟨t1065, A180, H⟩ := H
   replace H : (some (x9_1, (t1065 == 0))) = some (r1, r2) := H
   have A18 := aM A180
   clear A180
   simp only [Option.some.injEq, Prod.mk.injEq] at H
   obtain ⟨rfl, rfl⟩ := H
   try go_wp2
   have n0_ := aM (blk_drew BK1061.out)
   have n1_ := aM (below_drew1 HB.out)
   clear BK1061
   clear HB
   have BK1061 := n0_
   have HB := n1_
   clear n0_ n1_
   have p1064 : 0 ≤ (x9_1 : Int) := of_decide_eq_true za
   have q1064 : x9_1 < (l0.length : Int) := of_decide_eq_true za
   obtain ⟨ad1064, e1064, hx1064_0, hx1064_1⟩ := at_T59 HR0.out x9_1 p1064 q1064
   have hw1064_1 := hx1064_1
   have hw1064_0 := hx1064_0
   cases e1064
   replace hx1064_0 := zk HB.out hx1064_0
   replace hx1064_1 := zk HB.out hx1064_1
   replace p1064 := eq_true p1064
   replace q1064 := eq_true q1064
   refine start_ (n := 16) (S := fun w' => w'.cell? ⟨gb1061, 0, none⟩ = some (.int .i64 a1_0) ∧ w'.cell? ⟨gb1061, 1, none⟩ = some (.int .i64 a1_1) ∧ w'.cell? (ad1064.add ((x9_1).toNat * 2)) = some (.int .i64 ((rd_T59 l0 x9_1).f0)) ∧ w'.cell? ⟨(ad1064.add ((x9_1).toNat * 2)).block, (ad1064.add ((x9_1).toNat * 2)).off + 1, none⟩ = some (.int .i64 ((rd_T59 l0 x9_1).f1))) (ds := []) zA53 (by kernel_rfl) rfl rfl ⟨(blk_cell BK1061.out 0).trans rfl, (blk_cell BK1061.out 1).trans rfl, (zk HB.out hw1064_0), (zk HB.out hw1064_1)⟩ (fun hHeld => ?_); refine with_tabW impl_Cell_136__impl_compareCells.tab8 impl_Cell_136__impl_compareCells.bits8 (fun HT_ HW_ => ?_)
   generalize wr.drew = w19 at BK1061 HB hx1064_0 hx1064_1 hHeld ⊢
   refine zp 0 (some 35) ?_ zA54 rfl rfl (Or.inl ⟨by rfl, ?_⟩) ?_ ?_ ?_
   rotate_left
   ·intro w'
    go_simp
    with_reducible rfl
   rotate_left
   ·simp only [Act.put, xA, xB, xC, i64_w, i32_w]
    rfl
   refine zp 1 (some 36) ?_ zA55 rfl rfl (Or.inl ⟨by rfl, ?_⟩) ?_ ?_ ?_
   rotate_left
   ·intro w'
    go_simp
    with_reducible rfl
   rotate_left
   ·simp only [Act.put, xA, xB, xC, i64_w, i32_w]
    rfl
   refine zp 2 (some 37) ?_ zA56 rfl rfl (Or.inl ⟨by rfl, ?_⟩) ?_ ?_ ?_
   rotate_left
   ·intro w'
    go_simp
    with_reducible rfl
   rotate_left
   ·simp only [Act.put, xA, xB, xC, i64_w, i32_w]
    rfl
   refine zp 3 (some 38) ?_ zA57 rfl rfl (Or.inl ⟨by rfl, ?_⟩) ?_ ?_ ?_
   rotate_left
   ·intro w'
    go_simp
    with_reducible rfl
   rotate_left
   ·simp only [Act.put, xA, xB, xC, i64_w, i32_w]
    rfl
   refine zp 4 (some 39) ?_ zA143 rfl rfl (Or.inl ⟨by rfl, ?_⟩) ?_ ?_ ?_
   rotate_left
   ·intro w'
    go_simp
    with_reducible rfl
   rotate_left
   ·simp only [Act.put, xA, xB, xC, i64_w, i32_w]
    rfl
   refine zp 5 (some 40) ?_ zA144 rfl rfl (Or.inl ⟨by rfl, ?_⟩) ?_ ?_ ?_
   rotate_left
   ·intro w'
    go_simp
    with_reducible rfl
   rotate_left
   ·simp only [Act.put, xA, xB, xC, i64_w, i32_w]
    rfl
   refine zp 6 (some 41) ?_ zA145 rfl rfl (Or.inl ⟨by rfl, ?_⟩) ?_ ?_ ?_
   rotate_left
   ·intro w'
    go_simp
    with_reducible rfl
   rotate_left
   ·simp only [Act.put, xA, xB, xC, i64_w, i32_w]
    rfl
   refine zp 7 (some 42) ?_ zA146 rfl rfl (Or.inl ⟨by rfl, ?_⟩) ?_ ?_ ?_
   rotate_left
   ·intro w'
    go_simp
    with_reducible rfl
   rotate_left
   ·simp only [Act.put, xA, xB, xC, i64_w, i32_w]
    rfl
   refine zp 8 (some 43) ?_ zA62 rfl rfl (Or.inl ⟨by rfl, ?_⟩) ?_ ?_ ?_
   rotate_left
   ·intro w'
    go_simp
    with_reducible rfl
   rotate_left
   ·simp only [Act.put, xA, xB, xC, i64_w, i32_w]
    rfl
   refine zu 9 (some 44) ?_ zA63 rfl rfl (Or.inl ⟨by rfl, ?_⟩) hHeld ?_ ?_ ?_
   rotate_left
   ·rintro w' ⟨s0, s1, s2, s3⟩
    go_simp
    with_reducible rfl
   rotate_left
   ·simp only [Act.put, xA, xB, xC, i64_w, i32_w]
    rfl
   refine zu 10 (some 45) ?_ zA64 rfl rfl (Or.inl ⟨by rfl, ?_⟩) hHeld ?_ ?_ ?_
   rotate_left
   ·rintro w' ⟨s0, s1, s2, s3⟩
    go_simp
    with_reducible rfl
   rotate_left
   ·simp only [Act.put, xA, xB, xC, i64_w, i32_w]
    rfl
   refine one_ (i := 11) (N := some 46) zA65 rfl rfl (one_of HT_.out (by kernel_rfl)) (by decide) (fun K hK => ?_)
   first | refine goesV_ Try.func101 (by kernel_rfl) rfl #[.agg #[.int .i64 ((rd_T59 l0 x9_1).f0), .int .i64 ((rd_T59 l0 x9_1).f1)], .agg #[.int .i64 a1_0, .int .i64 a1_1]] (by rfl) rfl _ rfl rfl zm ?_ | refine goes_ Try.func101 (by kernel_rfl) rfl #[.agg #[.int .i64 ((rd_T59 l0 x9_1).f0), .int .i64 ((rd_T59 l0 x9_1).f1)], .agg #[.int .i64 a1_0, .int .i64 a1_1]] (by rfl) rfl rfl zm ?_
   with_reducible refine (impl_compareCells.calls ((rd_T59 l0 x9_1).f0) ((rd_T59 l0 x9_1).f1) a1_0 a1_1 t1065 _ A18.out).mono ?_
   rintro e w20 ⟨rfl, hb⟩
   refine ⟨_, rfl, ?_⟩
   have n0_ := aM (blk_below (g := gb1061) (o := .cells #[.int .i64 a1_0, .int .i64 a1_1] 59 (0, 0)) (mB_ BK1061.out) hb)
   have n1_ := aM (below_step (zs GE1061.out) hb)
   clear BK1061
   clear HB
   have BK1061 := n0_
   have HB := n1_
   clear n0_ n1_
   (try clear hb)
   (try clear hb2)
   (try clear hk)
   (try clear hi)
   refine hK.out _ _ ⟨(blk_cell BK1061.out 0).trans rfl, (blk_cell BK1061.out 1).trans rfl, (zk HB.out hw1064_0), (zk HB.out hw1064_1)⟩ (fun hHeld => ?_)
   clear hK K
   refine norm_ (a' := ?_) ?_ ?_
   rotate_left
   ·show Act.put _ (some 46) _ = _
    simp only [Act.put, xA, xB, xC, i64_w, i32_w]
    rfl
   refine zp 12 (some 47) ?_ zA66 rfl rfl (Or.inl ⟨by rfl, ?_⟩) ?_ ?_ ?_
   rotate_left
   ·intro w'
    go_simp
    with_reducible rfl
   rotate_left
   ·simp only [Act.put, xA, xB, xC, i64_w, i32_w]
    rfl
   refine zp 13 (some 48) ?_ zA67 rfl rfl (Or.inl ⟨by rfl, ?_⟩) ?_ ?_ ?_
   rotate_left
   ·intro w'
    go_simp
    with_reducible rfl
   rotate_left
   ·simp only [Act.put, xA, xB, xC, i64_w, i32_w]
    rfl
   refine zp 14 (some 6) ?_ zA68 rfl rfl (Or.inl ⟨by rfl, ?_⟩) ?_ ?_ ?_
   rotate_left
   ·intro w'
    go_simp
    with_reducible rfl
   rotate_left
   ·simp only [Act.put, xA, xB, xC, i64_w, i32_w]
    rfl
   refine zp 15 (some 7) ?_ zA69 rfl rfl (Or.inl ⟨by rfl, ?_⟩) ?_ ?_ ?_
   rotate_left
   ·intro w'
    go_simp
    with_reducible rfl
   rotate_left
   ·simp only [Act.put, xA, xB, xC, i64_w, i32_w]
    rfl
   refine done_ (done_of HT_.out (by kernel_rfl)) ?_
   try go_wp2
   go_ret2
   exact ⟨zw, zs GE1061.out⟩
def impl_cellsToSet.l0 : Nat → List (S59) → List Int → List (S59) → Int → Int → Option (List Int × Bool)
 | 0, _, _, _, _, _ => none
 | k + 1, x0, x6, x12, x13, x14 => if x14 < x13 then (if 0 ≤ x14 then (if x14 < (x12.length : Int) then ((impl_Cell_136__impl_compareCells.f k x0 ((rd_T59 x12 x14).f0) ((rd_T59 x12 x14).f1)).bind fun bt1071 => (if bt1071.2 = true then (if x6.length < 17592186044416 then (impl_cellsToSet.l0 k x0 (x6 ++ [bt1071.1]) x12 x13 (wrap64 (x14 + 1))) else (none)) else (some (([] : List Int), false)))) else (none)) else (none)) else (some (x6, true))
def impl_cellsToSet.f (k : Nat) (l0 : List (S59)) (l1 : List (S59)) : Option (List Int × Bool) := impl_cellsToSet.l0 k l0 (([] : List Int)) l1 (l1.length : Int) 0
theorem impl_cellsToSet.calls (k : Nat) (A0 : Option Addr) (c0 : Nat) (l0 : List (S59)) (A1 : Option Addr) (c1 : Nat) (l1 : List (S59)) (r1 : List Int) (r2 : Bool) (w : World) (hr0 : Kd.C k59 w A0 l0.length l0) (hc0 : l0.length ≤ c0) (hr1 : Kd.C k59 w A1 l1.length l1) (hc1 : l1.length ≤ c1) (h : impl_cellsToSet.f k l0 l1 = some (r1, r2)) :
  Calls Try.prog 120 #[.slice A0 l0.length c0, .slice A1 l1.length c1] w fun e w' => ∃ v0_ : Value, e = .returned (.tuple #[v0_, .bool r2]) ∧ Kd.R (Kd.int .i64) 2 w' w.heap.size (fun _ => True) v0_ r1 ∧ Below w.heap.size w w' := by
 have hu59 := Try.underlying59
 have HR0 := aM hr0
 have HC0 := aM hc0
 clear hr0 hc0
 have HR1 := aM hr1
 have HC1 := aM hc1
 clear hr1 hc1
 have HB := aM (Below.refl w.heap.size w)
 have H : (impl_cellsToSet.l0 k l0 (([] : List Int)) l1 (l1.length : Int) 0) = some (r1, r2) := h
 clear h
 obtain ⟨y1066, hy1066⟩ : ∃ y_ : List Int, y_ = (([] : List Int)) := ⟨_, rfl⟩
 replace H : (impl_cellsToSet.l0 k l0 y1066 l1 (l1.length : Int) 0) = some (r1, r2) := zy H hy1066
 have Ny1066 := aM hy1066
 clear hy1066
 have H' := aM H
 clear H
 go_enter Try.func120, Try.ntmps120
 go_wp2_with (first | ((with_reducible refine gate_dst (N := 11) rfl ?_); refine Kd.R_lit (Kd.int .i64) _ 2 ?hg (N := 11) ?hd (xs := ([] : List Int)) (inner := []) (ok := fun _ => True) (okp := fun _ => True) ?hr ?hp (fun _ hk => hk) trivial (Below.refl _ _) (Nat.le_refl _) (by simp) ?_; (case hd => rfl); (case hg => rfl); (case hr => first | (go_simp; done) | (go_simp; rfl)); (case hp => exact (Reps.none _ _)); intro v1067 w3 ho4 hb hg_ hnew_; clear hg_ hnew_; (first | rw [← Ny1066.out] at ho4 | (simp only [Int.reduceToNat] at ho4; rw [← Ny1066.out] at ho4)); have n0_ := aM (Kd.R_lower ho4 (below_size zb)); have n1_ := aM (below_step zb hb); clear HB; have HO1068 := n0_; have HB := n1_; clear n0_ n1_; clear hb ho4))
 go_loopg [6, 14] k (fun kq v6 v14 w' => ∃ (x6_1 : List Int) (x14_1 : Int), v14 = .int .i64 x14_1 ∧ Aside0 (impl_cellsToSet.l0 kq l0 x6_1 l1 (l1.length : Int) x14_1 = some (r1, r2)) ∧ Aside0 (kq ≤ k) ∧ Aside0 (Kd.R (Kd.int .i64) 2 w' w.heap.size (fun _ => True) v6 x6_1) ∧ Aside0 (Below w.heap.size w w'))
 case atStart => exact ⟨(y1066), (0), zr, H', ⟨Nat.le_refl _⟩, ⟨mR_ HO1068.out⟩, ⟨zb⟩⟩
 case round =>
  clear H'
  try clear c1
  try clear p2
  obtain ⟨x6_1, x14_1, rfl, HA, HK1, HO_6, HB⟩ := hrel
  cases gk with
  | zero => exact absurd HA.out (by simp [impl_cellsToSet.l0])
  | succ k1 =>
   have H := HA.out
   clear HA
   simp only [impl_cellsToSet.l0] at H
   by_cases c5 : x14_1 < (l1.length : Int)
   rotate_left
   ·rw [if_neg c5] at H
    have c5b0 : decide (x14_1 < (l1.length : Int)) = false := decide_eq_false c5
    clear c5
    simp only [Option.some.injEq, Prod.mk.injEq] at H
    obtain ⟨rfl, rfl⟩ := H
    go_wp2
    go_ret2
    exact ⟨_, zw, mR_ HO_6.out, zb⟩
   rw [if_pos c5] at H
   have c5b0 : decide (x14_1 < (l1.length : Int)) = true := decide_eq_true c5
   clear c5
   by_cases c6 : 0 ≤ x14_1
   rotate_left
   ·rw [if_neg c6] at H
    exact absurd H (by simp)
   rw [if_pos c6] at H
   have c6b0 : decide (0 ≤ x14_1) = true := decide_eq_true c6
   clear c6
   by_cases c7 : x14_1 < (l1.length : Int)
   rotate_left
   ·rw [if_neg c7] at H
    exact absurd H (by simp)
   rw [if_pos c7] at H
   have c7b0 : decide (x14_1 < (l1.length : Int)) = true := decide_eq_true c7
   clear c7
   replace H := Option.bind_eq_some_iff.mp H
   obtain ⟨⟨t1071, t1072⟩, A80, H⟩ := H
   replace H : (if t1072 = true then (if x6_1.length < 17592186044416 then (impl_cellsToSet.l0 k1 l0 (x6_1 ++ [t1071]) l1 (l1.length : Int) (wrap64 (x14_1 + 1))) else (none)) else (some (([] : List Int), false))) = some (r1, r2) := H
   have A8 := aM A80
   clear A80
   by_cases c9 : t1072 = true
   rotate_left
   ·replace c9 := Bool.eq_false_iff.mpr c9
    subst c9
    have H1 : (some (([] : List Int), false)) = some (r1, r2) := by rw [if_neg (show ¬ (false = true) by decide)] at H; exact H
    clear H
    have H := H1
    clear H1
    simp only [Option.some.injEq, Prod.mk.injEq] at H
    obtain ⟨rfl, rfl⟩ := H
    have p1069 : 0 ≤ (x14_1 : Int) := of_decide_eq_true za
    have q1069 : x14_1 < (l1.length : Int) := of_decide_eq_true za
    obtain ⟨ad1069, e1069, hx1069_0, hx1069_1⟩ := at_T59 HR1.out x14_1 p1069 q1069
    cases e1069
    replace hx1069_0 := zk HB.out hx1069_0
    replace hx1069_1 := zk HB.out hx1069_1
    replace p1069 := eq_true p1069
    replace q1069 := eq_true q1069
    go_wp2_with (first | ((with_reducible refine gate_dst (N := 8) rfl ?_); refine zx 8 #[.int .i64 0, .int .i64 0] 59 ?_; intro gb1070 hg w15 hbox hb; have n0_ := aM (Kd.R_below (mR_ HO_6.out) hb); have n1_ := aM (below_step zb hb); have n2_ := aM (hbox); have n3_ := aM ((ze : w.heap.size ≤ gb1070)); have n4_ := aM ((ze : w.heap.size ≤ gb1070)); clear HO_6 HB; have HO_6 := n0_; have HB := n1_; have BK1070 := n2_; have GW1070 := n3_; have GE1070 := n4_; clear n0_ n1_ n2_ n3_ n4_ hb hbox hg; have hcz16_0 : w15.cell? ⟨gb1070, 0, none⟩ = some (.int .i64 0) := (blk_cell BK1070.out 0).trans rfl; have hcz16_1 : w15.cell? ⟨gb1070, 1, none⟩ = some (.int .i64 0) := (blk_cell BK1070.out 1).trans rfl; have hfz16_0 := blk_frozen BK1070.out 0; have hfz16_1 := blk_frozen BK1070.out 1) | ((with_reducible refine gate_callee (f := 136) rfl ?_); refine goesL_ (some 21) rfl rfl Try.func136 (by kernel_rfl) rfl #[.slice A0 l0.length c0, .agg #[.int .i64 ((rd_T59 l1 x14_1).f0), .int .i64 ((rd_T59 l1 x14_1).f1)], .func (.func 101) #[] #[]] rfl zm ?_; (with_reducible refine (impl_Cell_136__impl_compareCells.calls k1 _ _ l0 ((rd_T59 l1 x14_1).f0) ((rd_T59 l1 x14_1).f1)  t1071 false _ ?side1 ?side2 A8.out).mono ?_); (case side1 => exact Kd.C_below HR0.out (zs GE1070.out)); (case side2 => exact HC0.out); rintro e w17 ⟨rfl, hb⟩; refine ⟨_, rfl, ?_⟩; have n0_ := aM (Kd.R_below (by (with_reducible repeat (first | apply Kd.R_alloc | apply Kd.R_drewN | apply Kd.R_drew)); exact (Kd.R_mono (Kd.R_far (p := ⟨gb1070, 1, none⟩) (Kd.R_far (p := ⟨gb1070, 0, none⟩) (Kd.R_types HO_6.out BK1070.out (by decide)) (fun _ hk => hk.2) (.int .i64 ((rd_T59 l1 x14_1).f0))) (fun _ hk => hk.2) (.int .i64 ((rd_T59 l1 x14_1).f1))) (fun _ h_ => h_.1))) hb); have n1_ := aM (blk_below (g := gb1070) (o := .cells #[.int .i64 ((rd_T59 l1 x14_1).f0), .int .i64 ((rd_T59 l1 x14_1).f1)] 59 (0, 0)) (by (with_reducible repeat (first | refine blk_drewN ?_ _ | refine blk_drew ?_ | refine blk_alloc ?_ _)); refine blk_put (cs := #[.int .i64 ((rd_T59 l1 x14_1).f0), .int .i64 0]) ?_ 1 _ rfl; (with_reducible repeat (first | refine blk_drewN ?_ _ | refine blk_drew ?_ | refine blk_alloc ?_ _)); refine blk_put (cs := #[.int .i64 0, .int .i64 0]) ?_ 0 _ rfl; (with_reducible repeat (first | refine blk_drewN ?_ _ | refine blk_drew ?_ | refine blk_alloc ?_ _)); exact BK1070.out) hb); have n2_ := aM (below_step (zs GE1070.out) hb); clear HO_6 BK1070 HB; have HO_6 := n0_; have BK1070 := n1_; have HB := n2_; clear n0_ n1_ n2_; (try clear hb); (try clear hb2); (try clear hk); (try clear hi)))
    go_ret2
    exact ⟨_, zw, by first | exact Kd.R_nil _ _ _ _ _ | exact Kd.N_nil _ _ _ _ _ | exact Kd.V_nil _ _ _ _ _ | exact Kd.Q_nil _ _ _ _ _ | exact Kd.S_nil _ _ _ _ _, zs GE1070.out⟩
   subst c9
   have H1 : (if x6_1.length < 17592186044416 then (impl_cellsToSet.l0 k1 l0 (x6_1 ++ [t1071]) l1 (l1.length : Int) (wrap64 (x14_1 + 1))) else (none)) = some (r1, r2) := by rw [if_pos rfl] at H; exact H
   clear H
   have H := H1
   clear H1
   by_cases c10 : x6_1.length < 17592186044416
   rotate_left
   ·rw [if_neg c10] at H
    exact absurd H (by simp)
   rw [if_pos c10] at H
   have LMc10 := aM c10
   clear c10
   obtain ⟨y1073, hy1073⟩ : ∃ y_ : List Int, y_ = (x6_1 ++ [t1071]) := ⟨_, rfl⟩
   replace H : (impl_cellsToSet.l0 k1 l0 y1073 l1 (l1.length : Int) (wrap64 (x14_1 + 1))) = some (r1, r2) := zy H hy1073
   have Ny1073 := aM hy1073
   clear hy1073
   have H' := aM H
   clear H
   have p1069 : 0 ≤ (x14_1 : Int) := of_decide_eq_true za
   have q1069 : x14_1 < (l1.length : Int) := of_decide_eq_true za
   obtain ⟨ad1069, e1069, hx1069_0, hx1069_1⟩ := at_T59 HR1.out x14_1 p1069 q1069
   cases e1069
   replace hx1069_0 := zk HB.out hx1069_0
   replace hx1069_1 := zk HB.out hx1069_1
   replace p1069 := eq_true p1069
   replace q1069 := eq_true q1069
   go_wp2_with (first | ((with_reducible refine gate_dst (N := 8) rfl ?_); refine zx 8 #[.int .i64 0, .int .i64 0] 59 ?_; intro gb1070 hg w11 hbox hb; have n0_ := aM (Kd.R_below (mR_ HO_6.out) hb); have n1_ := aM (below_step zb hb); have n2_ := aM (hbox); have n3_ := aM ((ze : w.heap.size ≤ gb1070)); have n4_ := aM ((ze : w.heap.size ≤ gb1070)); clear HO_6 HB; have HO_6 := n0_; have HB := n1_; have BK1070 := n2_; have GW1070 := n3_; have GE1070 := n4_; clear n0_ n1_ n2_ n3_ n4_ hb hbox hg; have hcz12_0 : w11.cell? ⟨gb1070, 0, none⟩ = some (.int .i64 0) := (blk_cell BK1070.out 0).trans rfl; have hcz12_1 : w11.cell? ⟨gb1070, 1, none⟩ = some (.int .i64 0) := (blk_cell BK1070.out 1).trans rfl; have hfz12_0 := blk_frozen BK1070.out 0; have hfz12_1 := blk_frozen BK1070.out 1) | ((with_reducible refine gate_callee (f := 136) rfl ?_); refine goesL_ (some 21) rfl rfl Try.func136 (by kernel_rfl) rfl #[.slice A0 l0.length c0, .agg #[.int .i64 ((rd_T59 l1 x14_1).f0), .int .i64 ((rd_T59 l1 x14_1).f1)], .func (.func 101) #[] #[]] rfl zm ?_; (with_reducible refine (impl_Cell_136__impl_compareCells.calls k1 _ _ l0 ((rd_T59 l1 x14_1).f0) ((rd_T59 l1 x14_1).f1)  t1071 true _ ?side1 ?side2 A8.out).mono ?_); (case side1 => exact Kd.C_below HR0.out (zs GE1070.out)); (case side2 => exact HC0.out); rintro e w13 ⟨rfl, hb⟩; refine ⟨_, rfl, ?_⟩; have n0_ := aM (Kd.R_below (by (with_reducible repeat (first | apply Kd.R_alloc | apply Kd.R_drewN | apply Kd.R_drew)); exact (Kd.R_mono (Kd.R_far (p := ⟨gb1070, 1, none⟩) (Kd.R_far (p := ⟨gb1070, 0, none⟩) (Kd.R_types HO_6.out BK1070.out (by decide)) (fun _ hk => hk.2) (.int .i64 ((rd_T59 l1 x14_1).f0))) (fun _ hk => hk.2) (.int .i64 ((rd_T59 l1 x14_1).f1))) (fun _ h_ => h_.1))) hb); have n1_ := aM (blk_below (g := gb1070) (o := .cells #[.int .i64 ((rd_T59 l1 x14_1).f0), .int .i64 ((rd_T59 l1 x14_1).f1)] 59 (0, 0)) (by (with_reducible repeat (first | refine blk_drewN ?_ _ | refine blk_drew ?_ | refine blk_alloc ?_ _)); refine blk_put (cs := #[.int .i64 ((rd_T59 l1 x14_1).f0), .int .i64 0]) ?_ 1 _ rfl; (with_reducible repeat (first | refine blk_drewN ?_ _ | refine blk_drew ?_ | refine blk_alloc ?_ _)); refine blk_put (cs := #[.int .i64 0, .int .i64 0]) ?_ 0 _ rfl; (with_reducible repeat (first | refine blk_drewN ?_ _ | refine blk_drew ?_ | refine blk_alloc ?_ _)); exact BK1070.out) hb); have n2_ := aM (below_step (zs GE1070.out) hb); clear HO_6 BK1070 HB; have HO_6 := n0_; have BK1070 := n1_; have HB := n2_; clear n0_ n1_ n2_; (try clear hb); (try clear hb2); (try clear hk); (try clear hi)) | ((with_reducible refine gate_builtin (b := .append) (xs := #[.tmp 26, .tmp 28]) rfl ?_); at_builtin; refine Kd.R_append (Kd.int .i64) (w0 := w) w.heap.size rfl (.tmp 26) (.tmp 28) 41 2 (.int .i64 0) 8 rfl Try.underlying41 info2 rfl (by decide) (by omega) u6 x6_1 t1071 [.int .i64 t1071] (fun _ => True) (fun _ => False) rfl rfl ?aP (fun _ hk => hk.elim) ?aF ?aO ?aB ?aS ?aL ?_; (case aP => exact rfl); (case aB => exact (zs GE1070.out)); (case aF => exact (fun _ _ => trivial)); (case aO => exact (mR_ HO_6.out)); (case aS => exact (below_size (zs GE1070.out))); (case aL => have := LMc10.out; omega); intro v1074 w14 ho hb hg hat; rw [← Ny1073.out] at ho; have n0_ := aM (blk_grown (g := gb1070) (o := .cells #[.int .i64 ((rd_T59 l1 x14_1).f0), .int .i64 ((rd_T59 l1 x14_1).f1)] 59 (0, 0)) (mB_ BK1070.out) hg (Kd.R_ne HO_6.out BK1070.out (by decide))); have n1_ := aM (hb); have n2_ := aM (ho); clear BK1070 HB HO_6; have BK1070 := n0_; have HB := n1_; have HO1075 := n2_; clear n0_ n1_ n2_; clear ho hb hg hat))
   go_roundg k1
   case measure => have := HK1.out; omega
   case rel => exact ⟨(y1073), (wrap64 (x14_1 + 1)), zr, H', ⟨by have := HK1.out; omega⟩, ⟨mR_ HO1075.out⟩, ⟨zs GE1070.out⟩⟩
def impl_turnNumbers.l0 : Nat → List (S59) → Int → List (S59) → List (S59) → Int → Int → Option (List Int × Bool)
 | 0, _, _, _, _, _, _ => none
 | k + 1, x0, x1, x6, x10, x11, x12 => if x12 < x11 then (if 0 ≤ x12 then (if x12 < (x10.length : Int) then ((impl_turnCell.f k ((rd_T59 x10 x12).f0) ((rd_T59 x10 x12).f1) x1).bind fun bt1081 => (if x6.length < 8796093022208 then (impl_turnNumbers.l0 k x0 x1 (x6 ++ [(⟨bt1081.1, bt1081.2⟩ : S59)]) x10 x11 (wrap64 (x12 + 1))) else (none))) else (none)) else (none)) else ((impl_normal.f k x6).bind fun t1086 => ((impl_cellsToSet.f k x0 t1086).bind fun bt1089 => (some (bt1089.1, bt1089.2))))
def impl_turnNumbers.f (k : Nat) (l0 : List (S59)) (a1 : Int) : Option (List Int × Bool) := impl_turnNumbers.l0 k l0 a1 (([] : List (S59))) l0 (l0.length : Int) 0
theorem impl_turnNumbers.calls (k : Nat) (A0 : Option Addr) (c0 : Nat) (l0 : List (S59)) (a1 : Int) (r1 : List Int) (r2 : Bool) (w : World) (hr0 : Kd.C k59 w A0 l0.length l0) (hc0 : l0.length ≤ c0) (h : impl_turnNumbers.f k l0 a1 = some (r1, r2)) :
  Calls Try.prog 82 #[.slice A0 l0.length c0, .int .i64 a1] w fun e w' => ∃ v0_ : Value, e = .returned (.tuple #[v0_, .bool r2]) ∧ Kd.R (Kd.int .i64) 2 w' w.heap.size (fun _ => True) v0_ r1 ∧ Below w.heap.size w w' := by
 have hu59 := Try.underlying59
 have HR0 := aM hr0
 have HC0 := aM hc0
 clear hr0 hc0
 have HB := aM (Below.refl w.heap.size w)
 have H : (impl_turnNumbers.l0 k l0 a1 (([] : List (S59))) l0 (l0.length : Int) 0) = some (r1, r2) := h
 clear h
 obtain ⟨y1076, hy1076⟩ : ∃ y_ : List (S59), y_ = (([] : List (S59))) := ⟨_, rfl⟩
 replace H : (impl_turnNumbers.l0 k l0 a1 y1076 l0 (l0.length : Int) 0) = some (r1, r2) := zy H hy1076
 have Ny1076 := aM hy1076
 clear hy1076
 have H' := aM H
 clear H
 go_enter Try.func82, Try.ntmps82
 go_wp2_with (first | ((with_reducible refine gate_dst (N := 9) rfl ?_); refine Kd.R_lit k59 _ 59 ?hg (N := 9) ?hd (xs := ([] : List (S59))) (inner := []) (ok := fun _ => True) (okp := fun _ => True) ?hr ?hp (fun _ hk => hk) trivial (Below.refl _ _) (Nat.le_refl _) (by simp) ?_; (case hd => rfl); (case hg => rfl); (case hr => first | (go_simp; done) | (go_simp; rfl)); (case hp => exact (Reps.none _ _)); intro v1077 w3 ho4 hb hg_ hnew_; clear hg_ hnew_; (first | rw [← Ny1076.out] at ho4 | (simp only [Int.reduceToNat] at ho4; rw [← Ny1076.out] at ho4)); have n0_ := aM (Kd.R_lower ho4 (below_size zb)); have n1_ := aM (below_step zb hb); clear HB; have HO1078 := n0_; have HB := n1_; clear n0_ n1_; clear hb ho4))
 go_loopg [6, 12] k (fun kq v6 v12 w' => ∃ (x6_1 : List (S59)) (x12_1 : Int), v12 = .int .i64 x12_1 ∧ Aside0 (impl_turnNumbers.l0 kq l0 a1 x6_1 l0 (l0.length : Int) x12_1 = some (r1, r2)) ∧ Aside0 (kq ≤ k) ∧ Aside0 (Kd.R k59 59 w' w.heap.size (fun _ => True) v6 x6_1) ∧ Aside0 (Below w.heap.size w w'))
 case atStart => exact ⟨(y1076), (0), zr, H', ⟨Nat.le_refl _⟩, ⟨mR_ HO1078.out⟩, ⟨zb⟩⟩
 case round =>
  clear H'
  try clear p2
  obtain ⟨x6_1, x12_1, rfl, HA, HK1, HO_6, HB⟩ := hrel
  cases gk with
  | zero => exact absurd HA.out (by simp [impl_turnNumbers.l0])
  | succ k1 =>
   have H := HA.out
   clear HA
   simp only [impl_turnNumbers.l0] at H
   by_cases c5 : x12_1 < (l0.length : Int)
   rotate_left
   ·rw [if_neg c5] at H
    have c5b0 : decide (x12_1 < (l0.length : Int)) = false := decide_eq_false c5
    clear c5
    replace H := Option.bind_eq_some_iff.mp H
    obtain ⟨t1086, A140, H⟩ := H
    replace H : ((impl_cellsToSet.f k1 l0 t1086).bind fun bt1089 => (some (bt1089.1, bt1089.2))) = some (r1, r2) := H
    have A14 := aM A140
    clear A140
    replace H := Option.bind_eq_some_iff.mp H
    obtain ⟨⟨t1089, t1090⟩, A150, H⟩ := H
    replace H : (some (t1089, t1090)) = some (r1, r2) := H
    have A15 := aM A150
    clear A150
    simp only [Option.some.injEq, Prod.mk.injEq] at H
    obtain ⟨rfl, rfl⟩ := H
    obtain ⟨Ao16, co16, eo16⟩ := Kd.R_slice HO_6.out
    subst eo16
    go_wp2_with (first | ((with_reducible refine gate_callee (f := 96) rfl ?_); refine goesL_ (some 25) rfl rfl Try.func96 (by kernel_rfl) rfl #[.slice Ao16 x6_1.length co16] rfl zm ?_; (with_reducible refine (impl_normal.calls k1 _ _ x6_1 t1086 _ ?side1 ?side2 A14.out).mono ?_); (case side1 => exact zc HO_6.out); (case side2 => exact (Kd.R_reads' HO_6.out).2.1); rintro e w17 ⟨v1087, rfl, ho0, hb⟩; refine ⟨_, rfl, ?_⟩; have n0_ := aM (Kd.R_elder' (mR_ HO_6.out) (Kd.R_base ho0) hb); have n1_ := aM (Kd.R_lower (Kd.R_new' ho0 (Kd.R_lt (mR_ HO_6.out))) (below_size zb)); have n2_ := aM (below_step zb hb); clear HO_6 HB; have HO_6 := n0_; have HO1088 := n1_; have HB := n2_; clear n0_ n1_ n2_; (try clear hb); (try clear hb2); (try clear hk); (try clear hi); (try clear ho0); obtain ⟨Ao18, co18, eo18⟩ := Kd.R_slice HO1088.out; subst eo18) | ((with_reducible refine gate_callee (f := 120) rfl ?_); refine goesL_ (some 26) rfl rfl Try.func120 (by kernel_rfl) rfl #[.slice A0 l0.length c0, .slice Ao18 t1086.length co18] rfl zm ?_; (with_reducible refine (impl_cellsToSet.calls k1 _ _ l0 _ _ t1086 t1089 t1090 _ ?side1 ?side2 ?side3 ?side4 A15.out).mono ?_); (case side1 => repeat (first | exact (Kd.C_below HR0.out HB.out) | (with_reducible refine Kd.C_alloc ?_ _) | (with_reducible refine Kd.C_drewN ?_ _) | (with_reducible refine Kd.C_drew ?_))); (case side2 => exact HC0.out); (case side3 => exact zc HO1088.out); (case side4 => exact (Kd.R_reads' HO1088.out).2.1); rintro e w19 ⟨v1091, rfl, ho0, hb⟩; refine ⟨_, rfl, ?_⟩; have n0_ := aM (Kd.R_below (mR_ HO_6.out) hb); have n1_ := aM (Kd.R_below (mR_ HO1088.out) hb); have n2_ := aM (Kd.R_lower ho0 (below_size zb)); have n3_ := aM (below_step zb hb); clear HO_6 HO1088 HB; have HO_6 := n0_; have HO1088 := n1_; have HO1092 := n2_; have HB := n3_; clear n0_ n1_ n2_ n3_; (try clear hb); (try clear hb2); (try clear hk); (try clear hi); (try clear ho0)))
    go_ret2
    exact ⟨_, zw, mR_ HO1092.out, zb⟩
   rw [if_pos c5] at H
   have c5b0 : decide (x12_1 < (l0.length : Int)) = true := decide_eq_true c5
   clear c5
   by_cases c6 : 0 ≤ x12_1
   rotate_left
   ·rw [if_neg c6] at H
    exact absurd H (by simp)
   rw [if_pos c6] at H
   have c6b0 : decide (0 ≤ x12_1) = true := decide_eq_true c6
   clear c6
   by_cases c7 : x12_1 < (l0.length : Int)
   rotate_left
   ·rw [if_neg c7] at H
    exact absurd H (by simp)
   rw [if_pos c7] at H
   have c7b0 : decide (x12_1 < (l0.length : Int)) = true := decide_eq_true c7
   clear c7
   replace H := Option.bind_eq_some_iff.mp H
   obtain ⟨⟨t1081, t1082⟩, A80, H⟩ := H
   replace H : (if x6_1.length < 8796093022208 then (impl_turnNumbers.l0 k1 l0 a1 (x6_1 ++ [(⟨t1081, t1082⟩ : S59)]) l0 (l0.length : Int) (wrap64 (x12_1 + 1))) else (none)) = some (r1, r2) := H
   have A8 := aM A80
   clear A80
   by_cases c9 : x6_1.length < 8796093022208
   rotate_left
   ·rw [if_neg c9] at H
    exact absurd H (by simp)
   rw [if_pos c9] at H
   have LMc9 := aM c9
   clear c9
   obtain ⟨y1083, hy1083⟩ : ∃ y_ : List (S59), y_ = (x6_1 ++ [(⟨t1081, t1082⟩ : S59)]) := ⟨_, rfl⟩
   replace H : (impl_turnNumbers.l0 k1 l0 a1 y1083 l0 (l0.length : Int) (wrap64 (x12_1 + 1))) = some (r1, r2) := zy H hy1083
   have Ny1083 := aM hy1083
   clear hy1083
   have H' := aM H
   clear H
   have p1079 : 0 ≤ (x12_1 : Int) := of_decide_eq_true za
   have q1079 : x12_1 < (l0.length : Int) := of_decide_eq_true za
   obtain ⟨ad1079, e1079, hx1079_0, hx1079_1⟩ := at_T59 HR0.out x12_1 p1079 q1079
   cases e1079
   replace hx1079_0 := zk HB.out hx1079_0
   replace hx1079_1 := zk HB.out hx1079_1
   replace p1079 := eq_true p1079
   replace q1079 := eq_true q1079
   go_wp2_with (first | ((with_reducible refine gate_dst (N := 8) rfl ?_); refine zx 8 #[.int .i64 0, .int .i64 0] 59 ?_; intro gb1080 hg w10 hbox hb; have n0_ := aM (Kd.R_below (Kd.R_elderB (mR_ HO_6.out) gb1080 (Nat.le_of_eq hg.symm)) hb); have n1_ := aM (below_step zb hb); have n2_ := aM (hbox); have n3_ := aM ((ze : w.heap.size ≤ gb1080)); have n4_ := aM ((ze : w.heap.size ≤ gb1080)); clear HO_6 HB; have HO_6 := n0_; have HB := n1_; have BK1080 := n2_; have GW1080 := n3_; have GE1080 := n4_; clear n0_ n1_ n2_ n3_ n4_ hb hbox hg; have hcz11_0 : w10.cell? ⟨gb1080, 0, none⟩ = some (.int .i64 0) := (blk_cell BK1080.out 0).trans rfl; have hcz11_1 : w10.cell? ⟨gb1080, 1, none⟩ = some (.int .i64 0) := (blk_cell BK1080.out 1).trans rfl; have hfz11_0 := blk_frozen BK1080.out 0; have hfz11_1 := blk_frozen BK1080.out 1) | ((with_reducible refine gate_callee (f := 108) rfl ?_); refine goesL_ (some 19) rfl rfl Try.func108 (by kernel_rfl) rfl #[.agg #[.int .i64 ((rd_T59 l0 x12_1).f0), .int .i64 ((rd_T59 l0 x12_1).f1)], .int .i64 a1] rfl zm ?_; (with_reducible refine (impl_turnCell.calls k1 ((rd_T59 l0 x12_1).f0) ((rd_T59 l0 x12_1).f1) a1 t1081 t1082 _ A8.out).mono ?_); rintro e w12 ⟨rfl, hb⟩; refine ⟨_, rfl, ?_⟩; have n0_ := aM (Kd.R_below (by (with_reducible repeat (first | apply Kd.R_alloc | apply Kd.R_drewN | apply Kd.R_drew)); exact (Kd.R_mono (Kd.R_far (p := ⟨gb1080, 1, none⟩) (Kd.R_far (p := ⟨gb1080, 0, none⟩) (Kd.R_mono HO_6.out (fun k_ hk => (⟨hk, hk.2⟩ : _ ∧ k_ ≠ gb1080))) (fun _ hk => hk.2) (.int .i64 ((rd_T59 l0 x12_1).f0))) (fun _ hk => hk.2) (.int .i64 ((rd_T59 l0 x12_1).f1))) (fun _ h_ => h_.1))) hb); have n1_ := aM (blk_below (g := gb1080) (o := .cells #[.int .i64 ((rd_T59 l0 x12_1).f0), .int .i64 ((rd_T59 l0 x12_1).f1)] 59 (0, 0)) (by (with_reducible repeat (first | refine blk_drewN ?_ _ | refine blk_drew ?_ | refine blk_alloc ?_ _)); refine blk_put (cs := #[.int .i64 ((rd_T59 l0 x12_1).f0), .int .i64 0]) ?_ 1 _ rfl; (with_reducible repeat (first | refine blk_drewN ?_ _ | refine blk_drew ?_ | refine blk_alloc ?_ _)); refine blk_put (cs := #[.int .i64 0, .int .i64 0]) ?_ 0 _ rfl; (with_reducible repeat (first | refine blk_drewN ?_ _ | refine blk_drew ?_ | refine blk_alloc ?_ _)); exact BK1080.out) hb); have n2_ := aM (below_step (zs GE1080.out) hb); clear HO_6 BK1080 HB; have HO_6 := n0_; have BK1080 := n1_; have HB := n2_; clear n0_ n1_ n2_; (try clear hb); (try clear hb2); (try clear hk); (try clear hi)) | ((with_reducible refine gate_builtin (b := .append) (xs := #[.tmp 16, .tmp 20]) rfl ?_); at_builtin; refine Kd.R_append k59 (w0 := w) w.heap.size rfl (.tmp 16) (.tmp 20) 24 59 (.agg #[(.int .i64 0), (.int .i64 0)]) 16 rfl Try.underlying24 info59 rfl (by decide) (by omega) u6 x6_1 (⟨t1081, t1082⟩ : S59) [.int .i64 t1081, .int .i64 t1082] (fun k_ => k_ ≠ gb1080) (fun _ => False) rfl rfl ?aP (fun _ hk => hk.elim) ?aF ?aO ?aB ?aS ?aL ?_; (case aP => exact k59_mkM _ _ _ (⟨t1081, t1082⟩ : S59)); (case aB => exact (zs GE1080.out)); (case aF => exact (fun k_ hk => Kd.freshB (g := gb1080) (o := .cells #[.int .i64 ((rd_T59 l0 x12_1).f0), .int .i64 ((rd_T59 l0 x12_1).f1)] 59 (0, 0)) (mB_ BK1080.out) k_ hk)); (case aO => exact (zd1 HO_6.out)); (case aS => exact (below_size (zs GE1080.out))); (case aL => have := LMc9.out; omega); intro v1084 w13 ho hb hg hat; rw [← Ny1083.out] at ho; have n0_ := aM (blk_grown (g := gb1080) (o := .cells #[.int .i64 ((rd_T59 l0 x12_1).f0), .int .i64 ((rd_T59 l0 x12_1).f1)] 59 (0, 0)) (mB_ BK1080.out) hg (Kd.R_away HO_6.out (fun _ hk => hk.2))); have n1_ := aM (hb); have n2_ := aM (ho); clear BK1080 HB HO_6; have BK1080 := n0_; have HB := n1_; have HO1085 := n2_; clear n0_ n1_ n2_; clear ho hb hg hat))
   go_roundg k1
   case measure => have := HK1.out; omega
   case rel => exact ⟨(y1083), (wrap64 (x12_1 + 1)), zr, H', ⟨by have := HK1.out; omega⟩, ⟨zd0 HO1085.out⟩, ⟨zs GE1080.out⟩⟩
def impl_TurnNumbers.f (k : Nat) (l0 : List (S59)) (a1 : Int) : Option (List Int × Int) := (impl_IsRegion.f k l0).bind fun t1093 => (if t1093 = true then ((impl_isTurn.f a1).bind fun t1094 => (if t1094 = true then ((impl_turnNumbers.f k l0 a1).bind fun bt1095 => (if bt1095.2 = true then (some (bt1095.1, 0)) else (some (([] : List Int), 5)))) else (some (([] : List Int), 2)))) else (some (([] : List Int), 1)))
theorem impl_TurnNumbers.calls (k : Nat) (A0 : Option Addr) (c0 : Nat) (l0 : List (S59)) (a1 : Int) (r1 : List Int) (r2 : Int) (w : World) (hr0 : Kd.C k59 w A0 l0.length l0) (hc0 : l0.length ≤ c0) (h : impl_TurnNumbers.f k l0 a1 = some (r1, r2)) :
  Calls Try.prog 38 #[.slice A0 l0.length c0, .int .i64 a1] w fun e w' => ∃ v0_ : Value, e = .returned (.tuple #[v0_, .int .i64 r2]) ∧ Kd.R (Kd.int .i64) 2 w' w.heap.size (fun _ => True) v0_ r1 ∧ Below w.heap.size w w' := by
 have HR0 := aM hr0
 have HC0 := aM hc0
 clear hr0 hc0
 have HB := aM (Below.refl w.heap.size w)
 have H : ((impl_IsRegion.f k l0).bind fun t1093 => (if t1093 = true then ((impl_isTurn.f a1).bind fun t1094 => (if t1094 = true then ((impl_turnNumbers.f k l0 a1).bind fun bt1095 => (if bt1095.2 = true then (some (bt1095.1, 0)) else (some (([] : List Int), 5)))) else (some (([] : List Int), 2)))) else (some (([] : List Int), 1)))) = some (r1, r2) := h
 clear h
 replace H := Option.bind_eq_some_iff.mp H
 obtain ⟨t1093, A30, H⟩ := H
 replace H : (if t1093 = true then ((impl_isTurn.f a1).bind fun t1094 => (if t1094 = true then ((impl_turnNumbers.f k l0 a1).bind fun bt1095 => (if bt1095.2 = true then (some (bt1095.1, 0)) else (some (([] : List Int), 5)))) else (some (([] : List Int), 2)))) else (some (([] : List Int), 1))) = some (r1, r2) := H
 have A3 := aM A30
 clear A30
 by_cases c4 : t1093 = true
 rotate_left
 ·replace c4 := Bool.eq_false_iff.mpr c4
  subst c4
  have H1 : (some (([] : List Int), 1)) = some (r1, r2) := by rw [if_neg (show ¬ (false = true) by decide)] at H; exact H
  clear H
  have H := H1
  clear H1
  simp only [Option.some.injEq, Prod.mk.injEq] at H
  obtain ⟨rfl, rfl⟩ := H
  go_enter Try.func38, Try.ntmps38
  go_wp2_with (first | ((with_reducible refine gate_callee (f := 81) rfl ?_); refine goesL_ (some 9) rfl rfl Try.func81 (by kernel_rfl) rfl #[.slice A0 l0.length c0] rfl zm ?_; (with_reducible refine (impl_IsRegion.calls k _ _ l0 false _ ?side1 ?side2 A3.out).mono ?_); (case side1 => repeat (first | exact HR0.out | (with_reducible refine Kd.C_alloc ?_ _) | (with_reducible refine Kd.C_drewN ?_ _) | (with_reducible refine Kd.C_drew ?_))); (case side2 => exact HC0.out); rintro e w14 ⟨rfl, hb⟩; refine ⟨_, rfl, ?_⟩; have n0_ := aM (below_step zb hb); clear HB; have HB := n0_; clear n0_; (try clear hb); (try clear hb2); (try clear hk); (try clear hi)))
  go_ret2
  exact ⟨_, zw, by first | exact Kd.R_nil _ _ _ _ _ | exact Kd.N_nil _ _ _ _ _ | exact Kd.V_nil _ _ _ _ _ | exact Kd.Q_nil _ _ _ _ _ | exact Kd.S_nil _ _ _ _ _, zb⟩
 subst c4
 have H1 : ((impl_isTurn.f a1).bind fun t1094 => (if t1094 = true then ((impl_turnNumbers.f k l0 a1).bind fun bt1095 => (if bt1095.2 = true then (some (bt1095.1, 0)) else (some (([] : List Int), 5)))) else (some (([] : List Int), 2)))) = some (r1, r2) := by rw [if_pos rfl] at H; exact H
 clear H
 have H := H1
 clear H1
 replace H := Option.bind_eq_some_iff.mp H
 obtain ⟨t1094, A50, H⟩ := H
 replace H : (if t1094 = true then ((impl_turnNumbers.f k l0 a1).bind fun bt1095 => (if bt1095.2 = true then (some (bt1095.1, 0)) else (some (([] : List Int), 5)))) else (some (([] : List Int), 2))) = some (r1, r2) := H
 have A5 := aM A50
 clear A50
 by_cases c6 : t1094 = true
 rotate_left
 ·replace c6 := Bool.eq_false_iff.mpr c6
  subst c6
  have H1 : (some (([] : List Int), 2)) = some (r1, r2) := by rw [if_neg (show ¬ (false = true) by decide)] at H; exact H
  clear H
  have H := H1
  clear H1
  simp only [Option.some.injEq, Prod.mk.injEq] at H
  obtain ⟨rfl, rfl⟩ := H
  go_enter Try.func38, Try.ntmps38
  go_wp2_with (first | ((with_reducible refine gate_callee (f := 81) rfl ?_); refine goesL_ (some 9) rfl rfl Try.func81 (by kernel_rfl) rfl #[.slice A0 l0.length c0] rfl zm ?_; (with_reducible refine (impl_IsRegion.calls k _ _ l0 true _ ?side1 ?side2 A3.out).mono ?_); (case side1 => repeat (first | exact HR0.out | (with_reducible refine Kd.C_alloc ?_ _) | (with_reducible refine Kd.C_drewN ?_ _) | (with_reducible refine Kd.C_drew ?_))); (case side2 => exact HC0.out); rintro e w13 ⟨rfl, hb⟩; refine ⟨_, rfl, ?_⟩; have n0_ := aM (below_step zb hb); clear HB; have HB := n0_; clear n0_; (try clear hb); (try clear hb2); (try clear hk); (try clear hi)) | ((with_reducible refine gate_callee (f := 68) rfl ?_); refine goesL_ (some 12) rfl rfl Try.func68 (by kernel_rfl) rfl #[.int .i64 a1] rfl zm ?_; (with_reducible refine (impl_isTurn.calls a1 false _ A5.out).mono ?_); rintro e w' ⟨rfl, ⟨nd, rfl⟩⟩; refine ⟨_, rfl, ?_⟩))
  go_ret2
  exact ⟨_, zw, by first | exact Kd.R_nil _ _ _ _ _ | exact Kd.N_nil _ _ _ _ _ | exact Kd.V_nil _ _ _ _ _ | exact Kd.Q_nil _ _ _ _ _ | exact Kd.S_nil _ _ _ _ _, zb⟩
 subst c6
 have H1 : ((impl_turnNumbers.f k l0 a1).bind fun bt1095 => (if bt1095.2 = true then (some (bt1095.1, 0)) else (some (([] : List Int), 5)))) = some (r1, r2) := by rw [if_pos rfl] at H; exact H
 clear H
 have H := H1
 clear H1
 replace H := Option.bind_eq_some_iff.mp H
 obtain ⟨⟨t1095, t1096⟩, A70, H⟩ := H
 replace H : (if t1096 = true then (some (t1095, 0)) else (some (([] : List Int), 5))) = some (r1, r2) := H
 have A7 := aM A70
 clear A70
 by_cases c8 : t1096 = true
 ·subst c8
  have H1 : (some (t1095, 0)) = some (r1, r2) := by rw [if_pos rfl] at H; exact H
  clear H
  have H := H1
  clear H1
  simp only [Option.some.injEq, Prod.mk.injEq] at H
  obtain ⟨rfl, rfl⟩ := H
  go_enter Try.func38, Try.ntmps38
  go_wp2_with (first | ((with_reducible refine gate_callee (f := 81) rfl ?_); refine goesL_ (some 9) rfl rfl Try.func81 (by kernel_rfl) rfl #[.slice A0 l0.length c0] rfl zm ?_; (with_reducible refine (impl_IsRegion.calls k _ _ l0 true _ ?side1 ?side2 A3.out).mono ?_); (case side1 => repeat (first | exact HR0.out | (with_reducible refine Kd.C_alloc ?_ _) | (with_reducible refine Kd.C_drewN ?_ _) | (with_reducible refine Kd.C_drew ?_))); (case side2 => exact HC0.out); rintro e w9 ⟨rfl, hb⟩; refine ⟨_, rfl, ?_⟩; have n0_ := aM (below_step zb hb); clear HB; have HB := n0_; clear n0_; (try clear hb); (try clear hb2); (try clear hk); (try clear hi)) | ((with_reducible refine gate_callee (f := 68) rfl ?_); refine goesL_ (some 12) rfl rfl Try.func68 (by kernel_rfl) rfl #[.int .i64 a1] rfl zm ?_; (with_reducible refine (impl_isTurn.calls a1 true _ A5.out).mono ?_); rintro e w' ⟨rfl, ⟨nd, rfl⟩⟩; refine ⟨_, rfl, ?_⟩) | ((with_reducible refine gate_callee (f := 82) rfl ?_); refine goesL_ (some 17) rfl rfl Try.func82 (by kernel_rfl) rfl #[.slice A0 l0.length c0, .int .i64 a1] rfl zm ?_; (with_reducible refine (impl_turnNumbers.calls k _ _ l0 a1 t1095 true _ ?side1 ?side2 A7.out).mono ?_); (case side1 => repeat (first | exact (Kd.C_below HR0.out zb) | (with_reducible refine Kd.C_alloc ?_ _) | (with_reducible refine Kd.C_drewN ?_ _) | (with_reducible refine Kd.C_drew ?_))); (case side2 => exact HC0.out); rintro e w10 ⟨v1097, rfl, ho0, hb⟩; refine ⟨_, rfl, ?_⟩; have n0_ := aM (Kd.R_lower ho0 (below_size zb)); have n1_ := aM (below_step zb hb); clear HB; have HO1098 := n0_; have HB := n1_; clear n0_ n1_; (try clear hb); (try clear hb2); (try clear hk); (try clear hi); (try clear ho0)))
  go_ret2
  exact ⟨_, zw, mR_ HO1098.out, zb⟩
 replace c8 := Bool.eq_false_iff.mpr c8
 subst c8
 have H1 : (some (([] : List Int), 5)) = some (r1, r2) := by rw [if_neg (show ¬ (false = true) by decide)] at H; exact H
 clear H
 have H := H1
 clear H1
 simp only [Option.some.injEq, Prod.mk.injEq] at H
 obtain ⟨rfl, rfl⟩ := H
 go_enter Try.func38, Try.ntmps38
 go_wp2_with (first | ((with_reducible refine gate_callee (f := 81) rfl ?_); refine goesL_ (some 9) rfl rfl Try.func81 (by kernel_rfl) rfl #[.slice A0 l0.length c0] rfl zm ?_; (with_reducible refine (impl_IsRegion.calls k _ _ l0 true _ ?side1 ?side2 A3.out).mono ?_); (case side1 => repeat (first | exact HR0.out | (with_reducible refine Kd.C_alloc ?_ _) | (with_reducible refine Kd.C_drewN ?_ _) | (with_reducible refine Kd.C_drew ?_))); (case side2 => exact HC0.out); rintro e w11 ⟨rfl, hb⟩; refine ⟨_, rfl, ?_⟩; have n0_ := aM (below_step zb hb); clear HB; have HB := n0_; clear n0_; (try clear hb); (try clear hb2); (try clear hk); (try clear hi)) | ((with_reducible refine gate_callee (f := 68) rfl ?_); refine goesL_ (some 12) rfl rfl Try.func68 (by kernel_rfl) rfl #[.int .i64 a1] rfl zm ?_; (with_reducible refine (impl_isTurn.calls a1 true _ A5.out).mono ?_); rintro e w' ⟨rfl, ⟨nd, rfl⟩⟩; refine ⟨_, rfl, ?_⟩) | ((with_reducible refine gate_callee (f := 82) rfl ?_); refine goesL_ (some 17) rfl rfl Try.func82 (by kernel_rfl) rfl #[.slice A0 l0.length c0, .int .i64 a1] rfl zm ?_; (with_reducible refine (impl_turnNumbers.calls k _ _ l0 a1 t1095 false _ ?side1 ?side2 A7.out).mono ?_); (case side1 => repeat (first | exact (Kd.C_below HR0.out zb) | (with_reducible refine Kd.C_alloc ?_ _) | (with_reducible refine Kd.C_drewN ?_ _) | (with_reducible refine Kd.C_drew ?_))); (case side2 => exact HC0.out); rintro e w12 ⟨v1097, rfl, ho0, hb⟩; refine ⟨_, rfl, ?_⟩; have n0_ := aM (Kd.R_lower ho0 (below_size zb)); have n1_ := aM (below_step zb hb); clear HB; have HO1098 := n0_; have HB := n1_; clear n0_ n1_; (try clear hb); (try clear hb2); (try clear hk); (try clear hi); (try clear ho0)))
 go_ret2
 exact ⟨_, zw, by first | exact Kd.R_nil _ _ _ _ _ | exact Kd.N_nil _ _ _ _ _ | exact Kd.V_nil _ _ _ _ _ | exact Kd.Q_nil _ _ _ _ _ | exact Kd.S_nil _ _ _ _ _, zb⟩
end Go.Proofs.Ytfdfdifjkaaeoaa.F
end
section
namespace Go.Proofs.Ytfdfdifjkaaeoaa.F
open Go.RowKit Go.Proofs.YtfdfdifjkaaeoaaW.PrintWords Go.Proofs.YtfdfdifjkaaeoaaW.PrintLast Go.Proofs.YtfdfdifjkaaeoaaW.PrintMore
attribute [local go_sem] max2_int min2_int max_two min_two max_three min_three max_four min_four
set_option linter.unusedVariables false
set_option linter.unusedSimpArgs false
attribute [local go_sem high] eqA59
def impl_Cell_104.l0 : Nat → List (S59) → Int → Int → Int → Int → Option (Int)
 | 0, _, _, _, _, _ => none
 | k + 1, x0, x7, x8, x296000, x296001 => if x8 < x7 then (if 0 ≤ x8 then (if x8 < (x0.length : Int) then (if (x296000 == ((rd_T59 x0 x8).f0) && (x296001 == ((rd_T59 x0 x8).f1))) = true then (some x8) else (impl_Cell_104.l0 k x0 x7 (wrap64 (x8 + 1)) x296000 x296001)) else (none)) else (none)) else (some (-1))
def impl_Cell_104.f (k : Nat) (l0 : List (S59)) (a1_0 : Int) (a1_1 : Int) : Option (Int) := impl_Cell_104.l0 k l0 (l0.length : Int) 0 a1_0 a1_1
theorem impl_Cell_104.calls (k : Nat) (A0 : Option Addr) (c0 : Nat) (l0 : List (S59)) (a1_0 : Int) (a1_1 : Int) (r : Int) (w : World) (hr0 : Kd.C k59 w A0 l0.length l0) (hc0 : l0.length ≤ c0) (h : impl_Cell_104.f k l0 a1_0 a1_1 = some r) :
  Calls Try.prog 104 #[.slice A0 l0.length c0, .agg #[.int .i64 a1_0, .int .i64 a1_1]] w fun e w' => e = .returned (.int .i64 r) ∧ Below w.heap.size w w' := by
 have hu59 := Try.underlying59
 have HR0 := aM hr0
 have HC0 := aM hc0
 clear hr0 hc0
 have HB := aM (Below.refl w.heap.size w)
 have H : (impl_Cell_104.l0 k l0 (l0.length : Int) 0 a1_0 a1_1) = some r := h
 clear h
 have H' := aM H
 clear H
 go_enter Try.func104, Try.ntmps104
 go_wp2_with (first | ((with_reducible refine gate_dst (N := 3) rfl ?_); refine zx 3 #[.int .i64 a1_0, .int .i64 a1_1] 59 ?_; intro gb295 hg w3 hbox hb; have n0_ := aM (below_step zb hb); have n1_ := aM (hbox); have n2_ := aM ((ze : w.heap.size ≤ gb295)); have n3_ := aM ((ze : w.heap.size ≤ gb295)); clear HB; have HB := n0_; have BK295 := n1_; have GW295 := n2_; have GE295 := n3_; clear n0_ n1_ n2_ n3_; clear hb hbox hg))
 repeat (go_quiet (first | ((with_reducible refine gate_dst (N := 3) rfl ?_); refine zx 3 #[.int .i64 a1_0, .int .i64 a1_1] 59 ?_; intro gb295 hg w3 hbox hb; have n0_ := aM (below_step zb hb); have n1_ := aM (hbox); have n2_ := aM ((ze : w.heap.size ≤ gb295)); have n3_ := aM ((ze : w.heap.size ≤ gb295)); clear HB; have HB := n0_; have BK295 := n1_; have GW295 := n2_; have GE295 := n3_; clear n0_ n1_ n2_ n3_; clear hb hbox hg)); try go_wp2_with (first | ((with_reducible refine gate_dst (N := 3) rfl ?_); refine zx 3 #[.int .i64 a1_0, .int .i64 a1_1] 59 ?_; intro gb295 hg w3 hbox hb; have n0_ := aM (below_step zb hb); have n1_ := aM (hbox); have n2_ := aM ((ze : w.heap.size ≤ gb295)); have n3_ := aM ((ze : w.heap.size ≤ gb295)); clear HB; have HB := n0_; have BK295 := n1_; have GW295 := n2_; have GE295 := n3_; clear n0_ n1_ n2_ n3_; clear hb hbox hg)))
 go_loopg [8] k (fun kq v8 w' => ∃ (x8_1 : Int), v8 = .int .i64 x8_1 ∧ Aside0 (impl_Cell_104.l0 kq l0 (l0.length : Int) x8_1 a1_0 a1_1 = some r) ∧ Aside0 (kq ≤ k) ∧ Aside0 (w'.heap[gb295]? = some (.cells #[.int .i64 a1_0, .int .i64 a1_1] 59 (0, 0))) ∧ Aside0 (Below w.heap.size w w'))
 case atStart => exact ⟨(0), zr, H', ⟨Nat.le_refl _⟩, ⟨mB_ BK295.out⟩, ⟨zs GE295.out⟩⟩
 case round =>
  clear H'
  try clear c1
  try clear p2
  obtain ⟨x8_1, rfl, HA, HK1, BK295, HB⟩ := hrel
  cases gk with
  | zero => exact absurd HA.out (by simp [impl_Cell_104.l0])
  | succ k1 =>
   have H := HA.out
   clear HA
   simp only [impl_Cell_104.l0] at H
   by_cases c4 : x8_1 < (l0.length : Int)
   rotate_left
   ·rw [if_neg c4] at H
    have c4b0 : decide (x8_1 < (l0.length : Int)) = false := decide_eq_false c4
    clear c4
    obtain rfl := Option.some.inj H
    go_wp2
    repeat (go_quiet (fail); try go_wp2)
    go_ret
    exact ⟨zw, zs GE295.out⟩
   rw [if_pos c4] at H
   have c4b0 : decide (x8_1 < (l0.length : Int)) = true := decide_eq_true c4
   clear c4
   by_cases c5 : 0 ≤ x8_1
   rotate_left
   ·rw [if_neg c5] at H
    exact absurd H (by simp)
   rw [if_pos c5] at H
   have c5b0 : decide (0 ≤ x8_1) = true := decide_eq_true c5
   clear c5
   by_cases c6 : x8_1 < (l0.length : Int)
   rotate_left
   ·rw [if_neg c6] at H
    exact absurd H (by simp)
   rw [if_pos c6] at H
   have c6b0 : decide (x8_1 < (l0.length : Int)) = true := decide_eq_true c6
   clear c6
   by_cases c7 : (a1_0 == ((rd_T59 l0 x8_1).f0) && (a1_1 == ((rd_T59 l0 x8_1).f1))) = true
   ·rw [if_pos c7] at H
    have c7b0 : (a1_0 == ((rd_T59 l0 x8_1).f0) && (a1_1 == ((rd_T59 l0 x8_1).f1))) = true := c7
    (try (have c7b1 : decide (a1_0 = ((rd_T59 l0 x8_1).f0) && (a1_1 == ((rd_T59 l0 x8_1).f1))) = true := by simpa using c7))
    (try (have c7b2 : (a1_0 == ((rd_T59 l0 x8_1).f0) && (a1_1 == ((rd_T59 l0 x8_1).f1))) = true := by simpa using c7))
    clear c7
    obtain rfl := Option.some.inj H
    have hcz8_0 : wr.cell? ⟨gb295, 0, none⟩ = some (.int .i64 a1_0) := (blk_cell BK295.out 0).trans rfl
    have hcz8_1 : wr.cell? ⟨gb295, 1, none⟩ = some (.int .i64 a1_1) := (blk_cell BK295.out 1).trans rfl
    have hfz8_0 := blk_frozen BK295.out 0
    have hfz8_1 := blk_frozen BK295.out 1
    have p296 : 0 ≤ (x8_1 : Int) := of_decide_eq_true za
    have q296 : x8_1 < (l0.length : Int) := of_decide_eq_true za
    obtain ⟨ad296, e296, hx296_0, hx296_1⟩ := at_T59 HR0.out x8_1 p296 q296
    cases e296
    replace hx296_0 := zk HB.out hx296_0
    replace hx296_1 := zk HB.out hx296_1
    replace p296 := eq_true p296
    replace q296 := eq_true q296
    go_wp2
    repeat (go_quiet (fail); try go_wp2)
    go_ret
    exact ⟨zw, zs GE295.out⟩
   rw [if_neg c7] at H
   have c7b0 : (a1_0 == ((rd_T59 l0 x8_1).f0) && (a1_1 == ((rd_T59 l0 x8_1).f1))) = false := by simpa using c7
   (try (have c7b1 : decide (a1_0 = ((rd_T59 l0 x8_1).f0) && (a1_1 == ((rd_T59 l0 x8_1).f1))) = false := by simpa using c7))
   (try (have c7b2 : (a1_0 == ((rd_T59 l0 x8_1).f0) && (a1_1 == ((rd_T59 l0 x8_1).f1))) = false := by simpa using c7))
   (try (have c7b3 : ¬ (a1_0 = ((rd_T59 l0 x8_1).f0) && (a1_1 == ((rd_T59 l0 x8_1).f1))) := by simpa using c7))
   clear c7
   have H' := aM H
   clear H
   have hcz9_0 : wr.cell? ⟨gb295, 0, none⟩ = some (.int .i64 a1_0) := (blk_cell BK295.out 0).trans rfl
   have hcz9_1 : wr.cell? ⟨gb295, 1, none⟩ = some (.int .i64 a1_1) := (blk_cell BK295.out 1).trans rfl
   have hfz9_0 := blk_frozen BK295.out 0
   have hfz9_1 := blk_frozen BK295.out 1
   have p296 : 0 ≤ (x8_1 : Int) := of_decide_eq_true za
   have q296 : x8_1 < (l0.length : Int) := of_decide_eq_true za
   obtain ⟨ad296, e296, hx296_0, hx296_1⟩ := at_T59 HR0.out x8_1 p296 q296
   cases e296
   replace hx296_0 := zk HB.out hx296_0
   replace hx296_1 := zk HB.out hx296_1
   replace p296 := eq_true p296
   replace q296 := eq_true q296
   go_wp2
   repeat (go_quiet (fail); try go_wp2)
   go_roundg k1
   case measure => have := HK1.out; omega
   case rel => exact ⟨(wrap64 (x8_1 + 1)), zr, H', ⟨by have := HK1.out; omega⟩, ⟨mB_ BK295.out⟩, ⟨zs GE295.out⟩⟩
def impl_Cell_65.f (k : Nat) (l0 : List (S59)) (a1_0 : Int) (a1_1 : Int) : Option (Bool) := (impl_Cell_104.f k l0 a1_0 a1_1).bind fun t298 => (some (decide (t298 ≥ 0)))
theorem impl_Cell_65.calls (k : Nat) (A0 : Option Addr) (c0 : Nat) (l0 : List (S59)) (a1_0 : Int) (a1_1 : Int) (r : Bool) (w : World) (hr0 : Kd.C k59 w A0 l0.length l0) (hc0 : l0.length ≤ c0) (h : impl_Cell_65.f k l0 a1_0 a1_1 = some r) :
  Calls Try.prog 65 #[.slice A0 l0.length c0, .agg #[.int .i64 a1_0, .int .i64 a1_1]] w fun e w' => e = .returned (.bool r) ∧ Below w.heap.size w w' := by
 have hu59 := Try.underlying59
 have HR0 := aM hr0
 have HC0 := aM hc0
 clear hr0 hc0
 have HB := aM (Below.refl w.heap.size w)
 have H : ((impl_Cell_104.f k l0 a1_0 a1_1).bind fun t298 => (some (decide (t298 ≥ 0)))) = some r := h
 clear h
 replace H := Option.bind_eq_some_iff.mp H
 obtain ⟨t298, A30, H⟩ := H
 replace H : (some (decide (t298 ≥ 0))) = some r := H
 have A3 := aM A30
 clear A30
 obtain rfl := Option.some.inj H
 go_enter Try.func65, Try.ntmps65
 go_wp2_with (first | ((with_reducible refine gate_dst (N := 3) rfl ?_); refine zx 3 #[.int .i64 a1_0, .int .i64 a1_1] 59 ?_; intro gb297 hg w4 hbox hb; have n0_ := aM (below_step zb hb); have n1_ := aM (hbox); have n2_ := aM ((ze : w.heap.size ≤ gb297)); have n3_ := aM ((ze : w.heap.size ≤ gb297)); clear HB; have HB := n0_; have BK297 := n1_; have GW297 := n2_; have GE297 := n3_; clear n0_ n1_ n2_ n3_ hb hbox hg; have hcz5_0 : w4.cell? ⟨gb297, 0, none⟩ = some (.int .i64 a1_0) := (blk_cell BK297.out 0).trans rfl; have hcz5_1 : w4.cell? ⟨gb297, 1, none⟩ = some (.int .i64 a1_1) := (blk_cell BK297.out 1).trans rfl; have hfz5_0 := blk_frozen BK297.out 0; have hfz5_1 := blk_frozen BK297.out 1) | ((with_reducible refine gate_callee (f := 104) rfl ?_); refine goesL_ (some 7) rfl rfl Try.func104 (by kernel_rfl) rfl #[.slice A0 l0.length c0, .agg #[.int .i64 a1_0, .int .i64 a1_1]] rfl zm ?_; (with_reducible refine (impl_Cell_104.calls k _ _ l0 a1_0 a1_1 t298 _ ?side1 ?side2 A3.out).mono ?_); (case side1 => repeat (first | exact (Kd.C_below HR0.out HB.out) | (with_reducible refine Kd.C_alloc ?_ _) | (with_reducible refine Kd.C_drewN ?_ _) | (with_reducible refine Kd.C_drew ?_))); (case side2 => exact HC0.out); rintro e w6 ⟨rfl, hb⟩; refine ⟨_, rfl, ?_⟩; have n0_ := aM (blk_below (g := gb297) (o := .cells #[.int .i64 a1_0, .int .i64 a1_1] 59 (0, 0)) (mB_ BK297.out) hb); have n1_ := aM (below_step (zs GE297.out) hb); clear BK297 HB; have BK297 := n0_; have HB := n1_; clear n0_ n1_; (try clear hb); (try clear hb2); (try clear hk); (try clear hi)))
 go_ret
 exact ⟨zw, zs GE297.out⟩
end Go.Proofs.Ytfdfdifjkaaeoaa.F
end
section
namespace Go.Proofs.Ytfdfdifjkaaeoaa.F
open Go.RowKit Go.Proofs.YtfdfdifjkaaeoaaW.PrintWords Go.Proofs.YtfdfdifjkaaeoaaW.PrintLast Go.Proofs.YtfdfdifjkaaeoaaW.PrintMore
attribute [local go_sem] max2_int min2_int max_two min_two max_three min_three max_four min_four
set_option linter.unusedVariables false
set_option linter.unusedSimpArgs false
def spec_l03Is.f (a0 : Int) : Option (Bool) := (spec_l01In.f a0 0 7).bind fun t1099 => (some t1099)
theorem spec_l03Is.calls (a0 : Int) (r : Bool) (w : World) (h : spec_l03Is.f a0 = some r) :
  Calls Try.prog 83 #[.int .i64 a0] w fun e w' => e = .returned (.bool r) ∧ Drawn0 w w' := by
 have H : ((spec_l01In.f a0 0 7).bind fun t1099 => (some t1099)) = some r := h
 clear h
 replace H := Option.bind_eq_some_iff.mp H
 obtain ⟨t1099, A20, H⟩ := H
 replace H : (some t1099) = some r := H
 have A2 := aM A20
 clear A20
 obtain rfl := Option.some.inj H
 go_enter Try.func83, Try.ntmps83
 go_wp2_with (first | ((with_reducible refine gate_callee (f := 107) rfl ?_); refine goesL_ (some 4) rfl rfl Try.func107 (by kernel_rfl) rfl #[.int .i64 a0, .int .i64 0, .int .i64 7] rfl zm ?_; (with_reducible refine (spec_l01In.calls a0 0 7 t1099 _ A2.out).mono ?_); rintro e w' ⟨rfl, ⟨nd, rfl⟩⟩; refine ⟨_, rfl, ?_⟩))
 go_ret
 exact ⟨by first | rfl | (simp; done) | (simp [*]; done), by repeat (first | exact Drawn0.refl _ | apply Drawn0.step)⟩
def spec_TurnNumbers.f (k : Nat) (l0 : List (S59)) (a1 : Int) : Option (List Int × Int) := (spec_IsRegion.f k l0).bind fun t1100 => (if t1100 = true then ((spec_l03Is.f a1).bind fun t1101 => (if t1101 = true then ((spec_l10Numbers.f k l0 a1).bind fun bt1102 => (if bt1102.2 = true then (some (bt1102.1, 0)) else (some (([] : List Int), 5)))) else (some (([] : List Int), 2)))) else (some (([] : List Int), 1)))
theorem spec_TurnNumbers.calls (k : Nat) (A0 : Option Addr) (c0 : Nat) (l0 : List (S59)) (a1 : Int) (r1 : List Int) (r2 : Int) (w : World) (hr0 : Kd.C k59 w A0 l0.length l0) (hc0 : l0.length ≤ c0) (h : spec_TurnNumbers.f k l0 a1 = some (r1, r2)) :
  Calls Try.prog 39 #[.slice A0 l0.length c0, .int .i64 a1] w fun e w' => ∃ v0_ : Value, e = .returned (.tuple #[v0_, .int .i64 r2]) ∧ Kd.R (Kd.int .i64) 2 w' w.heap.size (fun _ => True) v0_ r1 ∧ Below w.heap.size w w' := by
 have HR0 := aM hr0
 have HC0 := aM hc0
 clear hr0 hc0
 have HB := aM (Below.refl w.heap.size w)
 have H : ((spec_IsRegion.f k l0).bind fun t1100 => (if t1100 = true then ((spec_l03Is.f a1).bind fun t1101 => (if t1101 = true then ((spec_l10Numbers.f k l0 a1).bind fun bt1102 => (if bt1102.2 = true then (some (bt1102.1, 0)) else (some (([] : List Int), 5)))) else (some (([] : List Int), 2)))) else (some (([] : List Int), 1)))) = some (r1, r2) := h
 clear h
 replace H := Option.bind_eq_some_iff.mp H
 obtain ⟨t1100, A30, H⟩ := H
 replace H : (if t1100 = true then ((spec_l03Is.f a1).bind fun t1101 => (if t1101 = true then ((spec_l10Numbers.f k l0 a1).bind fun bt1102 => (if bt1102.2 = true then (some (bt1102.1, 0)) else (some (([] : List Int), 5)))) else (some (([] : List Int), 2)))) else (some (([] : List Int), 1))) = some (r1, r2) := H
 have A3 := aM A30
 clear A30
 by_cases c4 : t1100 = true
 rotate_left
 ·replace c4 := Bool.eq_false_iff.mpr c4
  subst c4
  have H1 : (some (([] : List Int), 1)) = some (r1, r2) := by rw [if_neg (show ¬ (false = true) by decide)] at H; exact H
  clear H
  have H := H1
  clear H1
  simp only [Option.some.injEq, Prod.mk.injEq] at H
  obtain ⟨rfl, rfl⟩ := H
  go_enter Try.func39, Try.ntmps39
  go_wp2_with (first | ((with_reducible refine gate_callee (f := 78) rfl ?_); refine goesL_ (some 9) rfl rfl Try.func78 (by kernel_rfl) rfl #[.slice A0 l0.length c0] rfl zm ?_; (with_reducible refine (spec_IsRegion.calls k _ _ l0 false _ ?side1 ?side2 A3.out).mono ?_); (case side1 => repeat (first | exact HR0.out | (with_reducible refine Kd.C_alloc ?_ _) | (with_reducible refine Kd.C_drewN ?_ _) | (with_reducible refine Kd.C_drew ?_))); (case side2 => exact HC0.out); rintro e w14 ⟨rfl, hb⟩; refine ⟨_, rfl, ?_⟩; have n0_ := aM (below_step zb hb); clear HB; have HB := n0_; clear n0_; (try clear hb); (try clear hb2); (try clear hk); (try clear hi)))
  go_ret2
  exact ⟨_, zw, by first | exact Kd.R_nil _ _ _ _ _ | exact Kd.N_nil _ _ _ _ _ | exact Kd.V_nil _ _ _ _ _ | exact Kd.Q_nil _ _ _ _ _ | exact Kd.S_nil _ _ _ _ _, zb⟩
 subst c4
 have H1 : ((spec_l03Is.f a1).bind fun t1101 => (if t1101 = true then ((spec_l10Numbers.f k l0 a1).bind fun bt1102 => (if bt1102.2 = true then (some (bt1102.1, 0)) else (some (([] : List Int), 5)))) else (some (([] : List Int), 2)))) = some (r1, r2) := by rw [if_pos rfl] at H; exact H
 clear H
 have H := H1
 clear H1
 replace H := Option.bind_eq_some_iff.mp H
 obtain ⟨t1101, A50, H⟩ := H
 replace H : (if t1101 = true then ((spec_l10Numbers.f k l0 a1).bind fun bt1102 => (if bt1102.2 = true then (some (bt1102.1, 0)) else (some (([] : List Int), 5)))) else (some (([] : List Int), 2))) = some (r1, r2) := H
 have A5 := aM A50
 clear A50
 by_cases c6 : t1101 = true
 rotate_left
 ·replace c6 := Bool.eq_false_iff.mpr c6
  subst c6
  have H1 : (some (([] : List Int), 2)) = some (r1, r2) := by rw [if_neg (show ¬ (false = true) by decide)] at H; exact H
  clear H
  have H := H1
  clear H1
  simp only [Option.some.injEq, Prod.mk.injEq] at H
  obtain ⟨rfl, rfl⟩ := H
  go_enter Try.func39, Try.ntmps39
  go_wp2_with (first | ((with_reducible refine gate_callee (f := 78) rfl ?_); refine goesL_ (some 9) rfl rfl Try.func78 (by kernel_rfl) rfl #[.slice A0 l0.length c0] rfl zm ?_; (with_reducible refine (spec_IsRegion.calls k _ _ l0 true _ ?side1 ?side2 A3.out).mono ?_); (case side1 => repeat (first | exact HR0.out | (with_reducible refine Kd.C_alloc ?_ _) | (with_reducible refine Kd.C_drewN ?_ _) | (with_reducible refine Kd.C_drew ?_))); (case side2 => exact HC0.out); rintro e w13 ⟨rfl, hb⟩; refine ⟨_, rfl, ?_⟩; have n0_ := aM (below_step zb hb); clear HB; have HB := n0_; clear n0_; (try clear hb); (try clear hb2); (try clear hk); (try clear hi)) | ((with_reducible refine gate_callee (f := 83) rfl ?_); refine goesL_ (some 12) rfl rfl Try.func83 (by kernel_rfl) rfl #[.int .i64 a1] rfl zm ?_; (with_reducible refine (spec_l03Is.calls a1 false _ A5.out).mono ?_); rintro e w' ⟨rfl, ⟨nd, rfl⟩⟩; refine ⟨_, rfl, ?_⟩))
  go_ret2
  exact ⟨_, zw, by first | exact Kd.R_nil _ _ _ _ _ | exact Kd.N_nil _ _ _ _ _ | exact Kd.V_nil _ _ _ _ _ | exact Kd.Q_nil _ _ _ _ _ | exact Kd.S_nil _ _ _ _ _, zb⟩
 subst c6
 have H1 : ((spec_l10Numbers.f k l0 a1).bind fun bt1102 => (if bt1102.2 = true then (some (bt1102.1, 0)) else (some (([] : List Int), 5)))) = some (r1, r2) := by rw [if_pos rfl] at H; exact H
 clear H
 have H := H1
 clear H1
 replace H := Option.bind_eq_some_iff.mp H
 obtain ⟨⟨t1102, t1103⟩, A70, H⟩ := H
 replace H : (if t1103 = true then (some (t1102, 0)) else (some (([] : List Int), 5))) = some (r1, r2) := H
 have A7 := aM A70
 clear A70
 by_cases c8 : t1103 = true
 ·subst c8
  have H1 : (some (t1102, 0)) = some (r1, r2) := by rw [if_pos rfl] at H; exact H
  clear H
  have H := H1
  clear H1
  simp only [Option.some.injEq, Prod.mk.injEq] at H
  obtain ⟨rfl, rfl⟩ := H
  go_enter Try.func39, Try.ntmps39
  go_wp2_with (first | ((with_reducible refine gate_callee (f := 78) rfl ?_); refine goesL_ (some 9) rfl rfl Try.func78 (by kernel_rfl) rfl #[.slice A0 l0.length c0] rfl zm ?_; (with_reducible refine (spec_IsRegion.calls k _ _ l0 true _ ?side1 ?side2 A3.out).mono ?_); (case side1 => repeat (first | exact HR0.out | (with_reducible refine Kd.C_alloc ?_ _) | (with_reducible refine Kd.C_drewN ?_ _) | (with_reducible refine Kd.C_drew ?_))); (case side2 => exact HC0.out); rintro e w9 ⟨rfl, hb⟩; refine ⟨_, rfl, ?_⟩; have n0_ := aM (below_step zb hb); clear HB; have HB := n0_; clear n0_; (try clear hb); (try clear hb2); (try clear hk); (try clear hi)) | ((with_reducible refine gate_callee (f := 83) rfl ?_); refine goesL_ (some 12) rfl rfl Try.func83 (by kernel_rfl) rfl #[.int .i64 a1] rfl zm ?_; (with_reducible refine (spec_l03Is.calls a1 true _ A5.out).mono ?_); rintro e w' ⟨rfl, ⟨nd, rfl⟩⟩; refine ⟨_, rfl, ?_⟩) | ((with_reducible refine gate_callee (f := 84) rfl ?_); refine goesL_ (some 17) rfl rfl Try.func84 (by kernel_rfl) rfl #[.slice A0 l0.length c0, .int .i64 a1] rfl zm ?_; (with_reducible refine (spec_l10Numbers.calls k _ _ l0 a1 t1102 true _ ?side1 ?side2 A7.out).mono ?_); (case side1 => repeat (first | exact (Kd.C_below HR0.out zb) | (with_reducible refine Kd.C_alloc ?_ _) | (with_reducible refine Kd.C_drewN ?_ _) | (with_reducible refine Kd.C_drew ?_))); (case side2 => exact HC0.out); rintro e w10 ⟨v1104, rfl, ho0, hb⟩; refine ⟨_, rfl, ?_⟩; have n0_ := aM (Kd.R_lower ho0 (below_size zb)); have n1_ := aM (below_step zb hb); clear HB; have HO1105 := n0_; have HB := n1_; clear n0_ n1_; (try clear hb); (try clear hb2); (try clear hk); (try clear hi); (try clear ho0)))
  go_ret2
  exact ⟨_, zw, mR_ HO1105.out, zb⟩
 replace c8 := Bool.eq_false_iff.mpr c8
 subst c8
 have H1 : (some (([] : List Int), 5)) = some (r1, r2) := by rw [if_neg (show ¬ (false = true) by decide)] at H; exact H
 clear H
 have H := H1
 clear H1
 simp only [Option.some.injEq, Prod.mk.injEq] at H
 obtain ⟨rfl, rfl⟩ := H
 go_enter Try.func39, Try.ntmps39
 go_wp2_with (first | ((with_reducible refine gate_callee (f := 78) rfl ?_); refine goesL_ (some 9) rfl rfl Try.func78 (by kernel_rfl) rfl #[.slice A0 l0.length c0] rfl zm ?_; (with_reducible refine (spec_IsRegion.calls k _ _ l0 true _ ?side1 ?side2 A3.out).mono ?_); (case side1 => repeat (first | exact HR0.out | (with_reducible refine Kd.C_alloc ?_ _) | (with_reducible refine Kd.C_drewN ?_ _) | (with_reducible refine Kd.C_drew ?_))); (case side2 => exact HC0.out); rintro e w11 ⟨rfl, hb⟩; refine ⟨_, rfl, ?_⟩; have n0_ := aM (below_step zb hb); clear HB; have HB := n0_; clear n0_; (try clear hb); (try clear hb2); (try clear hk); (try clear hi)) | ((with_reducible refine gate_callee (f := 83) rfl ?_); refine goesL_ (some 12) rfl rfl Try.func83 (by kernel_rfl) rfl #[.int .i64 a1] rfl zm ?_; (with_reducible refine (spec_l03Is.calls a1 true _ A5.out).mono ?_); rintro e w' ⟨rfl, ⟨nd, rfl⟩⟩; refine ⟨_, rfl, ?_⟩) | ((with_reducible refine gate_callee (f := 84) rfl ?_); refine goesL_ (some 17) rfl rfl Try.func84 (by kernel_rfl) rfl #[.slice A0 l0.length c0, .int .i64 a1] rfl zm ?_; (with_reducible refine (spec_l10Numbers.calls k _ _ l0 a1 t1102 false _ ?side1 ?side2 A7.out).mono ?_); (case side1 => repeat (first | exact (Kd.C_below HR0.out zb) | (with_reducible refine Kd.C_alloc ?_ _) | (with_reducible refine Kd.C_drewN ?_ _) | (with_reducible refine Kd.C_drew ?_))); (case side2 => exact HC0.out); rintro e w12 ⟨v1104, rfl, ho0, hb⟩; refine ⟨_, rfl, ?_⟩; have n0_ := aM (Kd.R_lower ho0 (below_size zb)); have n1_ := aM (below_step zb hb); clear HB; have HO1105 := n0_; have HB := n1_; clear n0_ n1_; (try clear hb); (try clear hb2); (try clear hk); (try clear hi); (try clear ho0)))
 go_ret2
 exact ⟨_, zw, by first | exact Kd.R_nil _ _ _ _ _ | exact Kd.N_nil _ _ _ _ _ | exact Kd.V_nil _ _ _ _ _ | exact Kd.Q_nil _ _ _ _ _ | exact Kd.S_nil _ _ _ _ _, zb⟩
def impl_symmetries.l0 : Nat → List (S59) → List Int → List (S59) → Int → Option (List Int)
 | 0, _, _, _, _ => none
 | k + 1, x0, x3, x4, x9 => if x9 < 8 then ((impl_form.f k x0 x9).bind fun t1112 => ((impl_Cell_116.f k t1112 x4).bind fun t1115 => (if t1115 = true then (if x3.length < 17592186044416 then (impl_symmetries.l0 k x0 (x3 ++ [x9]) x4 (wrap64 (x9 + 1))) else (none)) else (impl_symmetries.l0 k x0 x3 x4 (wrap64 (x9 + 1)))))) else (some x3)
def impl_symmetries.f (k : Nat) (l0 : List (S59)) : Option (List Int) := (impl_normal.f k l0).bind fun t1109 => (impl_symmetries.l0 k l0 (([] : List Int)) t1109 0)
theorem impl_symmetries.calls (k : Nat) (A0 : Option Addr) (c0 : Nat) (l0 : List (S59)) (r : List Int) (w : World) (hr0 : Kd.C k59 w A0 l0.length l0) (hc0 : l0.length ≤ c0) (h : impl_symmetries.f k l0 = some r) :
  Calls Try.prog 85 #[.slice A0 l0.length c0] w fun e w' => ∃ v0_ : Value, e = .returned (v0_) ∧ Kd.R (Kd.int .i64) 2 w' w.heap.size (fun _ => True) v0_ r ∧ Below w.heap.size w w' := by
 have HR0 := aM hr0
 have HC0 := aM hc0
 clear hr0 hc0
 have HB := aM (Below.refl w.heap.size w)
 have H : ((impl_normal.f k l0).bind fun t1109 => (impl_symmetries.l0 k l0 (([] : List Int)) t1109 0)) = some r := h
 clear h
 obtain ⟨y1106, hy1106⟩ : ∃ y_ : List Int, y_ = (([] : List Int)) := ⟨_, rfl⟩
 replace H : ((impl_normal.f k l0).bind fun t1109 => (impl_symmetries.l0 k l0 y1106 t1109 0)) = some r := zy H hy1106
 have Ny1106 := aM hy1106
 clear hy1106
 replace H := Option.bind_eq_some_iff.mp H
 obtain ⟨t1109, A20, H⟩ := H
 replace H : (impl_symmetries.l0 k l0 y1106 t1109 0) = some r := H
 have A2 := aM A20
 clear A20
 have H' := aM H
 clear H
 go_enter Try.func85, Try.ntmps85
 go_wp2_with (first | ((with_reducible refine gate_dst (N := 6) rfl ?_); refine Kd.R_lit (Kd.int .i64) _ 2 ?hg (N := 6) ?hd (xs := ([] : List Int)) (inner := []) (ok := fun _ => True) (okp := fun _ => True) ?hr ?hp (fun _ hk => hk) trivial (Below.refl _ _) (Nat.le_refl _) (by simp) ?_; (case hd => rfl); (case hg => rfl); (case hr => first | (go_simp; done) | (go_simp; rfl)); (case hp => exact (Reps.none _ _)); intro v1107 w3 ho4 hb hg_ hnew_; clear hg_ hnew_; (first | rw [← Ny1106.out] at ho4 | (simp only [Int.reduceToNat] at ho4; rw [← Ny1106.out] at ho4)); have n0_ := aM (Kd.R_lower ho4 (below_size zb)); have n1_ := aM (below_step zb hb); clear HB; have HO1108 := n0_; have HB := n1_; clear n0_ n1_; clear hb ho4) | ((with_reducible refine gate_callee (f := 96) rfl ?_); refine goesL_ (some 8) rfl rfl Try.func96 (by kernel_rfl) rfl #[.slice A0 l0.length c0] rfl zm ?_; (with_reducible refine (impl_normal.calls k _ _ l0 t1109 _ ?side1 ?side2 A2.out).mono ?_); (case side1 => repeat (first | exact (Kd.C_below HR0.out HB.out) | (with_reducible refine Kd.C_alloc ?_ _) | (with_reducible refine Kd.C_drewN ?_ _) | (with_reducible refine Kd.C_drew ?_))); (case side2 => exact HC0.out); rintro e w5 ⟨v1110, rfl, ho0, hb⟩; refine ⟨_, rfl, ?_⟩; have n0_ := aM (Kd.R_below (mR_ HO1108.out) hb); have n1_ := aM (Kd.R_lower ho0 (below_size zb)); have n2_ := aM (below_step zb hb); clear HO1108 HB; have HO1108 := n0_; have HO1111 := n1_; have HB := n2_; clear n0_ n1_ n2_; (try clear hb); (try clear hb2); (try clear hk); (try clear hi); (try clear ho0)))
 go_loopg [3, 9] k (fun kq v3 v9 w' => ∃ (x3_1 : List Int) (x9_1 : Int), v9 = .int .i64 x9_1 ∧ Aside0 (impl_symmetries.l0 kq l0 x3_1 t1109 x9_1 = some r) ∧ Aside0 (kq ≤ k) ∧ Aside0 (Kd.R (Kd.int .i64) 2 w' w.heap.size (fun _ => True) v3 x3_1) ∧ Aside0 (Kd.R k59 59 w' w.heap.size (fun _ => True) v1110 t1109) ∧ Aside0 (Below w.heap.size w w'))
 case atStart => exact ⟨(y1106), (0), zr, H', ⟨Nat.le_refl _⟩, ⟨mR_ HO1108.out⟩, ⟨mR_ HO1111.out⟩, ⟨zb⟩⟩
 case round =>
  clear H'
  try clear p2
  obtain ⟨x3_1, x9_1, rfl, HA, HK1, HO_3, HO_4, HB⟩ := hrel
  cases gk with
  | zero => exact absurd HA.out (by simp [impl_symmetries.l0])
  | succ k1 =>
   have H := HA.out
   clear HA
   simp only [impl_symmetries.l0] at H
   by_cases c6 : x9_1 < 8
   rotate_left
   ·rw [if_neg c6] at H
    have c6b0 : decide (x9_1 < 8) = false := decide_eq_false c6
    clear c6
    obtain rfl := Option.some.inj H
    go_wp2
    go_ret
    exact ⟨_, zw, mR_ HO_3.out, zb⟩
   rw [if_pos c6] at H
   have c6b0 : decide (x9_1 < 8) = true := decide_eq_true c6
   clear c6
   replace H := Option.bind_eq_some_iff.mp H
   obtain ⟨t1112, A70, H⟩ := H
   replace H : ((impl_Cell_116.f k1 t1112 t1109).bind fun t1115 => (if t1115 = true then (if x3_1.length < 17592186044416 then (impl_symmetries.l0 k1 l0 (x3_1 ++ [x9_1]) t1109 (wrap64 (x9_1 + 1))) else (none)) else (impl_symmetries.l0 k1 l0 x3_1 t1109 (wrap64 (x9_1 + 1))))) = some r := H
   have A7 := aM A70
   clear A70
   replace H := Option.bind_eq_some_iff.mp H
   obtain ⟨t1115, A80, H⟩ := H
   replace H : (if t1115 = true then (if x3_1.length < 17592186044416 then (impl_symmetries.l0 k1 l0 (x3_1 ++ [x9_1]) t1109 (wrap64 (x9_1 + 1))) else (none)) else (impl_symmetries.l0 k1 l0 x3_1 t1109 (wrap64 (x9_1 + 1)))) = some r := H
   have A8 := aM A80
   clear A80
   by_cases c9 : t1115 = true
   rotate_left
   ·replace c9 := Bool.eq_false_iff.mpr c9
    subst c9
    have H1 : (impl_symmetries.l0 k1 l0 x3_1 t1109 (wrap64 (x9_1 + 1))) = some r := by rw [if_neg (show ¬ (false = true) by decide)] at H; exact H
    clear H
    have H := H1
    clear H1
    have H' := aM H
    clear H
    go_wp2_with (first | ((with_reducible refine gate_callee (f := 69) rfl ?_); refine goesL_ (some 14) rfl rfl Try.func69 (by kernel_rfl) rfl #[.slice A0 l0.length c0, .int .i64 x9_1] rfl zm ?_; (with_reducible refine (impl_form.calls k1 _ _ l0 x9_1 t1112 _ ?side1 ?side2 A7.out).mono ?_); (case side1 => repeat (first | exact (Kd.C_below HR0.out HB.out) | (with_reducible refine Kd.C_alloc ?_ _) | (with_reducible refine Kd.C_drewN ?_ _) | (with_reducible refine Kd.C_drew ?_))); (case side2 => exact HC0.out); rintro e w15 ⟨v1113, rfl, ho0, hb⟩; refine ⟨_, rfl, ?_⟩; have n0_ := aM (Kd.R_below (mR_ HO_3.out) hb); have n1_ := aM (Kd.R_elder' (mR_ HO_4.out) (Kd.R_base ho0) hb); have n2_ := aM (Kd.R_lower (Kd.R_new' ho0 (Kd.R_lt (mR_ HO_4.out))) (below_size zb)); have n3_ := aM (below_step zb hb); clear HO_3 HO_4 HB; have HO_3 := n0_; have HO_4 := n1_; have HO1114 := n2_; have HB := n3_; clear n0_ n1_ n2_ n3_; (try clear hb); (try clear hb2); (try clear hk); (try clear hi); (try clear ho0); obtain ⟨Ao16, co16, eo16⟩ := Kd.R_slice HO1114.out; subst eo16; obtain ⟨Ao17, co17, eo17⟩ := Kd.R_slice HO_4.out; subst eo17) | ((with_reducible refine gate_callee (f := 116) rfl ?_); refine goesL_ (some 16) rfl rfl Try.func116 (by kernel_rfl) rfl #[.slice Ao16 t1112.length co16, .slice Ao17 t1109.length co17] rfl zm ?_; (with_reducible refine (impl_Cell_116.calls k1 _ _ t1112 _ _ t1109 false _ ?side1 ?side2 ?side3 ?side4 A8.out).mono ?_); (case side1 => exact zc HO1114.out); (case side2 => exact (Kd.R_reads' HO1114.out).2.1); (case side3 => exact zc HO_4.out); (case side4 => exact (Kd.R_reads' HO_4.out).2.1); rintro e w' ⟨rfl, ⟨nd, rfl⟩⟩; refine ⟨_, rfl, ?_⟩))
    go_roundg k1
    case measure => have := HK1.out; omega
    case rel => exact ⟨(x3_1), (wrap64 (x9_1 + 1)), zr, H', ⟨by have := HK1.out; omega⟩, ⟨mR_ HO_3.out⟩, ⟨zd0 HO_4.out⟩, ⟨zb⟩⟩
   subst c9
   have H1 : (if x3_1.length < 17592186044416 then (impl_symmetries.l0 k1 l0 (x3_1 ++ [x9_1]) t1109 (wrap64 (x9_1 + 1))) else (none)) = some r := by rw [if_pos rfl] at H; exact H
   clear H
   have H := H1
   clear H1
   by_cases c10 : x3_1.length < 17592186044416
   rotate_left
   ·rw [if_neg c10] at H
    exact absurd H (by simp)
   rw [if_pos c10] at H
   have LMc10 := aM c10
   clear c10
   obtain ⟨y1116, hy1116⟩ : ∃ y_ : List Int, y_ = (x3_1 ++ [x9_1]) := ⟨_, rfl⟩
   replace H : (impl_symmetries.l0 k1 l0 y1116 t1109 (wrap64 (x9_1 + 1))) = some r := zy H hy1116
   have Ny1116 := aM hy1116
   clear hy1116
   have H' := aM H
   clear H
   go_wp2_with (first | ((with_reducible refine gate_callee (f := 69) rfl ?_); refine goesL_ (some 14) rfl rfl Try.func69 (by kernel_rfl) rfl #[.slice A0 l0.length c0, .int .i64 x9_1] rfl zm ?_; (with_reducible refine (impl_form.calls k1 _ _ l0 x9_1 t1112 _ ?side1 ?side2 A7.out).mono ?_); (case side1 => repeat (first | exact (Kd.C_below HR0.out HB.out) | (with_reducible refine Kd.C_alloc ?_ _) | (with_reducible refine Kd.C_drewN ?_ _) | (with_reducible refine Kd.C_drew ?_))); (case side2 => exact HC0.out); rintro e w11 ⟨v1113, rfl, ho0, hb⟩; refine ⟨_, rfl, ?_⟩; have n0_ := aM (Kd.R_below (mR_ HO_3.out) hb); have n1_ := aM (Kd.R_elder' (mR_ HO_4.out) (Kd.R_base ho0) hb); have n2_ := aM (Kd.R_lower (Kd.R_new' ho0 (Kd.R_lt (mR_ HO_4.out))) (below_size zb)); have n3_ := aM (below_step zb hb); clear HO_3 HO_4 HB; have HO_3 := n0_; have HO_4 := n1_; have HO1114 := n2_; have HB := n3_; clear n0_ n1_ n2_ n3_; (try clear hb); (try clear hb2); (try clear hk); (try clear hi); (try clear ho0); obtain ⟨Ao12, co12, eo12⟩ := Kd.R_slice HO1114.out; subst eo12; obtain ⟨Ao13, co13, eo13⟩ := Kd.R_slice HO_4.out; subst eo13) | ((with_reducible refine gate_callee (f := 116) rfl ?_); refine goesL_ (some 16) rfl rfl Try.func116 (by kernel_rfl) rfl #[.slice Ao12 t1112.length co12, .slice Ao13 t1109.length co13] rfl zm ?_; (with_reducible refine (impl_Cell_116.calls k1 _ _ t1112 _ _ t1109 true _ ?side1 ?side2 ?side3 ?side4 A8.out).mono ?_); (case side1 => exact zc HO1114.out); (case side2 => exact (Kd.R_reads' HO1114.out).2.1); (case side3 => exact zc HO_4.out); (case side4 => exact (Kd.R_reads' HO_4.out).2.1); rintro e w' ⟨rfl, ⟨nd, rfl⟩⟩; refine ⟨_, rfl, ?_⟩) | ((with_reducible refine gate_builtin (b := .append) (xs := #[.tmp 17, .tmp 19]) rfl ?_); at_builtin; refine Kd.R_append (Kd.int .i64) (w0 := w) w.heap.size rfl (.tmp 17) (.tmp 19) 41 2 (.int .i64 0) 8 rfl Try.underlying41 info2 rfl (by decide) (by omega) u3 x3_1 x9_1 [.int .i64 x9_1] (fun _ => True) (fun _ => False) rfl rfl ?aP (fun _ hk => hk.elim) ?aF ?aO ?aB ?aS ?aL ?_; (case aP => exact rfl); (case aB => exact zb); (case aF => exact (fun _ _ => trivial)); (case aO => exact (mR_ HO_3.out)); (case aS => exact (below_size zb)); (case aL => have := LMc10.out; omega); intro v1117 w14 ho hb hg hat; rw [← Ny1116.out] at ho; have n0_ := aM (Kd.R_over' (mR_ HO_4.out) (Kd.R_typed (mR_ HO_3.out)) (by decide) hg); have n1_ := aM (Kd.R_over' (mR_ HO1114.out) (Kd.R_typed (mR_ HO_3.out)) (by decide) hg); have n2_ := aM (hb); have n3_ := aM (ho); clear HO_4 HO1114 HB HO_3; have HO_4 := n0_; have HO1114 := n1_; have HB := n2_; have HO1118 := n3_; clear n0_ n1_ n2_ n3_; clear ho hb hg hat))
   go_roundg k1
   case measure => have := HK1.out; omega
   case rel => exact ⟨(y1116), (wrap64 (x9_1 + 1)), zr, H', ⟨by have := HK1.out; omega⟩, ⟨mR_ HO1118.out⟩, ⟨zd0 HO_4.out⟩, ⟨zb⟩⟩
def impl_RegionSymmetries.f (k : Nat) (l0 : List (S59)) : Option (List Int × Int) := (impl_IsRegion.f k l0).bind fun t1119 => (if t1119 = true then ((impl_symmetries.f k l0).bind fun t1120 => (some (t1120, 0))) else (some (([] : List Int), 1)))
theorem impl_RegionSymmetries.calls (k : Nat) (A0 : Option Addr) (c0 : Nat) (l0 : List (S59)) (r1 : List Int) (r2 : Int) (w : World) (hr0 : Kd.C k59 w A0 l0.length l0) (hc0 : l0.length ≤ c0) (h : impl_RegionSymmetries.f k l0 = some (r1, r2)) :
  Calls Try.prog 40 #[.slice A0 l0.length c0] w fun e w' => ∃ v0_ : Value, e = .returned (.tuple #[v0_, .int .i64 r2]) ∧ Kd.R (Kd.int .i64) 2 w' w.heap.size (fun _ => True) v0_ r1 ∧ Below w.heap.size w w' := by
 have HR0 := aM hr0
 have HC0 := aM hc0
 clear hr0 hc0
 have HB := aM (Below.refl w.heap.size w)
 have H : ((impl_IsRegion.f k l0).bind fun t1119 => (if t1119 = true then ((impl_symmetries.f k l0).bind fun t1120 => (some (t1120, 0))) else (some (([] : List Int), 1)))) = some (r1, r2) := h
 clear h
 replace H := Option.bind_eq_some_iff.mp H
 obtain ⟨t1119, A20, H⟩ := H
 replace H : (if t1119 = true then ((impl_symmetries.f k l0).bind fun t1120 => (some (t1120, 0))) else (some (([] : List Int), 1))) = some (r1, r2) := H
 have A2 := aM A20
 clear A20
 by_cases c3 : t1119 = true
 rotate_left
 ·replace c3 := Bool.eq_false_iff.mpr c3
  subst c3
  have H1 : (some (([] : List Int), 1)) = some (r1, r2) := by rw [if_neg (show ¬ (false = true) by decide)] at H; exact H
  clear H
  have H := H1
  clear H1
  simp only [Option.some.injEq, Prod.mk.injEq] at H
  obtain ⟨rfl, rfl⟩ := H
  go_enter Try.func40, Try.ntmps40
  go_wp2_with (first | ((with_reducible refine gate_callee (f := 81) rfl ?_); refine goesL_ (some 5) rfl rfl Try.func81 (by kernel_rfl) rfl #[.slice A0 l0.length c0] rfl zm ?_; (with_reducible refine (impl_IsRegion.calls k _ _ l0 false _ ?side1 ?side2 A2.out).mono ?_); (case side1 => repeat (first | exact HR0.out | (with_reducible refine Kd.C_alloc ?_ _) | (with_reducible refine Kd.C_drewN ?_ _) | (with_reducible refine Kd.C_drew ?_))); (case side2 => exact HC0.out); rintro e w7 ⟨rfl, hb⟩; refine ⟨_, rfl, ?_⟩; have n0_ := aM (below_step zb hb); clear HB; have HB := n0_; clear n0_; (try clear hb); (try clear hb2); (try clear hk); (try clear hi)))
  go_ret2
  exact ⟨_, zw, by first | exact Kd.R_nil _ _ _ _ _ | exact Kd.N_nil _ _ _ _ _ | exact Kd.V_nil _ _ _ _ _ | exact Kd.Q_nil _ _ _ _ _ | exact Kd.S_nil _ _ _ _ _, zb⟩
 subst c3
 have H1 : ((impl_symmetries.f k l0).bind fun t1120 => (some (t1120, 0))) = some (r1, r2) := by rw [if_pos rfl] at H; exact H
 clear H
 have H := H1
 clear H1
 replace H := Option.bind_eq_some_iff.mp H
 obtain ⟨t1120, A40, H⟩ := H
 replace H : (some (t1120, 0)) = some (r1, r2) := H
 have A4 := aM A40
 clear A40
 simp only [Option.some.injEq, Prod.mk.injEq] at H
 obtain ⟨rfl, rfl⟩ := H
 go_enter Try.func40, Try.ntmps40
 go_wp2_with (first | ((with_reducible refine gate_callee (f := 81) rfl ?_); refine goesL_ (some 5) rfl rfl Try.func81 (by kernel_rfl) rfl #[.slice A0 l0.length c0] rfl zm ?_; (with_reducible refine (impl_IsRegion.calls k _ _ l0 true _ ?side1 ?side2 A2.out).mono ?_); (case side1 => repeat (first | exact HR0.out | (with_reducible refine Kd.C_alloc ?_ _) | (with_reducible refine Kd.C_drewN ?_ _) | (with_reducible refine Kd.C_drew ?_))); (case side2 => exact HC0.out); rintro e w5 ⟨rfl, hb⟩; refine ⟨_, rfl, ?_⟩; have n0_ := aM (below_step zb hb); clear HB; have HB := n0_; clear n0_; (try clear hb); (try clear hb2); (try clear hk); (try clear hi)) | ((with_reducible refine gate_callee (f := 85) rfl ?_); refine goesL_ (some 8) rfl rfl Try.func85 (by kernel_rfl) rfl #[.slice A0 l0.length c0] rfl zm ?_; (with_reducible refine (impl_symmetries.calls k _ _ l0 t1120 _ ?side1 ?side2 A4.out).mono ?_); (case side1 => repeat (first | exact (Kd.C_below HR0.out HB.out) | (with_reducible refine Kd.C_alloc ?_ _) | (with_reducible refine Kd.C_drewN ?_ _) | (with_reducible refine Kd.C_drew ?_))); (case side2 => exact HC0.out); rintro e w6 ⟨v1121, rfl, ho0, hb⟩; refine ⟨_, rfl, ?_⟩; have n0_ := aM (Kd.R_lower ho0 (below_size zb)); have n1_ := aM (below_step zb hb); clear HB; have HO1122 := n0_; have HB := n1_; clear n0_ n1_; (try clear hb); (try clear hb2); (try clear hk); (try clear hi); (try clear ho0)))
 go_ret2
 exact ⟨_, zw, mR_ HO1122.out, zb⟩
def spec_RegionSymmetries.f (k : Nat) (l0 : List (S59)) : Option (List Int × Int) := (spec_IsRegion.f k l0).bind fun t1123 => (if t1123 = true then ((spec_l10Symmetries.f k l0).bind fun t1124 => (some (t1124, 0))) else (some (([] : List Int), 1)))
theorem spec_RegionSymmetries.calls (k : Nat) (A0 : Option Addr) (c0 : Nat) (l0 : List (S59)) (r1 : List Int) (r2 : Int) (w : World) (hr0 : Kd.C k59 w A0 l0.length l0) (hc0 : l0.length ≤ c0) (h : spec_RegionSymmetries.f k l0 = some (r1, r2)) :
  Calls Try.prog 41 #[.slice A0 l0.length c0] w fun e w' => ∃ v0_ : Value, e = .returned (.tuple #[v0_, .int .i64 r2]) ∧ Kd.R (Kd.int .i64) 2 w' w.heap.size (fun _ => True) v0_ r1 ∧ Below w.heap.size w w' := by
 have HR0 := aM hr0
 have HC0 := aM hc0
 clear hr0 hc0
 have HB := aM (Below.refl w.heap.size w)
 have H : ((spec_IsRegion.f k l0).bind fun t1123 => (if t1123 = true then ((spec_l10Symmetries.f k l0).bind fun t1124 => (some (t1124, 0))) else (some (([] : List Int), 1)))) = some (r1, r2) := h
 clear h
 replace H := Option.bind_eq_some_iff.mp H
 obtain ⟨t1123, A20, H⟩ := H
 replace H : (if t1123 = true then ((spec_l10Symmetries.f k l0).bind fun t1124 => (some (t1124, 0))) else (some (([] : List Int), 1))) = some (r1, r2) := H
 have A2 := aM A20
 clear A20
 by_cases c3 : t1123 = true
 rotate_left
 ·replace c3 := Bool.eq_false_iff.mpr c3
  subst c3
  have H1 : (some (([] : List Int), 1)) = some (r1, r2) := by rw [if_neg (show ¬ (false = true) by decide)] at H; exact H
  clear H
  have H := H1
  clear H1
  simp only [Option.some.injEq, Prod.mk.injEq] at H
  obtain ⟨rfl, rfl⟩ := H
  go_enter Try.func41, Try.ntmps41
  go_wp2_with (first | ((with_reducible refine gate_callee (f := 78) rfl ?_); refine goesL_ (some 5) rfl rfl Try.func78 (by kernel_rfl) rfl #[.slice A0 l0.length c0] rfl zm ?_; (with_reducible refine (spec_IsRegion.calls k _ _ l0 false _ ?side1 ?side2 A2.out).mono ?_); (case side1 => repeat (first | exact HR0.out | (with_reducible refine Kd.C_alloc ?_ _) | (with_reducible refine Kd.C_drewN ?_ _) | (with_reducible refine Kd.C_drew ?_))); (case side2 => exact HC0.out); rintro e w7 ⟨rfl, hb⟩; refine ⟨_, rfl, ?_⟩; have n0_ := aM (below_step zb hb); clear HB; have HB := n0_; clear n0_; (try clear hb); (try clear hb2); (try clear hk); (try clear hi)))
  go_ret2
  exact ⟨_, zw, by first | exact Kd.R_nil _ _ _ _ _ | exact Kd.N_nil _ _ _ _ _ | exact Kd.V_nil _ _ _ _ _ | exact Kd.Q_nil _ _ _ _ _ | exact Kd.S_nil _ _ _ _ _, zb⟩
 subst c3
 have H1 : ((spec_l10Symmetries.f k l0).bind fun t1124 => (some (t1124, 0))) = some (r1, r2) := by rw [if_pos rfl] at H; exact H
 clear H
 have H := H1
 clear H1
 replace H := Option.bind_eq_some_iff.mp H
 obtain ⟨t1124, A40, H⟩ := H
 replace H : (some (t1124, 0)) = some (r1, r2) := H
 have A4 := aM A40
 clear A40
 simp only [Option.some.injEq, Prod.mk.injEq] at H
 obtain ⟨rfl, rfl⟩ := H
 go_enter Try.func41, Try.ntmps41
 go_wp2_with (first | ((with_reducible refine gate_callee (f := 78) rfl ?_); refine goesL_ (some 5) rfl rfl Try.func78 (by kernel_rfl) rfl #[.slice A0 l0.length c0] rfl zm ?_; (with_reducible refine (spec_IsRegion.calls k _ _ l0 true _ ?side1 ?side2 A2.out).mono ?_); (case side1 => repeat (first | exact HR0.out | (with_reducible refine Kd.C_alloc ?_ _) | (with_reducible refine Kd.C_drewN ?_ _) | (with_reducible refine Kd.C_drew ?_))); (case side2 => exact HC0.out); rintro e w5 ⟨rfl, hb⟩; refine ⟨_, rfl, ?_⟩; have n0_ := aM (below_step zb hb); clear HB; have HB := n0_; clear n0_; (try clear hb); (try clear hb2); (try clear hk); (try clear hi)) | ((with_reducible refine gate_callee (f := 79) rfl ?_); refine goesL_ (some 8) rfl rfl Try.func79 (by kernel_rfl) rfl #[.slice A0 l0.length c0] rfl zm ?_; (with_reducible refine (spec_l10Symmetries.calls k _ _ l0 t1124 _ ?side1 ?side2 A4.out).mono ?_); (case side1 => repeat (first | exact (Kd.C_below HR0.out HB.out) | (with_reducible refine Kd.C_alloc ?_ _) | (with_reducible refine Kd.C_drewN ?_ _) | (with_reducible refine Kd.C_drew ?_))); (case side2 => exact HC0.out); rintro e w6 ⟨v1125, rfl, ho0, hb⟩; refine ⟨_, rfl, ?_⟩; have n0_ := aM (Kd.R_lower ho0 (below_size zb)); have n1_ := aM (below_step zb hb); clear HB; have HO1126 := n0_; have HB := n1_; clear n0_ n1_; (try clear hb); (try clear hb2); (try clear hk); (try clear hi); (try clear ho0)))
 go_ret2
 exact ⟨_, zw, mR_ HO1126.out, zb⟩
mutual
def impl_BorderCells.l0 : Nat → List (S59) → List Int → List (S59) → Int → Int → Option (List Int × Int)
 | 0, _, _, _, _, _ => none
 | k + 1, x0, x4, x13, x14, x15 => if x15 < x14 then (if 0 ≤ x15 then (if x15 < (x13.length : Int) then ((impl_around.f ((rd_T59 x13 x15).f0) ((rd_T59 x13 x15).f1)).bind fun t1133 => (impl_BorderCells.l1 k x0 x4 x15 x13 x14 x15 t1133 (t1133.length : Int) 0)) else (none)) else (none)) else (some (x4, 0))
def impl_BorderCells.l1 : Nat → List (S59) → List Int → Int → List (S59) → Int → Int → List (S59) → Int → Int → Option (List Int × Int)
 | 0, _, _, _, _, _, _, _, _, _ => none
 | k + 1, x0, x4, x5, x13, x14, x15, x21, x22, x23 => if x23 < x22 then (if 0 ≤ x23 then (if x23 < (x21.length : Int) then ((impl_Cell_65.f k x0 ((rd_T59 x21 x23).f0) ((rd_T59 x21 x23).f1)).bind fun t1138 => (if t1138 = true then (impl_BorderCells.l1 k x0 x4 x5 x13 x14 x15 x21 x22 (wrap64 (x23 + 1))) else (if x4.length < 17592186044416 then (impl_BorderCells.l0 k x0 (x4 ++ [x5]) x13 x14 (wrap64 (x15 + 1))) else (none)))) else (none)) else (none)) else (impl_BorderCells.l0 k x0 x4 x13 x14 (wrap64 (x15 + 1)))
end
def impl_BorderCells.f (k : Nat) (l0 : List (S59)) : Option (List Int × Int) := (impl_IsRegion.f k l0).bind fun t1127 => (if t1127 = true then (impl_BorderCells.l0 k l0 (([] : List Int)) l0 (l0.length : Int) 0) else (some (([] : List Int), 1)))
theorem impl_BorderCells.calls (k : Nat) (A0 : Option Addr) (c0 : Nat) (l0 : List (S59)) (r1 : List Int) (r2 : Int) (w : World) (hr0 : Kd.C k59 w A0 l0.length l0) (hc0 : l0.length ≤ c0) (h : impl_BorderCells.f k l0 = some (r1, r2)) :
  Calls Try.prog 42 #[.slice A0 l0.length c0] w fun e w' => ∃ v0_ : Value, e = .returned (.tuple #[v0_, .int .i64 r2]) ∧ Kd.R (Kd.int .i64) 2 w' w.heap.size (fun _ => True) v0_ r1 ∧ Below w.heap.size w w' := by
 have hu59 := Try.underlying59
 have HR0 := aM hr0
 have HC0 := aM hc0
 clear hr0 hc0
 have HB := aM (Below.refl w.heap.size w)
 have H : ((impl_IsRegion.f k l0).bind fun t1127 => (if t1127 = true then (impl_BorderCells.l0 k l0 (([] : List Int)) l0 (l0.length : Int) 0) else (some (([] : List Int), 1)))) = some (r1, r2) := h
 clear h
 replace H := Option.bind_eq_some_iff.mp H
 obtain ⟨t1127, A20, H⟩ := H
 replace H : (if t1127 = true then (impl_BorderCells.l0 k l0 (([] : List Int)) l0 (l0.length : Int) 0) else (some (([] : List Int), 1))) = some (r1, r2) := H
 have A2 := aM A20
 clear A20
 by_cases c3 : t1127 = true
 rotate_left
 ·replace c3 := Bool.eq_false_iff.mpr c3
  subst c3
  have H1 : (some (([] : List Int), 1)) = some (r1, r2) := by rw [if_neg (show ¬ (false = true) by decide)] at H; exact H
  clear H
  have H := H1
  clear H1
  simp only [Option.some.injEq, Prod.mk.injEq] at H
  obtain ⟨rfl, rfl⟩ := H
  go_enter Try.func42, Try.ntmps42
  go_wp2_with (first | ((with_reducible refine gate_callee (f := 81) rfl ?_); refine goesL_ (some 10) rfl rfl Try.func81 (by kernel_rfl) rfl #[.slice A0 l0.length c0] rfl zm ?_; (with_reducible refine (impl_IsRegion.calls k _ _ l0 false _ ?side1 ?side2 A2.out).mono ?_); (case side1 => repeat (first | exact HR0.out | (with_reducible refine Kd.C_alloc ?_ _) | (with_reducible refine Kd.C_drewN ?_ _) | (with_reducible refine Kd.C_drew ?_))); (case side2 => exact HC0.out); rintro e w30 ⟨rfl, hb⟩; refine ⟨_, rfl, ?_⟩; have n0_ := aM (below_step zb hb); clear HB; have HB := n0_; clear n0_; (try clear hb); (try clear hb2); (try clear hk); (try clear hi)))
  go_ret2
  exact ⟨_, zw, by first | exact Kd.R_nil _ _ _ _ _ | exact Kd.N_nil _ _ _ _ _ | exact Kd.V_nil _ _ _ _ _ | exact Kd.Q_nil _ _ _ _ _ | exact Kd.S_nil _ _ _ _ _, zb⟩
 subst c3
 have H1 : (impl_BorderCells.l0 k l0 (([] : List Int)) l0 (l0.length : Int) 0) = some (r1, r2) := by rw [if_pos rfl] at H; exact H
 clear H
 have H := H1
 clear H1
 obtain ⟨y1128, hy1128⟩ : ∃ y_ : List Int, y_ = (([] : List Int)) := ⟨_, rfl⟩
 replace H : (impl_BorderCells.l0 k l0 y1128 l0 (l0.length : Int) 0) = some (r1, r2) := zy H hy1128
 have Ny1128 := aM hy1128
 clear hy1128
 have H' := aM H
 clear H
 go_enter Try.func42, Try.ntmps42
 go_wp2_with (first | ((with_reducible refine gate_callee (f := 81) rfl ?_); refine goesL_ (some 10) rfl rfl Try.func81 (by kernel_rfl) rfl #[.slice A0 l0.length c0] rfl zm ?_; (with_reducible refine (impl_IsRegion.calls k _ _ l0 true _ ?side1 ?side2 A2.out).mono ?_); (case side1 => repeat (first | exact HR0.out | (with_reducible refine Kd.C_alloc ?_ _) | (with_reducible refine Kd.C_drewN ?_ _) | (with_reducible refine Kd.C_drew ?_))); (case side2 => exact HC0.out); rintro e w4 ⟨rfl, hb⟩; refine ⟨_, rfl, ?_⟩; have n0_ := aM (below_step zb hb); clear HB; have HB := n0_; clear n0_; (try clear hb); (try clear hb2); (try clear hk); (try clear hi)) | ((with_reducible refine gate_dst (N := 12) rfl ?_); refine Kd.R_lit (Kd.int .i64) _ 2 ?hg (N := 12) ?hd (xs := ([] : List Int)) (inner := []) (ok := fun _ => True) (okp := fun _ => True) ?hr ?hp (fun _ hk => hk) trivial (Below.refl _ _) (Nat.le_refl _) (by simp) ?_; (case hd => rfl); (case hg => rfl); (case hr => first | (go_simp; done) | (go_simp; rfl)); (case hp => exact (Reps.none _ _)); intro v1129 w5 ho6 hb hg_ hnew_; clear hg_ hnew_; (first | rw [← Ny1128.out] at ho6 | (simp only [Int.reduceToNat] at ho6; rw [← Ny1128.out] at ho6)); have n0_ := aM (Kd.R_lower ho6 (below_size zb)); have n1_ := aM (below_step zb hb); clear HB; have HO1130 := n0_; have HB := n1_; clear n0_ n1_; clear hb ho6))
 go_loopg [4, 15] k (fun kq v4 v15 w' => ∃ (x4_1 : List Int) (x15_1 : Int), v15 = .int .i64 x15_1 ∧ Aside0 (impl_BorderCells.l0 kq l0 x4_1 l0 (l0.length : Int) x15_1 = some (r1, r2)) ∧ Aside0 (kq ≤ k) ∧ Aside0 (Kd.R (Kd.int .i64) 2 w' w.heap.size (fun _ => True) v4 x4_1) ∧ Aside0 (Below w.heap.size w w'))
 case atStart => exact ⟨(y1128), (0), zr, H', ⟨Nat.le_refl _⟩, ⟨mR_ HO1130.out⟩, ⟨zb⟩⟩
 case round =>
  clear H'
  try clear p2
  try clear c3
  try clear c4
  obtain ⟨x4_1, x15_1, rfl, HA, HK1, HO_4, HB⟩ := hrel
  cases gk with
  | zero => exact absurd HA.out (by simp [impl_BorderCells.l0])
  | succ k1 =>
   have H := HA.out
   clear HA
   simp only [impl_BorderCells.l0] at H
   by_cases c7 : x15_1 < (l0.length : Int)
   rotate_left
   ·rw [if_neg c7] at H
    have c7b0 : decide (x15_1 < (l0.length : Int)) = false := decide_eq_false c7
    clear c7
    simp only [Option.some.injEq, Prod.mk.injEq] at H
    obtain ⟨rfl, rfl⟩ := H
    go_wp2
    go_ret2
    exact ⟨_, zw, mR_ HO_4.out, zb⟩
   rw [if_pos c7] at H
   have c7b0 : decide (x15_1 < (l0.length : Int)) = true := decide_eq_true c7
   clear c7
   by_cases c8 : 0 ≤ x15_1
   rotate_left
   ·rw [if_neg c8] at H
    exact absurd H (by simp)
   rw [if_pos c8] at H
   have c8b0 : decide (0 ≤ x15_1) = true := decide_eq_true c8
   clear c8
   by_cases c9 : x15_1 < (l0.length : Int)
   rotate_left
   ·rw [if_neg c9] at H
    exact absurd H (by simp)
   rw [if_pos c9] at H
   have c9b0 : decide (x15_1 < (l0.length : Int)) = true := decide_eq_true c9
   clear c9
   replace H := Option.bind_eq_some_iff.mp H
   obtain ⟨t1133, A100, H⟩ := H
   replace H : (impl_BorderCells.l1 k1 l0 x4_1 x15_1 l0 (l0.length : Int) x15_1 t1133 (t1133.length : Int) 0) = some (r1, r2) := H
   have A10 := aM A100
   clear A100
   have H' := aM H
   clear H
   have p1131 : 0 ≤ (x15_1 : Int) := of_decide_eq_true za
   have q1131 : x15_1 < (l0.length : Int) := of_decide_eq_true za
   obtain ⟨ad1131, e1131, hx1131_0, hx1131_1⟩ := at_T59 HR0.out x15_1 p1131 q1131
   cases e1131
   replace hx1131_0 := zk HB.out hx1131_0
   replace hx1131_1 := zk HB.out hx1131_1
   replace p1131 := eq_true p1131
   replace q1131 := eq_true q1131
   go_wp2_with (first | ((with_reducible refine gate_dst (N := 6) rfl ?_); refine zx 6 #[.int .i64 0, .int .i64 0] 59 ?_; intro gb1132 hg w11 hbox hb; have n0_ := aM (Kd.R_below (mR_ HO_4.out) hb); have n1_ := aM (below_step zb hb); have n2_ := aM (hbox); have n3_ := aM ((ze : w.heap.size ≤ gb1132)); have n4_ := aM ((ze : w.heap.size ≤ gb1132)); clear HO_4 HB; have HO_4 := n0_; have HB := n1_; have BK1132 := n2_; have GW1132 := n3_; have GE1132 := n4_; clear n0_ n1_ n2_ n3_ n4_ hb hbox hg; have hcz12_0 : w11.cell? ⟨gb1132, 0, none⟩ = some (.int .i64 0) := (blk_cell BK1132.out 0).trans rfl; have hcz12_1 : w11.cell? ⟨gb1132, 1, none⟩ = some (.int .i64 0) := (blk_cell BK1132.out 1).trans rfl; have hfz12_0 := blk_frozen BK1132.out 0; have hfz12_1 := blk_frozen BK1132.out 1) | ((with_reducible refine gate_callee (f := 86) rfl ?_); refine goesL_ (some 21) rfl rfl Try.func86 (by kernel_rfl) rfl #[.agg #[.int .i64 ((rd_T59 l0 x15_1).f0), .int .i64 ((rd_T59 l0 x15_1).f1)]] rfl zm ?_; (with_reducible refine (impl_around.calls ((rd_T59 l0 x15_1).f0) ((rd_T59 l0 x15_1).f1) t1133 _ A10.out).mono ?_); rintro e w13 ⟨v1134, rfl, ho0, hb⟩; refine ⟨_, rfl, ?_⟩; have n0_ := aM (Kd.R_below (by (with_reducible repeat (first | apply Kd.R_alloc | apply Kd.R_drewN | apply Kd.R_drew)); exact (Kd.R_mono (Kd.R_far (p := ⟨gb1132, 1, none⟩) (Kd.R_far (p := ⟨gb1132, 0, none⟩) (Kd.R_types HO_4.out BK1132.out (by decide)) (fun _ hk => hk.2) (.int .i64 ((rd_T59 l0 x15_1).f0))) (fun _ hk => hk.2) (.int .i64 ((rd_T59 l0 x15_1).f1))) (fun _ h_ => h_.1))) hb); have n1_ := aM (Kd.R_lower (Kd.R_newB ho0 (g := gb1132) (o := .cells #[.int .i64 ((rd_T59 l0 x15_1).f0), .int .i64 ((rd_T59 l0 x15_1).f1)] 59 (0, 0)) (by (with_reducible repeat (first | refine blk_drewN ?_ _ | refine blk_drew ?_ | refine blk_alloc ?_ _)); refine blk_put (cs := #[.int .i64 ((rd_T59 l0 x15_1).f0), .int .i64 0]) ?_ 1 _ rfl; (with_reducible repeat (first | refine blk_drewN ?_ _ | refine blk_drew ?_ | refine blk_alloc ?_ _)); refine blk_put (cs := #[.int .i64 0, .int .i64 0]) ?_ 0 _ rfl; (with_reducible repeat (first | refine blk_drewN ?_ _ | refine blk_drew ?_ | refine blk_alloc ?_ _)); exact BK1132.out)) (below_size (zs GE1132.out))); have n2_ := aM (blk_below (g := gb1132) (o := .cells #[.int .i64 ((rd_T59 l0 x15_1).f0), .int .i64 ((rd_T59 l0 x15_1).f1)] 59 (0, 0)) (by (with_reducible repeat (first | refine blk_drewN ?_ _ | refine blk_drew ?_ | refine blk_alloc ?_ _)); refine blk_put (cs := #[.int .i64 ((rd_T59 l0 x15_1).f0), .int .i64 0]) ?_ 1 _ rfl; (with_reducible repeat (first | refine blk_drewN ?_ _ | refine blk_drew ?_ | refine blk_alloc ?_ _)); refine blk_put (cs := #[.int .i64 0, .int .i64 0]) ?_ 0 _ rfl; (with_reducible repeat (first | refine blk_drewN ?_ _ | refine blk_drew ?_ | refine blk_alloc ?_ _)); exact BK1132.out) hb); have n3_ := aM (below_step (zs GE1132.out) hb); clear HO_4 BK1132 HB; have HO_4 := n0_; have HO1135 := n1_; have BK1132 := n2_; have HB := n3_; clear n0_ n1_ n2_ n3_; (try clear hb); (try clear hb2); (try clear hk); (try clear hi); (try clear ho0); obtain ⟨Ao14, co14, eo14⟩ := Kd.R_slice HO1135.out; subst eo14))
   go_loopg [4, 23] k1 (fun kq v4 v23 w' => ∃ (x4_2 : List Int) (x23_2 : Int), v23 = .int .i64 x23_2 ∧ Aside0 (impl_BorderCells.l1 kq l0 x4_2 x15_1 l0 (l0.length : Int) x15_1 t1133 (t1133.length : Int) x23_2 = some (r1, r2)) ∧ Aside0 (kq ≤ k1) ∧ Aside0 (Kd.R (Kd.int .i64) 2 w' w.heap.size (fun _ => True) v4 x4_2) ∧ Aside0 (Kd.R k59 59 w' w.heap.size (fun k_ => k_ ≠ gb1132) (.slice Ao14 t1133.length co14) t1133) ∧ Aside0 (w'.heap[gb1132]? = some (.cells #[.int .i64 ((rd_T59 l0 x15_1).f0), .int .i64 ((rd_T59 l0 x15_1).f1)] 59 (0, 0))) ∧ Aside0 (Below w.heap.size w w'))
   case atStart => exact ⟨(x4_1), (0), zr, H', ⟨Nat.le_refl _⟩, ⟨mR_ HO_4.out⟩, ⟨zd1 HO1135.out⟩, ⟨mB_ BK1132.out⟩, ⟨zs GE1132.out⟩⟩
   case round =>
    clear H'
    try clear p1
    try clear q1
    try clear hx1
    try clear p2
    try clear c3
    try clear c4
    try clear c7
    try clear c7b0
    try clear c8
    try clear c8b0
    try clear c9
    try clear c9b0
    try clear p11
    try clear q11
    try clear hx11
    try clear hcz12_0
    try clear hcz12_1
    try clear hfz12_0
    try clear hfz12_1
    try clear hx1131_0
    try clear hx1131_1
    try clear p1131
    try clear p2
    try clear q1131
    obtain ⟨x4_2, x23_2, rfl, HA, HK2, HO_4, HO_21, BK1132, HB⟩ := hrel
    cases gk with
    | zero => exact absurd HA.out (by simp [impl_BorderCells.l1])
    | succ k2 =>
     have H := HA.out
     clear HA
     simp only [impl_BorderCells.l1] at H
     by_cases c15 : x23_2 < (t1133.length : Int)
     rotate_left
     ·rw [if_neg c15] at H
      have c15b0 : decide (x23_2 < (t1133.length : Int)) = false := decide_eq_false c15
      clear c15
      have H' := aM H
      clear H
      go_wp2
      go_roundg k2
      case measure => have := HK1.out; have := HK2.out; omega
      case rel => exact ⟨(x4_2), (wrap64 (x15_1 + 1)), zr, H', ⟨by have := HK1.out; have := HK2.out; omega⟩, ⟨mR_ HO_4.out⟩, ⟨zs GE1132.out⟩⟩
     rw [if_pos c15] at H
     have c15b0 : decide (x23_2 < (t1133.length : Int)) = true := decide_eq_true c15
     clear c15
     by_cases c16 : 0 ≤ x23_2
     rotate_left
     ·rw [if_neg c16] at H
      exact absurd H (by simp)
     rw [if_pos c16] at H
     have c16b0 : decide (0 ≤ x23_2) = true := decide_eq_true c16
     clear c16
     by_cases c17 : x23_2 < (t1133.length : Int)
     rotate_left
     ·rw [if_neg c17] at H
      exact absurd H (by simp)
     rw [if_pos c17] at H
     have c17b0 : decide (x23_2 < (t1133.length : Int)) = true := decide_eq_true c17
     clear c17
     replace H := Option.bind_eq_some_iff.mp H
     obtain ⟨t1138, A180, H⟩ := H
     replace H : (if t1138 = true then (impl_BorderCells.l1 k2 l0 x4_2 x15_1 l0 (l0.length : Int) x15_1 t1133 (t1133.length : Int) (wrap64 (x23_2 + 1))) else (if x4_2.length < 17592186044416 then (impl_BorderCells.l0 k2 l0 (x4_2 ++ [x15_1]) l0 (l0.length : Int) (wrap64 (x15_1 + 1))) else (none))) = some (r1, r2) := H
     have A18 := aM A180
     clear A180
     by_cases c19 : t1138 = true
     ·subst c19
      have H1 : (impl_BorderCells.l1 k2 l0 x4_2 x15_1 l0 (l0.length : Int) x15_1 t1133 (t1133.length : Int) (wrap64 (x23_2 + 1))) = some (r1, r2) := by rw [if_pos rfl] at H; exact H
      clear H
      have H := H1
      clear H1
      have H' := aM H
      clear H
      have p1136 : 0 ≤ (x23_2 : Int) := of_decide_eq_true za
      have q1136 : x23_2 < (t1133.length : Int) := of_decide_eq_true za
      obtain ⟨ad1136, e1136, hx1136_0, hx1136_1⟩ := at_T59 (Kd.R_reads' HO_21.out).2.2 x23_2 p1136 q1136
      cases e1136
      replace p1136 := eq_true p1136
      replace q1136 := eq_true q1136
      go_wp2_with (first | ((with_reducible refine gate_dst (N := 8) rfl ?_); refine zx 8 #[.int .i64 0, .int .i64 0] 59 ?_; intro gb1137 hg w20 hbox hb; have n0_ := aM (Kd.R_below (mR_ HO_4.out) hb); have n1_ := aM (Kd.R_below (Kd.R_elderB (mR_ HO_21.out) gb1137 (Nat.le_of_eq hg.symm)) hb); have n2_ := aM (blk_below (g := gb1132) (o := .cells #[.int .i64 ((rd_T59 l0 x15_1).f0), .int .i64 ((rd_T59 l0 x15_1).f1)] 59 (0, 0)) (mB_ BK1132.out) hb); have n3_ := aM (below_step (zs GE1132.out) hb); have n4_ := aM (hbox); have n5_ := aM ((zf GE1132.out : w.heap.size ≤ gb1137)); have n6_ := aM ((zf GE1132.out : w.heap.size ≤ gb1137)); have n7_ := aM ((zl BK1132.out : gb1132 ≠ gb1137)); have n8_ := aM ((zn BK1132.out : gb1137 ≠ gb1132)); clear HO_4 HO_21 BK1132 HB; have HO_4 := n0_; have HO_21 := n1_; have BK1132 := n2_; have HB := n3_; have BK1137 := n4_; have GW1137 := n5_; have GE1137 := n6_; have NB1132_1137 := n7_; have NB1137_1132 := n8_; clear n0_ n1_ n2_ n3_ n4_ n5_ n6_ n7_ n8_ hb hbox hg; have hnb21 := NB1137_1132.out; have hnc21 := NB1132_1137.out; have hcz22_0 : w20.cell? ⟨gb1137, 0, none⟩ = some (.int .i64 0) := (blk_cell BK1137.out 0).trans rfl; have hcz22_1 : w20.cell? ⟨gb1137, 1, none⟩ = some (.int .i64 0) := (blk_cell BK1137.out 1).trans rfl; have hfz22_0 := blk_frozen BK1137.out 0; have hfz22_1 := blk_frozen BK1137.out 1) | ((with_reducible refine gate_callee (f := 65) rfl ?_); refine goesL_ (some 29) rfl rfl Try.func65 (by kernel_rfl) rfl #[.slice (some ad1131) l0.length c0, .agg #[.int .i64 ((rd_T59 t1133 x23_2).f0), .int .i64 ((rd_T59 t1133 x23_2).f1)]] rfl zm ?_; (with_reducible refine (impl_Cell_65.calls k2 _ _ l0 ((rd_T59 t1133 x23_2).f0) ((rd_T59 t1133 x23_2).f1) true _ ?side1 ?side2 A18.out).mono ?_); (case side1 => exact Kd.C_below HR0.out (zt GE1132.out GE1137.out)); (case side2 => exact HC0.out); rintro e w23 ⟨rfl, hb⟩; refine ⟨_, rfl, ?_⟩; have n0_ := aM (Kd.R_below (by (with_reducible repeat (first | apply Kd.R_alloc | apply Kd.R_drewN | apply Kd.R_drew)); exact (Kd.R_mono (Kd.R_far (p := ⟨gb1137, 1, none⟩) (Kd.R_far (p := ⟨gb1137, 0, none⟩) (Kd.R_types HO_4.out BK1137.out (by decide)) (fun _ hk => hk.2) (.int .i64 ((rd_T59 t1133 x23_2).f0))) (fun _ hk => hk.2) (.int .i64 ((rd_T59 t1133 x23_2).f1))) (fun _ h_ => h_.1))) hb); have n1_ := aM (Kd.R_below (by (with_reducible repeat (first | apply Kd.R_alloc | apply Kd.R_drewN | apply Kd.R_drew)); exact (Kd.R_mono (Kd.R_far (p := ⟨gb1137, 1, none⟩) (Kd.R_far (p := ⟨gb1137, 0, none⟩) (Kd.R_mono HO_21.out (fun k_ hk => (⟨hk, hk.2⟩ : _ ∧ k_ ≠ gb1137))) (fun _ hk => hk.2) (.int .i64 ((rd_T59 t1133 x23_2).f0))) (fun _ hk => hk.2) (.int .i64 ((rd_T59 t1133 x23_2).f1))) (fun _ h_ => h_.1))) hb); have n2_ := aM (blk_below (g := gb1132) (o := .cells #[.int .i64 ((rd_T59 l0 x15_1).f0), .int .i64 ((rd_T59 l0 x15_1).f1)] 59 (0, 0)) (by (with_reducible repeat (first | refine blk_drewN ?_ _ | refine blk_drew ?_ | refine blk_alloc ?_ _)); refine blk_far ?_ NB1132_1137.out _; (with_reducible repeat (first | refine blk_drewN ?_ _ | refine blk_drew ?_ | refine blk_alloc ?_ _)); refine blk_far ?_ NB1132_1137.out _; (with_reducible repeat (first | refine blk_drewN ?_ _ | refine blk_drew ?_ | refine blk_alloc ?_ _)); exact BK1132.out) hb); have n3_ := aM (blk_below (g := gb1137) (o := .cells #[.int .i64 ((rd_T59 t1133 x23_2).f0), .int .i64 ((rd_T59 t1133 x23_2).f1)] 59 (0, 0)) (by (with_reducible repeat (first | refine blk_drewN ?_ _ | refine blk_drew ?_ | refine blk_alloc ?_ _)); refine blk_put (cs := #[.int .i64 ((rd_T59 t1133 x23_2).f0), .int .i64 0]) ?_ 1 _ rfl; (with_reducible repeat (first | refine blk_drewN ?_ _ | refine blk_drew ?_ | refine blk_alloc ?_ _)); refine blk_put (cs := #[.int .i64 0, .int .i64 0]) ?_ 0 _ rfl; (with_reducible repeat (first | refine blk_drewN ?_ _ | refine blk_drew ?_ | refine blk_alloc ?_ _)); exact BK1137.out) hb); have n4_ := aM (below_step (zt GE1132.out GE1137.out) hb); clear HO_4 HO_21 BK1132 BK1137 HB; have HO_4 := n0_; have HO_21 := n1_; have BK1132 := n2_; have BK1137 := n3_; have HB := n4_; clear n0_ n1_ n2_ n3_ n4_; (try clear hb); (try clear hb2); (try clear hk); (try clear hi)))
      go_roundg k2
      case measure => have := HK1.out; have := HK2.out; omega
      case rel => exact ⟨(x4_2), (wrap64 (x23_2 + 1)), zr, H', ⟨by have := HK1.out; have := HK2.out; omega⟩, ⟨mR_ HO_4.out⟩, ⟨zd2 HO_21.out⟩, ⟨mB_ BK1132.out⟩, ⟨zt GE1132.out GE1137.out⟩⟩
     replace c19 := Bool.eq_false_iff.mpr c19
     subst c19
     have H1 : (if x4_2.length < 17592186044416 then (impl_BorderCells.l0 k2 l0 (x4_2 ++ [x15_1]) l0 (l0.length : Int) (wrap64 (x15_1 + 1))) else (none)) = some (r1, r2) := by rw [if_neg (show ¬ (false = true) by decide)] at H; exact H
     clear H
     have H := H1
     clear H1
     by_cases c24 : x4_2.length < 17592186044416
     rotate_left
     ·rw [if_neg c24] at H
      exact absurd H (by simp)
     rw [if_pos c24] at H
     have LMc24 := aM c24
     clear c24
     obtain ⟨y1139, hy1139⟩ : ∃ y_ : List Int, y_ = (x4_2 ++ [x15_1]) := ⟨_, rfl⟩
     replace H : (impl_BorderCells.l0 k2 l0 y1139 l0 (l0.length : Int) (wrap64 (x15_1 + 1))) = some (r1, r2) := zy H hy1139
     have Ny1139 := aM hy1139
     clear hy1139
     have H' := aM H
     clear H
     have p1136 : 0 ≤ (x23_2 : Int) := of_decide_eq_true za
     have q1136 : x23_2 < (t1133.length : Int) := of_decide_eq_true za
     obtain ⟨ad1136, e1136, hx1136_0, hx1136_1⟩ := at_T59 (Kd.R_reads' HO_21.out).2.2 x23_2 p1136 q1136
     cases e1136
     replace p1136 := eq_true p1136
     replace q1136 := eq_true q1136
     go_wp2_with (first | ((with_reducible refine gate_dst (N := 8) rfl ?_); refine zx 8 #[.int .i64 0, .int .i64 0] 59 ?_; intro gb1137 hg w25 hbox hb; have n0_ := aM (Kd.R_below (mR_ HO_4.out) hb); have n1_ := aM (Kd.R_below (Kd.R_elderB (mR_ HO_21.out) gb1137 (Nat.le_of_eq hg.symm)) hb); have n2_ := aM (blk_below (g := gb1132) (o := .cells #[.int .i64 ((rd_T59 l0 x15_1).f0), .int .i64 ((rd_T59 l0 x15_1).f1)] 59 (0, 0)) (mB_ BK1132.out) hb); have n3_ := aM (below_step (zs GE1132.out) hb); have n4_ := aM (hbox); have n5_ := aM ((zf GE1132.out : w.heap.size ≤ gb1137)); have n6_ := aM ((zf GE1132.out : w.heap.size ≤ gb1137)); have n7_ := aM ((zl BK1132.out : gb1132 ≠ gb1137)); have n8_ := aM ((zn BK1132.out : gb1137 ≠ gb1132)); clear HO_4 HO_21 BK1132 HB; have HO_4 := n0_; have HO_21 := n1_; have BK1132 := n2_; have HB := n3_; have BK1137 := n4_; have GW1137 := n5_; have GE1137 := n6_; have NB1132_1137 := n7_; have NB1137_1132 := n8_; clear n0_ n1_ n2_ n3_ n4_ n5_ n6_ n7_ n8_ hb hbox hg; have hnb26 := NB1137_1132.out; have hnc26 := NB1132_1137.out; have hcz27_0 : w25.cell? ⟨gb1137, 0, none⟩ = some (.int .i64 0) := (blk_cell BK1137.out 0).trans rfl; have hcz27_1 : w25.cell? ⟨gb1137, 1, none⟩ = some (.int .i64 0) := (blk_cell BK1137.out 1).trans rfl; have hfz27_0 := blk_frozen BK1137.out 0; have hfz27_1 := blk_frozen BK1137.out 1) | ((with_reducible refine gate_callee (f := 65) rfl ?_); refine goesL_ (some 29) rfl rfl Try.func65 (by kernel_rfl) rfl #[.slice (some ad1131) l0.length c0, .agg #[.int .i64 ((rd_T59 t1133 x23_2).f0), .int .i64 ((rd_T59 t1133 x23_2).f1)]] rfl zm ?_; (with_reducible refine (impl_Cell_65.calls k2 _ _ l0 ((rd_T59 t1133 x23_2).f0) ((rd_T59 t1133 x23_2).f1) false _ ?side1 ?side2 A18.out).mono ?_); (case side1 => exact Kd.C_below HR0.out (zt GE1132.out GE1137.out)); (case side2 => exact HC0.out); rintro e w28 ⟨rfl, hb⟩; refine ⟨_, rfl, ?_⟩; have n0_ := aM (Kd.R_below (by (with_reducible repeat (first | apply Kd.R_alloc | apply Kd.R_drewN | apply Kd.R_drew)); exact (Kd.R_mono (Kd.R_far (p := ⟨gb1137, 1, none⟩) (Kd.R_far (p := ⟨gb1137, 0, none⟩) (Kd.R_types HO_4.out BK1137.out (by decide)) (fun _ hk => hk.2) (.int .i64 ((rd_T59 t1133 x23_2).f0))) (fun _ hk => hk.2) (.int .i64 ((rd_T59 t1133 x23_2).f1))) (fun _ h_ => h_.1))) hb); have n1_ := aM (Kd.R_below (by (with_reducible repeat (first | apply Kd.R_alloc | apply Kd.R_drewN | apply Kd.R_drew)); exact (Kd.R_mono (Kd.R_far (p := ⟨gb1137, 1, none⟩) (Kd.R_far (p := ⟨gb1137, 0, none⟩) (Kd.R_mono HO_21.out (fun k_ hk => (⟨hk, hk.2⟩ : _ ∧ k_ ≠ gb1137))) (fun _ hk => hk.2) (.int .i64 ((rd_T59 t1133 x23_2).f0))) (fun _ hk => hk.2) (.int .i64 ((rd_T59 t1133 x23_2).f1))) (fun _ h_ => h_.1))) hb); have n2_ := aM (blk_below (g := gb1132) (o := .cells #[.int .i64 ((rd_T59 l0 x15_1).f0), .int .i64 ((rd_T59 l0 x15_1).f1)] 59 (0, 0)) (by (with_reducible repeat (first | refine blk_drewN ?_ _ | refine blk_drew ?_ | refine blk_alloc ?_ _)); refine blk_far ?_ NB1132_1137.out _; (with_reducible repeat (first | refine blk_drewN ?_ _ | refine blk_drew ?_ | refine blk_alloc ?_ _)); refine blk_far ?_ NB1132_1137.out _; (with_reducible repeat (first | refine blk_drewN ?_ _ | refine blk_drew ?_ | refine blk_alloc ?_ _)); exact BK1132.out) hb); have n3_ := aM (blk_below (g := gb1137) (o := .cells #[.int .i64 ((rd_T59 t1133 x23_2).f0), .int .i64 ((rd_T59 t1133 x23_2).f1)] 59 (0, 0)) (by (with_reducible repeat (first | refine blk_drewN ?_ _ | refine blk_drew ?_ | refine blk_alloc ?_ _)); refine blk_put (cs := #[.int .i64 ((rd_T59 t1133 x23_2).f0), .int .i64 0]) ?_ 1 _ rfl; (with_reducible repeat (first | refine blk_drewN ?_ _ | refine blk_drew ?_ | refine blk_alloc ?_ _)); refine blk_put (cs := #[.int .i64 0, .int .i64 0]) ?_ 0 _ rfl; (with_reducible repeat (first | refine blk_drewN ?_ _ | refine blk_drew ?_ | refine blk_alloc ?_ _)); exact BK1137.out) hb); have n4_ := aM (below_step (zt GE1132.out GE1137.out) hb); clear HO_4 HO_21 BK1132 BK1137 HB; have HO_4 := n0_; have HO_21 := n1_; have BK1132 := n2_; have BK1137 := n3_; have HB := n4_; clear n0_ n1_ n2_ n3_ n4_; (try clear hb); (try clear hb2); (try clear hk); (try clear hi)) | ((with_reducible refine gate_builtin (b := .append) (xs := #[.tmp 31, .tmp 33]) rfl ?_); at_builtin; refine Kd.R_append (Kd.int .i64) (w0 := w) w.heap.size rfl (.tmp 31) (.tmp 33) 41 2 (.int .i64 0) 8 rfl Try.underlying41 info2 rfl (by decide) (by omega) u4 x4_2 x15_1 [.int .i64 x15_1] (fun _ => True) (fun _ => False) rfl rfl ?aP (fun _ hk => hk.elim) ?aF ?aO ?aB ?aS ?aL ?_; (case aP => exact rfl); (case aB => exact (zt GE1132.out GE1137.out)); (case aF => exact (fun _ _ => trivial)); (case aO => exact (mR_ HO_4.out)); (case aS => exact (below_size (zt GE1132.out GE1137.out))); (case aL => have := LMc24.out; omega); intro v1140 w29 ho hb hg hat; rw [← Ny1139.out] at ho; have n0_ := aM (Kd.R_over' (mR_ HO_21.out) (Kd.R_typed (mR_ HO_4.out)) (by decide) hg); have n1_ := aM (blk_grown (g := gb1132) (o := .cells #[.int .i64 ((rd_T59 l0 x15_1).f0), .int .i64 ((rd_T59 l0 x15_1).f1)] 59 (0, 0)) (mB_ BK1132.out) hg (Kd.R_ne HO_4.out BK1132.out (by decide))); have n2_ := aM (blk_grown (g := gb1137) (o := .cells #[.int .i64 ((rd_T59 t1133 x23_2).f0), .int .i64 ((rd_T59 t1133 x23_2).f1)] 59 (0, 0)) (mB_ BK1137.out) hg (Kd.R_ne HO_4.out BK1137.out (by decide))); have n3_ := aM (hb); have n4_ := aM (ho); clear HO_21 BK1132 BK1137 HB HO_4; have HO_21 := n0_; have BK1132 := n1_; have BK1137 := n2_; have HB := n3_; have HO1141 := n4_; clear n0_ n1_ n2_ n3_ n4_; clear ho hb hg hat))
     go_roundg k2
     case measure => have := HK1.out; have := HK2.out; omega
     case rel => exact ⟨(y1139), (wrap64 (x15_1 + 1)), zr, H', ⟨by have := HK1.out; have := HK2.out; omega⟩, ⟨mR_ HO1141.out⟩, ⟨zt GE1132.out GE1137.out⟩⟩
mutual
def spec_BorderCells.l0 : Nat → List (S59) → List Int → Int → Option (List Int × Int)
 | 0, _, _, _ => none
 | k + 1, x0, x4, x5 => if x5 < (x0.length : Int) then (if 0 ≤ x5 then ((spec_l02Around.f ((rd_T59 x0 x5).f0) ((rd_T59 x0 x5).f1)).bind fun t1147 => (spec_BorderCells.l1 k x0 x4 x5 t1147 0 0)) else (none)) else (some (x4, 0))
def spec_BorderCells.l1 : Nat → List (S59) → List Int → Int → List (S59) → Int → Int → Option (List Int × Int)
 | 0, _, _, _, _, _, _ => none
 | k + 1, x0, x4, x5, x6, x7, x8 => if x8 < 4 then (if 0 ≤ x8 then (if x8 < (x6.length : Int) then ((spec_l02Index.f k x0 ((rd_T59 x6 x8).f0) ((rd_T59 x6 x8).f1)).bind fun t1151 => (if t1151 ≥ 0 then (spec_BorderCells.l1 k x0 x4 x5 x6 (wrap64 (x7 + 1)) (wrap64 (x8 + 1))) else (spec_BorderCells.l1 k x0 x4 x5 x6 x7 (wrap64 (x8 + 1))))) else (none)) else (none)) else (if x7 < 4 then (if x4.length < 17592186044416 then (spec_BorderCells.l0 k x0 (x4 ++ [x5]) (wrap64 (x5 + 1))) else (none)) else (spec_BorderCells.l0 k x0 x4 (wrap64 (x5 + 1))))
end
def spec_BorderCells.f (k : Nat) (l0 : List (S59)) : Option (List Int × Int) := (spec_IsRegion.f k l0).bind fun t1142 => (if t1142 = true then (spec_BorderCells.l0 k l0 (([] : List Int)) 0) else (some (([] : List Int), 1)))
end Go.Proofs.Ytfdfdifjkaaeoaa.F
end
