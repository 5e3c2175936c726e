/- The row of FnRestParts, with what it needs: text 9 of 13. -/
import Derived.Test.YtabdmdkoffpppaaKFR7
set_option maxHeartbeats 8000000
set_option maxRecDepth 100000
section
namespace Go.Proofs.Ytabdmdkoffpppaa.F
open Go.RowKit Go.Proofs.YtabdmdkoffpppaaW.PrintWords Go.Proofs.YtabdmdkoffpppaaW.PrintLast Go.Proofs.YtabdmdkoffpppaaW.PrintMore
attribute [local go_sem] max2_int min2_int max_two min_two max_three min_three max_four min_four
set_option linter.unusedVariables false
set_option linter.unusedSimpArgs false
def impl_moved.l0 : Nat → Int → Int → List (S59) → List (S59) → Int → Int → Option ((List (S59)))
 | 0, _, _, _, _, _, _ => none
 | k + 1, x1, x2, x7, x13, x14, x15 => if x15 < x14 then (if 0 ≤ x15 then (if x15 < (x13.length : Int) then (if x7.length < 8796093022208 then (impl_moved.l0 k x1 x2 (x7 ++ [(⟨wrap64 (((rd_T59 x13 x15).f0) + x1), wrap64 (((rd_T59 x13 x15).f1) + x2)⟩ : S59)]) x13 x14 (wrap64 (x15 + 1))) else (none)) else (none)) else (none)) else (some x7)
def impl_moved.f (k : Nat) (l0 : List (S59)) (a1 : Int) (a2 : Int) : Option ((List (S59))) := if 0 ≤ (l0.length : Int) then (if ((l0.length : Int) : Int).toNat ≤ 17592186044416 then (impl_moved.l0 k a1 a2 (([] : List (S59))) l0 (l0.length : Int) 0) else (none)) else (none)
theorem impl_moved.calls (k : Nat) (A0 : Option Addr) (c0 : Nat) (l0 : List (S59)) (a1 : Int) (a2 : Int) (r : List (S59)) (w : World) (hr0 : Kd.C k59 w A0 l0.length l0) (hc0 : l0.length ≤ c0) (h : impl_moved.f k l0 a1 a2 = some r) :
  Calls Try.prog 151 #[.slice A0 l0.length c0, .int .i64 a1, .int .i64 a2] w fun e w' => ∃ v0_ : Value, e = .returned (v0_) ∧ Kd.R k59 59 w' w.heap.size (fun _ => True) v0_ r ∧ Below w.heap.size w w' := by
 have hu59 := Try.underlying59
 have HR0 := aM hr0
 have HC0 := aM hc0
 clear hr0 hc0
 have HB := aM (Below.refl w.heap.size w)
 have H : (if 0 ≤ (l0.length : Int) then (if ((l0.length : Int) : Int).toNat ≤ 17592186044416 then (impl_moved.l0 k a1 a2 (([] : List (S59))) l0 (l0.length : Int) 0) else (none)) else (none)) = some r := h
 clear h
 by_cases c4 : 0 ≤ (l0.length : Int)
 rotate_left
 ·rw [if_neg c4] at H
  exact absurd H (by simp)
 rw [if_pos c4] at H
 have c4b0 := eq_true c4
 have c4b1 : decide (0 ≤ (l0.length : Int)) = true := decide_eq_true c4
 clear c4
 by_cases c5 : ((l0.length : Int) : Int).toNat ≤ 17592186044416
 rotate_left
 ·rw [if_neg c5] at H
  exact absurd H (by simp)
 rw [if_pos c5] at H
 have c5b0 := eq_true c5
 have c5b1 : decide (((l0.length : Int) : Int).toNat ≤ 17592186044416) = true := decide_eq_true c5
 clear c5
 obtain ⟨y891, hy891⟩ : ∃ y_ : List (S59), y_ = (([] : List (S59))) := ⟨_, rfl⟩
 replace H : (impl_moved.l0 k a1 a2 y891 l0 (l0.length : Int) 0) = some r := zy H hy891
 have Ny891 := aM hy891
 clear hy891
 have H' := aM H
 clear H
 go_enter Try.func151, Try.ntmps151
 go_wp2_with (first | ((with_reducible refine gate_dst (N := 12) rfl ?_); refine Kd.R_make0 k59 _ 59 rfl (N := 12) rfl 43 _ _ rfl (l0.length : Int) rfl rfl Try.underlying43 (.agg #[(.int .i64 0), (.int .i64 0)]) 16 info59 rfl (by decide) (by omega) z59 (ok := fun _ => True) (okp := fun _ => True) (k59_mkM _ _ _ z59 ) (fun _ hk => hk) trivial (of_decide_eq_true za) (Nat.le_trans (Nat.mul_le_mul_right _ (of_decide_eq_true za : (l0.length : Int).toNat ≤ 17592186044416)) (by omega)) (Below.refl _ _) (Nat.le_refl _) ?_; intro v892 w6 ho7 hb hg_ hnew_; clear hg_ hnew_; (first | rw [← Ny891.out] at ho7 | (simp only [Int.reduceToNat] at ho7; rw [← Ny891.out] at ho7)); have n0_ := aM (Kd.R_lower ho7 (below_size zb)); have n1_ := aM (below_step zb hb); clear HB; have HO893 := n0_; have HB := n1_; clear n0_ n1_; clear hb ho7))
 go_loopg [7, 15] k (fun kq v7 v15 w' => ∃ (x7_1 : List (S59)) (x15_1 : Int), v15 = .int .i64 x15_1 ∧ Aside0 (impl_moved.l0 kq a1 a2 x7_1 l0 (l0.length : Int) x15_1 = some r) ∧ Aside0 (kq ≤ k) ∧ Aside0 (Kd.R k59 59 w' w.heap.size (fun _ => True) v7 x7_1) ∧ Aside0 (Below w.heap.size w w'))
 case atStart => exact ⟨(y891), (0), zr, H', ⟨Nat.le_refl _⟩, ⟨mR_ HO893.out⟩, ⟨zb⟩⟩
 case round =>
  clear H'
  try clear c1
  try clear p2
  try clear c4
  try clear c4b0
  try clear c4b1
  try clear c5
  try clear c5b0
  try clear c5b1
  obtain ⟨x7_1, x15_1, rfl, HA, HK1, HO_7, HB⟩ := hrel
  cases gk with
  | zero => exact absurd HA.out (by simp [impl_moved.l0])
  | succ k1 =>
   have H := HA.out
   clear HA
   simp only [impl_moved.l0] at H
   by_cases c8 : x15_1 < (l0.length : Int)
   rotate_left
   ·rw [if_neg c8] at H
    have c8b0 : decide (x15_1 < (l0.length : Int)) = false := decide_eq_false c8
    clear c8
    obtain rfl := Option.some.inj H
    go_wp2
    go_ret
    exact ⟨_, zw, mR_ HO_7.out, zb⟩
   rw [if_pos c8] at H
   have c8b0 : decide (x15_1 < (l0.length : Int)) = true := decide_eq_true c8
   clear c8
   by_cases c9 : 0 ≤ x15_1
   rotate_left
   ·rw [if_neg c9] at H
    exact absurd H (by simp)
   rw [if_pos c9] at H
   have c9b0 : decide (0 ≤ x15_1) = true := decide_eq_true c9
   clear c9
   by_cases c10 : x15_1 < (l0.length : Int)
   rotate_left
   ·rw [if_neg c10] at H
    exact absurd H (by simp)
   rw [if_pos c10] at H
   have c10b0 : decide (x15_1 < (l0.length : Int)) = true := decide_eq_true c10
   clear c10
   by_cases c11 : x7_1.length < 8796093022208
   rotate_left
   ·rw [if_neg c11] at H
    exact absurd H (by simp)
   rw [if_pos c11] at H
   have LMc11 := aM c11
   clear c11
   obtain ⟨y896, hy896⟩ : ∃ y_ : List (S59), y_ = (x7_1 ++ [(⟨wrap64 (((rd_T59 l0 x15_1).f0) + a1), wrap64 (((rd_T59 l0 x15_1).f1) + a2)⟩ : S59)]) := ⟨_, rfl⟩
   replace H : (impl_moved.l0 k1 a1 a2 y896 l0 (l0.length : Int) (wrap64 (x15_1 + 1))) = some r := zy H hy896
   have Ny896 := aM hy896
   clear hy896
   have H' := aM H
   clear H
   have p894 : 0 ≤ (x15_1 : Int) := of_decide_eq_true za
   have q894 : x15_1 < (l0.length : Int) := of_decide_eq_true za
   obtain ⟨ad894, e894, hx894_0, hx894_1⟩ := at_T59 HR0.out x15_1 p894 q894
   cases e894
   replace hx894_0 := (HB.out.cell (World.block_lt_of_cell? w _ hx894_0)).trans hx894_0
   replace hx894_1 := (HB.out.cell (World.block_lt_of_cell? w _ hx894_1)).trans hx894_1
   replace p894 := eq_true p894
   replace q894 := eq_true q894
   go_wp2_with (first | ((with_reducible refine gate_dst (N := 9) rfl ?_); refine box_event ?hg (N := 9) ?hd (cs := #[.int .i64 0, .int .i64 0]) (t := 59) ?hr ?_; (case hd => rfl); (case hg => rfl); (case hr => first | (go_simp; done) | (go_simp; rfl)); intro gb895 hg w12 hbox hb; have n0_ := aM (Kd.R_below (Kd.R_elderB (mR_ HO_7.out) gb895 (Nat.le_of_eq hg.symm)) hb); have n1_ := aM (below_step zb hb); have n2_ := aM (hbox); have n3_ := aM ((ze : w.heap.size ≤ gb895)); have n4_ := aM ((ze : w.heap.size ≤ gb895)); clear HO_7; clear HB; have HO_7 := n0_; have HB := n1_; have BK895 := n2_; have GW895 := n3_; have GE895 := n4_; clear n0_ n1_ n2_ n3_ n4_; clear hb hbox hg; have hcz13_0 : w12.cell? ⟨gb895, 0, none⟩ = some (.int .i64 0) := (blk_cell BK895.out 0).trans rfl; have hcz13_1 : w12.cell? ⟨gb895, 1, none⟩ = some (.int .i64 0) := (blk_cell BK895.out 1).trans rfl; have hfz13_0 := blk_frozen BK895.out 0; have hfz13_1 := blk_frozen BK895.out 1) | ((with_reducible refine gate_builtin (b := .append) (xs := #[.tmp 19, .tmp 29]) rfl ?_); at_builtin; refine Kd.R_append k59 (w0 := w) w.heap.size rfl (.tmp 19) (.tmp 29) 43 59 (.agg #[(.int .i64 0), (.int .i64 0)]) 16 rfl Try.underlying43 info59 rfl (by decide) (by omega) u7 x7_1 (⟨wrap64 (((rd_T59 l0 x15_1).f0) + a1), wrap64 (((rd_T59 l0 x15_1).f1) + a2)⟩ : S59) [.int .i64 (wrap64 (((rd_T59 l0 x15_1).f0) + a1)), .int .i64 (wrap64 (((rd_T59 l0 x15_1).f1) + a2))] (fun k_ => k_ ≠ gb895) (fun _ => False) rfl (by first | (go_simp; done) | (go_simp; rfl)) ?aP (fun _ hk => hk.elim) ?aF ?aO ?aB ?aS ?aL ?_; (case aP => exact k59_mkM _ _ _ (⟨wrap64 (((rd_T59 l0 x15_1).f0) + a1), wrap64 (((rd_T59 l0 x15_1).f1) + a2)⟩ : S59)); (case aB => exact (zs GE895.out)); (case aF => exact (fun k_ hk => Kd.freshB (g := gb895) (o := .cells #[.int .i64 ((rd_T59 l0 x15_1).f0), .int .i64 ((rd_T59 l0 x15_1).f1)] 59 (0, 0)) (by (with_reducible repeat (first | refine blk_drewN ?_ _ | refine blk_drew ?_ | refine blk_alloc ?_ _)); refine blk_put (cs := #[.int .i64 ((rd_T59 l0 x15_1).f0), .int .i64 0]) ?_ 1 _ rfl; (with_reducible repeat (first | refine blk_drewN ?_ _ | refine blk_drew ?_ | refine blk_alloc ?_ _)); refine blk_put (cs := #[.int .i64 0, .int .i64 0]) ?_ 0 _ rfl; (with_reducible repeat (first | refine blk_drewN ?_ _ | refine blk_drew ?_ | refine blk_alloc ?_ _)); exact BK895.out) k_ hk)); (case aO => exact (by (with_reducible repeat (first | apply Kd.R_alloc | apply Kd.R_drewN | apply Kd.R_drew)); exact Kd.R_mono (Kd.R_far (p := ⟨gb895, 1, none⟩) (Kd.R_far (p := ⟨gb895, 0, none⟩) (Kd.R_mono HO_7.out (fun k_ hk => (⟨hk, hk.2⟩ : _ ∧ k_ ≠ gb895))) (fun _ hk => hk.2) (.int .i64 ((rd_T59 l0 x15_1).f0))) (fun _ hk => hk.2) (.int .i64 ((rd_T59 l0 x15_1).f1))) (fun _ hk => hk.1.2))); (case aS => exact (below_size (zs GE895.out))); (case aL => have := LMc11.out; omega); intro v897 w14 ho hb hg hat; rw [← Ny896.out] at ho; have n0_ := aM (blk_grown (g := gb895) (o := .cells #[.int .i64 ((rd_T59 l0 x15_1).f0), .int .i64 ((rd_T59 l0 x15_1).f1)] 59 (0, 0)) (by (with_reducible repeat (first | refine blk_drewN ?_ _ | refine blk_drew ?_ | refine blk_alloc ?_ _)); refine blk_put (cs := #[.int .i64 ((rd_T59 l0 x15_1).f0), .int .i64 0]) ?_ 1 _ rfl; (with_reducible repeat (first | refine blk_drewN ?_ _ | refine blk_drew ?_ | refine blk_alloc ?_ _)); refine blk_put (cs := #[.int .i64 0, .int .i64 0]) ?_ 0 _ rfl; (with_reducible repeat (first | refine blk_drewN ?_ _ | refine blk_drew ?_ | refine blk_alloc ?_ _)); exact BK895.out) hg (Kd.R_away HO_7.out (fun _ hk => hk.2))); have n1_ := aM (hb); have n2_ := aM (ho); clear BK895; clear HB; clear HO_7; have BK895 := n0_; have HB := n1_; have HO898 := n2_; clear n0_ n1_ n2_; clear ho hb hg hat))
   go_roundg k1
   case measure => have := HK1.out; omega
   case rel => exact ⟨(y896), (wrap64 (x15_1 + 1)), zr, H', ⟨by have := HK1.out; omega⟩, ⟨by (with_reducible repeat (first | apply Kd.R_alloc | apply Kd.R_drewN | apply Kd.R_drew)); exact Kd.R_mono HO898.out (fun _ hk => trivial)⟩, ⟨zs GE895.out⟩⟩
def impl_normal.f (k : Nat) (l0 : List (S59)) : Option ((List (S59))) := (impl_corner.f k l0).bind fun bt899 => ((impl_moved.f k l0 (wrap64 (-bt899.1)) (wrap64 (-bt899.2))).bind fun t902 => (some t902))
theorem impl_normal.calls (k : Nat) (A0 : Option Addr) (c0 : Nat) (l0 : List (S59)) (r : List (S59)) (w : World) (hr0 : Kd.C k59 w A0 l0.length l0) (hc0 : l0.length ≤ c0) (h : impl_normal.f k l0 = some r) :
  Calls Try.prog 115 #[.slice A0 l0.length c0] w fun e w' => ∃ v0_ : Value, e = .returned (v0_) ∧ Kd.R k59 59 w' w.heap.size (fun _ => True) v0_ r ∧ Below w.heap.size w w' := by
 have hu59 := Try.underlying59
 have HR0 := aM hr0
 have HC0 := aM hc0
 clear hr0 hc0
 have HB := aM (Below.refl w.heap.size w)
 have H : ((impl_corner.f k l0).bind fun bt899 => ((impl_moved.f k l0 (wrap64 (-bt899.1)) (wrap64 (-bt899.2))).bind fun t902 => (some t902))) = some r := h
 clear h
 replace H := Option.bind_eq_some_iff.mp H
 obtain ⟨⟨t899, t900⟩, A20, H⟩ := H
 replace H : ((impl_moved.f k l0 (wrap64 (-t899)) (wrap64 (-t900))).bind fun t902 => (some t902)) = some r := H
 have A2 := aM A20
 clear A20
 replace H := Option.bind_eq_some_iff.mp H
 obtain ⟨t902, A30, H⟩ := H
 replace H : (some t902) = some r := H
 have A3 := aM A30
 clear A30
 obtain rfl := Option.some.inj H
 go_enter Try.func115, Try.ntmps115
 go_wp2_with (first | ((with_reducible refine gate_callee (f := 123) rfl ?_); refine goesL_ (some 5) rfl rfl Try.func123 (by kernel_rfl) rfl #[.slice A0 l0.length c0] rfl zm ?_; (with_reducible refine (impl_corner.calls k _ _ l0 t899 t900 _ ?side1 ?side2 A2.out).mono ?_); (case side1 => repeat (first | exact HR0.out | (with_reducible refine Kd.C_alloc ?_ _) | (with_reducible refine Kd.C_drewN ?_ _) | (with_reducible refine Kd.C_drew ?_))); (case side2 => exact HC0.out); rintro e w4 ⟨rfl, hb⟩; refine ⟨_, rfl, ?_⟩; have n0_ := aM (below_step zb hb); clear HB; have HB := n0_; clear n0_; (try clear hb); (try clear hb2); (try clear hk); (try clear hi)) | ((with_reducible refine gate_dst (N := 3) rfl ?_); refine box_event ?hg (N := 3) ?hd (cs := #[.int .i64 0, .int .i64 0]) (t := 59) ?hr ?_; (case hd => rfl); (case hg => rfl); (case hr => first | (go_simp; done) | (go_simp; rfl)); intro gb901 hg w5 hbox hb; have n0_ := aM (below_step zb hb); have n1_ := aM (hbox); have n2_ := aM ((ze : w.heap.size ≤ gb901)); have n3_ := aM ((ze : w.heap.size ≤ gb901)); clear HB; have HB := n0_; have BK901 := n1_; have GW901 := n2_; have GE901 := n3_; clear n0_ n1_ n2_ n3_; clear hb hbox hg; have hcz6_0 : w5.cell? ⟨gb901, 0, none⟩ = some (.int .i64 0) := (blk_cell BK901.out 0).trans rfl; have hcz6_1 : w5.cell? ⟨gb901, 1, none⟩ = some (.int .i64 0) := (blk_cell BK901.out 1).trans rfl; have hfz6_0 := blk_frozen BK901.out 0; have hfz6_1 := blk_frozen BK901.out 1) | ((with_reducible refine gate_callee (f := 151) rfl ?_); refine goesL_ (some 13) rfl rfl Try.func151 (by kernel_rfl) rfl #[.slice A0 l0.length c0, .int .i64 (wrap64 (-t899)), .int .i64 (wrap64 (-t900))] rfl zm ?_; (with_reducible refine (impl_moved.calls k _ _ l0 (wrap64 (-t899)) (wrap64 (-t900)) t902 _ ?side1 ?side2 A3.out).mono ?_); (case side1 => exact Kd.C_below HR0.out (zs GE901.out)); (case side2 => exact HC0.out); rintro e w7 ⟨v903, rfl, ho0, hb⟩; refine ⟨_, rfl, ?_⟩; have n0_ := aM (Kd.R_lower (Kd.R_newB ho0 (g := gb901) (o := .cells #[.int .i64 t899, .int .i64 t900] 59 (0, 0)) (by (with_reducible repeat (first | refine blk_drewN ?_ _ | refine blk_drew ?_ | refine blk_alloc ?_ _)); refine blk_put (cs := #[.int .i64 t899, .int .i64 0]) ?_ 1 _ rfl; (with_reducible repeat (first | refine blk_drewN ?_ _ | refine blk_drew ?_ | refine blk_alloc ?_ _)); refine blk_put (cs := #[.int .i64 0, .int .i64 0]) ?_ 0 _ rfl; (with_reducible repeat (first | refine blk_drewN ?_ _ | refine blk_drew ?_ | refine blk_alloc ?_ _)); exact BK901.out)) (below_size (zs GE901.out))); have n1_ := aM (blk_below (g := gb901) (o := .cells #[.int .i64 t899, .int .i64 t900] 59 (0, 0)) (by (with_reducible repeat (first | refine blk_drewN ?_ _ | refine blk_drew ?_ | refine blk_alloc ?_ _)); refine blk_put (cs := #[.int .i64 t899, .int .i64 0]) ?_ 1 _ rfl; (with_reducible repeat (first | refine blk_drewN ?_ _ | refine blk_drew ?_ | refine blk_alloc ?_ _)); refine blk_put (cs := #[.int .i64 0, .int .i64 0]) ?_ 0 _ rfl; (with_reducible repeat (first | refine blk_drewN ?_ _ | refine blk_drew ?_ | refine blk_alloc ?_ _)); exact BK901.out) hb); have n2_ := aM (below_step (zs GE901.out) hb); clear BK901; clear HB; have HO904 := n0_; have BK901 := n1_; have HB := n2_; clear n0_ n1_ n2_; (try clear hb); (try clear hb2); (try clear hk); (try clear hi); (try clear ho0)))
 go_ret
 exact ⟨_, zw, by (with_reducible repeat (first | apply Kd.R_alloc | apply Kd.R_drewN | apply Kd.R_drew)); exact Kd.R_mono HO904.out (fun _ hk => trivial), zs GE901.out⟩
def spec_l10Rectangle.l0 : Nat → Int → Int → List (S59) → Int → Option ((List (S59)))
 | 0, _, _, _, _ => none
 | k + 1, x0, x1, x5, x6 => if x6 < (wrap64 (x0 * x1)) then (if x0 = 0 then (none) else (if x5.length < 8796093022208 then (spec_l10Rectangle.l0 k x0 x1 (x5 ++ [(⟨Int.tmod x6 x0, wrap64 (Int.tdiv x6 x0)⟩ : S59)]) (wrap64 (x6 + 1))) else (none))) else (some x5)
def spec_l10Rectangle.f (k : Nat) (a0 : Int) (a1 : Int) : Option ((List (S59))) := spec_l10Rectangle.l0 k a0 a1 (([] : List (S59))) 0
def spec_l10Rectangle.T5 : Bool × List (List Nat × List Nat) := (true, [([], []), ([], []), ([], []), ([1, 2], [1, 2]), ([], []), ([], []), ([4, 5], [4, 5]), ([3, 6], [3, 6]), ([7], [7]), ([0, 8], [0, 8]), ([9, 9, 0, 1, 2, 3, 4, 5, 6, 7, 8, 9], [0, 9])])
def spec_l10Rectangle.B5 : List Nat := [0, 0, 0, 6, 0, 0, 48, 126, 254, 511, 1023]
theorem spec_l10Rectangle.tab5 : rtab .any (opsOf Try.f130 5) = spec_l10Rectangle.T5 := by kernel_rfl
theorem spec_l10Rectangle.bits5 : waitsOk spec_l10Rectangle.T5.2 spec_l10Rectangle.B5 = true := by kernel_rfl
theorem spec_l10Rectangle.calls (k : Nat) (a0 : Int) (a1 : Int) (r : List (S59)) (w : World) (h : spec_l10Rectangle.f k a0 a1 = some r) :
  Calls Try.prog 130 #[.int .i64 a0, .int .i64 a1] w fun e w' => ∃ v0_ : Value, e = .returned (v0_) ∧ Kd.R k59 59 w' w.heap.size (fun _ => True) v0_ r ∧ Below w.heap.size w w' := by
 have hu59 := Try.underlying59
 have HB := aM (Below.refl w.heap.size w)
 have H : (spec_l10Rectangle.l0 k a0 a1 (([] : List (S59))) 0) = some r := h
 clear h
 obtain ⟨y1094, hy1094⟩ : ∃ y_ : List (S59), y_ = (([] : List (S59))) := ⟨_, rfl⟩
 replace H : (spec_l10Rectangle.l0 k a0 a1 y1094 0) = some r := zy H hy1094
 have Ny1094 := aM hy1094
 clear hy1094
 have H' := aM H
 clear H
 go_enter Try.func130, Try.ntmps130
 go_wp2_with (first | ((with_reducible refine gate_dst (N := 7) rfl ?_); refine Kd.R_lit k59 _ 59 ?hg (N := 7) ?hd (xs := ([] : List (S59))) (inner := []) (ok := fun _ => True) (okp := fun _ => True) ?hr ?hp (fun _ hk => hk) trivial (Below.refl _ _) (Nat.le_refl _) (by simp) ?_; (case hd => rfl); (case hg => rfl); (case hr => first | (go_simp; done) | (go_simp; rfl)); (case hp => exact (Reps.none _ _)); intro v1095 w3 ho4 hb hg_ hnew_; clear hg_ hnew_; (first | rw [← Ny1094.out] at ho4 | (simp only [Int.reduceToNat] at ho4; rw [← Ny1094.out] at ho4)); have n0_ := aM (Kd.R_lower ho4 (below_size zb)); have n1_ := aM (below_step zb hb); clear HB; have HO1096 := n0_; have HB := n1_; clear n0_ n1_; clear hb ho4))
 go_loopg [5, 6] k (fun kq v5 v6 w' => ∃ (x5_1 : List (S59)) (x6_1 : Int), v6 = .int .i64 x6_1 ∧ Aside0 (spec_l10Rectangle.l0 kq a0 a1 x5_1 x6_1 = some r) ∧ Aside0 (kq ≤ k) ∧ Aside0 (Kd.R k59 59 w' w.heap.size (fun _ => True) v5 x5_1) ∧ Aside0 (Below w.heap.size w w'))
 case atStart => exact ⟨(y1094), (0), zr, H', ⟨Nat.le_refl _⟩, ⟨mR_ HO1096.out⟩, ⟨zb⟩⟩
 case round =>
  clear H'
  try clear c1
  try clear p2
  obtain ⟨x5_1, x6_1, rfl, HA, HK1, HO_5, HB⟩ := hrel
  cases gk with
  | zero => exact absurd HA.out (by simp [spec_l10Rectangle.l0])
  | succ k1 =>
   have H := HA.out
   clear HA
   simp only [spec_l10Rectangle.l0] at H
   by_cases c5 : x6_1 < (wrap64 (a0 * a1))
   rotate_left
   ·rw [if_neg c5] at H
    have c5b0 : decide (x6_1 < (wrap64 (a0 * a1))) = false := decide_eq_false c5
    clear c5
    obtain rfl := Option.some.inj H
    go_wp2
    go_ret
    exact ⟨_, zw, mR_ HO_5.out, zb⟩
   rw [if_pos c5] at H
   have c5b0 : decide (x6_1 < (wrap64 (a0 * a1))) = true := decide_eq_true c5
   clear c5
   by_cases c6 : a0 = 0
   ·rw [if_pos c6] at H
    exact absurd H (by simp)
   rw [if_neg c6] at H
   have c6b0 : (a0 == 0) = false := beq_eq_false_iff_ne.mpr c6
   have c6b1 : (a0 != 0) = true := bne_iff_ne.mpr c6
   by_cases c7 : x5_1.length < 8796093022208
   rotate_left
   ·rw [if_neg c7] at H
    exact absurd H (by simp)
   rw [if_pos c7] at H
   have LMc7 := aM c7
   clear c7
   obtain ⟨y1097, hy1097⟩ : ∃ y_ : List (S59), y_ = (x5_1 ++ [(⟨Int.tmod x6_1 a0, wrap64 (Int.tdiv x6_1 a0)⟩ : S59)]) := ⟨_, rfl⟩
   replace H : (spec_l10Rectangle.l0 k1 a0 a1 y1097 (wrap64 (x6_1 + 1))) = some r := zy H hy1097
   have Ny1097 := aM hy1097
   clear hy1097
   have H' := aM H
   clear H
   try go_wp2
   have n0_ := aM (Kd.R_drew HO_5.out)
   have n1_ := aM (below_drew1 HB.out)
   clear HO_5
   clear HB
   have HO_5 := n0_
   have HB := n1_
   clear n0_ n1_
   refine start_ (n := 11) (S := fun w' => True) (ds := []) #[false, false, false, false, false, false, false, false, false, false, false] (by kernel_rfl) rfl rfl trivial (fun hHeld => ?_); refine with_tabW spec_l10Rectangle.tab5 spec_l10Rectangle.bits5 (fun HT_ HW_ => ?_)
   generalize wr.drew = w8 at HO_5 HB hHeld ⊢
   refine pure_ (i := 0) (N := some 15) (v := ?_) (a' := ?_) #[true, false, false, false, false, false, false, false, false, false, false] rfl rfl zz (fun _ _ _ h => h) (Or.inl ⟨by rfl, ?_⟩) ?_ ?_
   rotate_left
   ·intro w'
    go_simp
    with_reducible rfl
   rotate_left
   ·simp only [Act.put, xA, xB, xC, i64_w, i32_w]
    rfl
   refine pure_ (i := 1) (N := some 16) (v := ?_) (a' := ?_) #[true, true, false, false, false, false, false, false, false, false, false] rfl rfl zz (fun _ _ _ h => h) (Or.inl ⟨by rfl, ?_⟩) ?_ ?_
   rotate_left
   ·intro w'
    go_simp
    with_reducible rfl
   rotate_left
   ·simp only [Act.put, xA, xB, xC, i64_w, i32_w]
    rfl
   refine pure_ (i := 2) (N := some 17) (v := ?_) (a' := ?_) #[true, true, true, false, false, false, false, false, false, false, false] rfl rfl zz (fun _ _ _ h => h) (Or.inl ⟨by rfl, ?_⟩) ?_ ?_
   rotate_left
   ·intro w'
    go_simp
    with_reducible rfl
   rotate_left
   ·simp only [Act.put, xA, xB, xC, i64_w, i32_w]
    rfl
   refine pure_ (i := 3) (N := some 18) (v := ?_) (a' := ?_) #[true, true, true, true, false, false, false, false, false, false, false] rfl rfl zz (fun _ _ _ h => h) (Or.inl ⟨by rfl, ?_⟩) ?_ ?_
   rotate_left
   ·intro w'
    go_simp
    with_reducible rfl
   rotate_left
   ·simp only [Act.put, xA, xB, xC, i64_w, i32_w]
    rfl
   refine pure_ (i := 4) (N := some 19) (v := ?_) (a' := ?_) #[true, true, true, true, true, false, false, false, false, false, false] rfl rfl zz (fun _ _ _ h => h) (Or.inl ⟨by rfl, ?_⟩) ?_ ?_
   rotate_left
   ·intro w'
    go_simp
    with_reducible rfl
   rotate_left
   ·simp only [Act.put, xA, xB, xC, i64_w, i32_w]
    rfl
   refine pure_ (i := 5) (N := some 20) (v := ?_) (a' := ?_) #[true, true, true, true, true, true, false, false, false, false, false] rfl rfl zz (fun _ _ _ h => h) (Or.inl ⟨by rfl, ?_⟩) ?_ ?_
   rotate_left
   ·intro w'
    go_simp
    with_reducible rfl
   rotate_left
   ·simp only [Act.put, xA, xB, xC, i64_w, i32_w]
    rfl
   refine pure_ (i := 6) (N := some 21) (v := ?_) (a' := ?_) #[true, true, true, true, true, true, true, false, false, false, false] rfl rfl zz (fun _ _ _ h => h) (Or.inl ⟨by rfl, ?_⟩) ?_ ?_
   rotate_left
   ·intro w'
    go_simp
    with_reducible rfl
   rotate_left
   ·simp only [Act.put, xA, xB, xC, i64_w, i32_w]
    rfl
   refine pure_ (i := 7) (N := some 22) (v := ?_) (a' := ?_) #[true, true, true, true, true, true, true, true, false, false, false] rfl rfl zz (fun _ _ _ h => h) (Or.inl ⟨by rfl, ?_⟩) ?_ ?_
   rotate_left
   ·intro w'
    go_simp
    with_reducible rfl
   rotate_left
   ·simp only [Act.put, xA, xB, xC, i64_w, i32_w]
    rfl
   refine one_ (i := 8) (N := some 23) #[true, true, true, true, true, true, true, true, true, false, false] rfl rfl (one_of HT_.out (by kernel_rfl)) (by decide) (fun K hK => ?_)
   refine value_ (w1 := ?_) (v := ?_) (by rfl) rfl ?_ ?_
   rotate_left 2
   ·go_simp
    constructor
    ·rfl
    ·rfl
   refine hK.out _ _ trivial (fun hHeld => ?_)
   clear hK K
   refine norm_ (a' := ?_) ?_ ?_
   rotate_left
   ·show Act.put _ (some 23) _ = _
    simp only [Act.put, xA, xB, xC, i64_w, i32_w]
    rfl
   refine one_ (i := 9) (N := some 24) #[true, true, true, true, true, true, true, true, true, true, false] rfl rfl (one_of HT_.out (by kernel_rfl)) (by decide) (fun K hK => ?_)
   refine Kd.R_append_step k59 (w0 := w) w.heap.size (by rfl) (.tmp 15) (.tmp 23) 43 59 (.agg #[(.int .i64 0), (.int .i64 0)]) 16 rfl Try.underlying43 info59 rfl (by decide) (by omega) u5 x5_1 (⟨Int.tmod x6_1 a0, wrap64 (Int.tdiv x6_1 a0)⟩ : S59) [.int .i64 (Int.tmod x6_1 a0), .int .i64 (wrap64 (Int.tdiv x6_1 a0))] (fun _ => True) (fun _ => False) rfl rfl ?aP (fun _ hk => hk.elim) ?aF ?aO ?aB ?aS ?aL ?_
   (case aP => exact k59_mkM _ _ _ (⟨Int.tmod x6_1 a0, wrap64 (Int.tdiv x6_1 a0)⟩ : S59))
   (case aB => exact zb)
   (case aF => exact (fun _ _ => trivial))
   (case aO => exact (mR_ HO_5.out))
   (case aS => exact (below_size zb))
   (case aL => have := LMc7.out; omega)
   intro v1098 w9 ho hb hg hat
   rw [← Ny1097.out] at ho
   have n0_ := aM (hb)
   have n1_ := aM (ho)
   clear HB
   clear HO_5
   have HB := n0_
   have HO1099 := n1_
   clear n0_ n1_
   clear ho hb hg hat
   refine hK.out _ _ trivial (fun hHeld => ?_)
   clear hK K
   refine norm_ (a' := ?_) ?_ ?_
   rotate_left
   ·show Act.put _ (some 24) _ = _
    simp only [Act.put, xA, xB, xC, i64_w, i32_w]
    rfl
   refine pure_ (i := 10) (N := some 5) (v := ?_) (a' := ?_) #[true, true, true, true, true, true, true, true, true, true, true] rfl rfl zz (fun _ _ _ h => h) (Or.inl ⟨by rfl, ?_⟩) ?_ ?_
   rotate_left
   ·intro w'
    go_simp
    with_reducible rfl
   rotate_left
   ·simp only [Act.put, xA, xB, xC, i64_w, i32_w]
    rfl
   refine done_ (done_of HT_.out (by kernel_rfl)) ?_
   try go_wp2
   go_roundg k1
   case measure => have := HK1.out; omega
   case rel => exact ⟨(y1097), (wrap64 (x6_1 + 1)), zr, H', ⟨by have := HK1.out; omega⟩, ⟨mR_ HO1099.out⟩, ⟨zb⟩⟩
def spec_l05Without.f (l0 : List (S59)) (a1 : Int) : Option ((List (S59))) := (some (([] : List (S59)) : List (S59))).bind fun y1100 => (if 0 ≤ a1 then (if a1 ≤ (l0.length : Int) then ((some (l0.take (a1 : Int).toNat : List (S59))).bind fun y1103 => (if y1100.length + y1103.length < 8796093022208 then ((some (y1100 ++ y1103 : List (S59))).bind fun y1107 => (if 0 ≤ (wrap64 (a1 + 1)) then (if (wrap64 (a1 + 1)) ≤ (l0.length : Int) then ((some (l0.drop ((wrap64 (a1 + 1)) : Int).toNat : List (S59))).bind fun y1110 => (if y1107.length + y1110.length < 8796093022208 then (some (y1107 ++ y1110)) else (none))) else (none)) else (none))) else (none))) else (none)) else (none))
def spec_l05Without.T1 : Bool × List (List Nat × List Nat) := (true, [([], []), ([], []), ([], []), ([1, 2], [1, 2]), ([0, 3], [0, 3]), ([], []), ([], []), ([6], [6]), ([5, 7], [5, 7]), ([4, 8, 4], [4, 8]), ([9, 9, 0, 1, 2, 3, 4, 5, 6, 7, 8, 9], [9])])
def spec_l05Without.B1 : List Nat := [0, 0, 0, 6, 15, 0, 0, 64, 224, 511, 1023]
theorem spec_l05Without.tab1 : rtab .any (opsOf Try.f159 1) = spec_l05Without.T1 := by kernel_rfl
theorem spec_l05Without.bits1 : waitsOk spec_l05Without.T1.2 spec_l05Without.B1 = true := by kernel_rfl
theorem spec_l05Without.calls (A0 : Option Addr) (c0 : Nat) (l0 : List (S59)) (a1 : Int) (r : List (S59)) (w : World) (hr0 : Kd.C k59 w A0 l0.length l0) (hc0 : l0.length ≤ c0) (h : spec_l05Without.f l0 a1 = some r) :
  Calls Try.prog 159 #[.slice A0 l0.length c0, .int .i64 a1] w fun e w' => ∃ v0_ : Value, e = .returned (v0_) ∧ Kd.R k59 59 w' w.heap.size (fun _ => True) v0_ r ∧ Below w.heap.size w w' := by
 have HR0 := aM hr0
 have HC0 := aM hc0
 clear hr0 hc0
 have HB := aM (Below.refl w.heap.size w)
 have H : ((some (([] : List (S59)) : List (S59))).bind fun y1100 => (if 0 ≤ a1 then (if a1 ≤ (l0.length : Int) then ((some (l0.take (a1 : Int).toNat : List (S59))).bind fun y1103 => (if y1100.length + y1103.length < 8796093022208 then ((some (y1100 ++ y1103 : List (S59))).bind fun y1107 => (if 0 ≤ (wrap64 (a1 + 1)) then (if (wrap64 (a1 + 1)) ≤ (l0.length : Int) then ((some (l0.drop ((wrap64 (a1 + 1)) : Int).toNat : List (S59))).bind fun y1110 => (if y1107.length + y1110.length < 8796093022208 then (some (y1107 ++ y1110)) else (none))) else (none)) else (none))) else (none))) else (none)) else (none))) = some r := h
 clear h
 obtain ⟨y1100, hy1100⟩ : ∃ y_ : List (S59), y_ = (([] : List (S59))) := ⟨_, rfl⟩
 replace H : (if 0 ≤ a1 then (if a1 ≤ (l0.length : Int) then ((some (l0.take (a1 : Int).toNat : List (S59))).bind fun y1103 => (if y1100.length + y1103.length < 8796093022208 then ((some (y1100 ++ y1103 : List (S59))).bind fun y1107 => (if 0 ≤ (wrap64 (a1 + 1)) then (if (wrap64 (a1 + 1)) ≤ (l0.length : Int) then ((some (l0.drop ((wrap64 (a1 + 1)) : Int).toNat : List (S59))).bind fun y1110 => (if y1107.length + y1110.length < 8796093022208 then (some (y1107 ++ y1110)) else (none))) else (none)) else (none))) else (none))) else (none)) else (none)) = some r := zy H hy1100
 have Ny1100 := aM hy1100
 clear hy1100
 by_cases c3 : 0 ≤ a1
 rotate_left
 ·rw [if_neg c3] at H
  exact absurd H (by simp)
 rw [if_pos c3] at H
 have c3b0 := eq_true c3
 have c3b1 : decide (0 ≤ a1) = true := decide_eq_true c3
 clear c3
 by_cases c4 : a1 ≤ (l0.length : Int)
 rotate_left
 ·rw [if_neg c4] at H
  exact absurd H (by simp)
 rw [if_pos c4] at H
 have c4b0 := eq_true c4
 have c4b1 : decide (a1 ≤ (l0.length : Int)) = true := decide_eq_true c4
 clear c4
 obtain ⟨y1103, hy1103⟩ : ∃ y_ : List (S59), y_ = (l0.take (a1 : Int).toNat) := ⟨_, rfl⟩
 replace H : (if y1100.length + y1103.length < 8796093022208 then ((some (y1100 ++ y1103 : List (S59))).bind fun y1107 => (if 0 ≤ (wrap64 (a1 + 1)) then (if (wrap64 (a1 + 1)) ≤ (l0.length : Int) then ((some (l0.drop ((wrap64 (a1 + 1)) : Int).toNat : List (S59))).bind fun y1110 => (if y1107.length + y1110.length < 8796093022208 then (some (y1107 ++ y1110)) else (none))) else (none)) else (none))) else (none)) = some r := zy H hy1103
 have Ny1103 := aM hy1103
 clear hy1103
 by_cases c5 : y1100.length + y1103.length < 8796093022208
 rotate_left
 ·rw [if_neg c5] at H
  exact absurd H (by simp)
 rw [if_pos c5] at H
 have LMc5 := aM c5
 clear c5
 obtain ⟨y1107, hy1107⟩ : ∃ y_ : List (S59), y_ = (y1100 ++ y1103) := ⟨_, rfl⟩
 replace H : (if 0 ≤ (wrap64 (a1 + 1)) then (if (wrap64 (a1 + 1)) ≤ (l0.length : Int) then ((some (l0.drop ((wrap64 (a1 + 1)) : Int).toNat : List (S59))).bind fun y1110 => (if y1107.length + y1110.length < 8796093022208 then (some (y1107 ++ y1110)) else (none))) else (none)) else (none)) = some r := zy H hy1107
 have Ny1107 := aM hy1107
 clear hy1107
 obtain ⟨ji6, hji6⟩ : ∃ j_ : Int, (wrap64 (a1 + 1)) = j_ := ⟨_, rfl⟩
 replace H : (if 0 ≤ (ji6) then (if (ji6) ≤ (l0.length : Int) then ((some (l0.drop ((ji6) : Int).toNat : List (S59))).bind fun y1110 => (if y1107.length + y1110.length < 8796093022208 then (some (y1107 ++ y1110)) else (none))) else (none)) else (none)) = some r := by first | (rw [hji6] at H; exact H) | (simp only [hji6] at H ⊢; exact H)
 have hji6w : (IntKind.i64.wrap (a1 + 1)) = ji6 := (i64_w _).trans hji6
 by_cases c7 : 0 ≤ (ji6)
 rotate_left
 ·rw [if_neg c7] at H
  exact absurd H (by simp)
 rw [if_pos c7] at H
 have c7b0 := eq_true c7
 have c7b1 : decide (0 ≤ (ji6)) = true := decide_eq_true c7
 clear c7
 by_cases c8 : (ji6) ≤ (l0.length : Int)
 rotate_left
 ·rw [if_neg c8] at H
  exact absurd H (by simp)
 rw [if_pos c8] at H
 have c8b0 := eq_true c8
 have c8b1 : decide ((ji6) ≤ (l0.length : Int)) = true := decide_eq_true c8
 clear c8
 obtain ⟨y1110, hy1110⟩ : ∃ y_ : List (S59), y_ = (l0.drop ((ji6) : Int).toNat) := ⟨_, rfl⟩
 replace H : (if y1107.length + y1110.length < 8796093022208 then (some (y1107 ++ y1110)) else (none)) = some r := zy H hy1110
 have Ny1110 := aM hy1110
 clear hy1110
 by_cases c9 : y1107.length + y1110.length < 8796093022208
 rotate_left
 ·rw [if_neg c9] at H
  exact absurd H (by simp)
 rw [if_pos c9] at H
 have LMc9 := aM c9
 clear c9
 obtain ⟨y1114, hy1114⟩ : ∃ y_ : List (S59), y_ = (y1107 ++ y1110) := ⟨_, rfl⟩
 replace H : (some y1114) = some r := zy H hy1114
 have Ny1114 := aM hy1114
 clear hy1114
 obtain rfl := Option.some.inj H
 go_enter Try.func159, Try.ntmps159
 try go_wp2
 have n0_ := aM (below_drew1 HB.out)
 clear HB
 have HB := n0_
 clear n0_
 have q11 : (a1 : Int) ≤ ((l0.length : Int) : Int) := of_decide_eq_true za
 obtain ⟨i011, hi011, _, hsz11, _⟩ := info_parts info59
 have hroom11 : l0.length ≤ c0 := HC0.out
 have hC11 : Kd.C k59 _ A0 l0.length l0 := HR0.out
 have hcut11 := cut_to (P := Try.prog) 43 59 .i64 Try.underlying43 hi011 A0 l0.length c0 a1 (of_decide_eq_true za) q11 hroom11
 have hr11 := Kd.C_take (m := (a1 : Int).toNat) hC11 (by omega)
 have hy11 : y1103.length = (a1 : Int).toNat := (by rw [Ny1103.out, List.length_take]; omega)
 rw [← Ny1103.out] at hr11
 rw [← hy11] at hcut11
 have HR1106 := aM hr11
 have HC1106 := aM (show y1103.length ≤ c0 from by omega)
 clear hr11 hC11 hroom11 hi011 hsz11
 have KY11 := aM hy11
 clear hy11
 replace q11 := eq_true q11
 have q12 : ((ji6) : Int) ≤ ((l0.length : Int) : Int) := of_decide_eq_true za
 obtain ⟨i012, hi012, _, hsz12, _⟩ := info_parts info59
 have hroom12 : l0.length ≤ c0 := HC0.out
 have hC12 : Kd.C k59 _ A0 l0.length l0 := HR0.out
 have q012 : (0 : Int) ≤ ((ji6) : Int) := of_decide_eq_true za
 have hcut12 := cut_from (P := Try.prog) 43 59 .i64 Try.underlying43 hi012 2 hsz12 A0 l0.length c0 (ji6) q012 q12
 have hr12 := Kd.C_drop (m := ((ji6) : Int).toNat) (c := c0) hC12 (by omega) hroom12
 obtain ⟨A12, hA12⟩ : ∃ A1, A1 = (if c0 = ((ji6) : Int).toNat then A0 else (A0 : Option Addr).map (·.add (((ji6) : Int).toNat * 2))) := ⟨_, rfl⟩
 obtain ⟨c12, hc12⟩ : ∃ c1, c1 = c0 - ((ji6) : Int).toNat := ⟨_, rfl⟩
 have hy12 : y1110.length = l0.length - ((ji6) : Int).toNat := (by rw [Ny1110.out, List.length_drop] <;> omega)
 rw [show (l0).drop ((ji6) : Int).toNat = y1110 from Ny1110.out.symm] at hr12
 replace hr12 : Kd.C k59 _ A12 y1110.length y1110 := (by rw [hA12]; exact hr12)
 rw [← hy12, ← hA12, ← hc12] at hcut12
 have HR1113 := aM hr12
 have HC1113 := aM (show y1110.length ≤ c12 from by rw [hy12, hc12]; exact Nat.sub_le_sub_right hroom12 _)
 clear hr12 hC12 hroom12 hi012 hsz12 hc12
 have KY12 := aM hy12
 have KA12 := aM hA12
 clear hy12 hA12
 replace q12 := eq_true q12
 refine start_ (n := 11) (S := fun w' => True) (ds := []) #[false, false, false, false, false, false, false, false, false, false, false] (by kernel_rfl) rfl rfl trivial (fun hHeld => ?_); refine with_tabW spec_l05Without.tab1 spec_l05Without.bits1 (fun HT_ HW_ => ?_)
 generalize w.drew = w10 at HB HR1106 HR1113 hHeld ⊢
 refine pure_ (i := 1) (N := some 6) (v := ?_) (a' := ?_) #[false, true, false, false, false, false, false, false, false, false, false] rfl rfl zz (fun _ _ _ h => h) (Or.inl ⟨by rfl, ?_⟩) ?_ ?_
 rotate_left
 ·intro w'
  go_simp
  with_reducible rfl
 rotate_left
 ·simp only [Act.put, xA, xB, xC, i64_w, i32_w]
  rfl
 refine pure_ (i := 2) (N := some 7) (v := ?_) (a' := ?_) #[false, true, true, false, false, false, false, false, false, false, false] rfl rfl zz (fun _ _ _ h => h) (Or.inl ⟨by rfl, ?_⟩) ?_ ?_
 rotate_left
 ·intro w'
  go_simp
  with_reducible rfl
 rotate_left
 ·simp only [Act.put, xA, xB, xC, i64_w, i32_w]
  rfl
 refine pure_ (i := 3) (N := some 8) (v := ?_) (a' := ?_) #[false, true, true, true, false, false, false, false, false, false, false] rfl rfl zz (fun _ _ _ h => h) (Or.inl ⟨by rfl, ?_⟩) ?_ ?_
 rotate_left
 ·intro w'
  go_simp
  with_reducible rfl
 rotate_left
 ·simp only [Act.put, xA, xB, xC, i64_w, i32_w]
  rfl
 refine pure_ (i := 5) (N := some 10) (v := ?_) (a' := ?_) #[false, true, true, true, false, true, false, false, false, false, false] rfl rfl zz (fun _ _ _ h => h) (Or.inl ⟨by rfl, ?_⟩) ?_ ?_
 rotate_left
 ·intro w'
  go_simp
  with_reducible rfl
 rotate_left
 ·simp only [Act.put, xA, xB, xC, i64_w, i32_w]
  rfl
 refine pure_ (i := 6) (N := some 11) (v := ?_) (a' := ?_) #[false, true, true, true, false, true, true, false, false, false, false] rfl rfl zz (fun _ _ _ h => h) (Or.inl ⟨by rfl, ?_⟩) ?_ ?_
 rotate_left
 ·intro w'
  go_simp
  with_reducible rfl
 rotate_left
 ·simp only [Act.put, xA, xB, xC, i64_w, i32_w]
  rfl
 refine pure_ (i := 7) (N := some 12) (v := ?_) (a' := ?_) #[false, true, true, true, false, true, true, true, false, false, false] rfl rfl zz (fun _ _ _ h => h) (Or.inl ⟨by rfl, ?_⟩) ?_ ?_
 rotate_left
 ·intro w'
  go_simp
  with_reducible rfl
 rotate_left
 ·simp only [Act.put, xA, xB, xC, i64_w, i32_w]
  rfl
 refine pure_ (i := 8) (N := some 13) (v := ?_) (a' := ?_) #[false, true, true, true, false, true, true, true, true, false, false] rfl rfl zz (fun _ _ _ h => h) (Or.inl ⟨by rfl, ?_⟩) ?_ ?_
 rotate_left
 ·intro w'
  go_simp
  with_reducible rfl
 rotate_left
 ·simp only [Act.put, xA, xB, xC, i64_w, i32_w]
  rfl
 refine one_ (i := 0) (N := some 5) #[true, true, true, true, false, true, true, true, true, false, false] rfl rfl (one_of HT_.out (by kernel_rfl)) (by decide) (fun K hK => ?_)
 refine Kd.R_lit_step k59 _ 59 ?hg (N := 5) ?hd (xs := ([] : List (S59))) (inner := []) (ok := fun _ => True) (okp := fun _ => True) ?hr ?hp (fun _ hk => hk) trivial (Below.refl _ _) (Nat.le_refl _) (by simp) ?_; (case hd => rfl); (case hg => rfl); (case hr => first | (go_simp; done) | (go_simp; rfl)); (case hp => exact (Reps.none _ _))
 intro v1101 w13 ho14 hb hg_ hnew_
 clear hg_ hnew_
 (first | rw [← Ny1100.out] at ho14 | (simp only [Int.reduceToNat] at ho14; rw [← Ny1100.out] at ho14))
 have n0_ := aM (Kd.R_lower ho14 (below_size zb))
 have n1_ := aM (below_step zb hb)
 clear HB
 have HO1102 := n0_
 have HB := n1_
 clear n0_ n1_
 clear hb ho14
 refine hK.out _ _ trivial (fun hHeld => ?_)
 clear hK K
 refine norm_ (a' := ?_) ?_ ?_
 rotate_left
 ·show Act.put _ (some 5) _ = _
  simp only [Act.put, xA, xB, xC, i64_w, i32_w]
  rfl
 refine one_ (i := 4) (N := some 9) #[true, true, true, true, true, true, true, true, true, false, false] rfl rfl (one_of HT_.out (by kernel_rfl)) (by decide) (fun K hK => ?_)
 refine Kd.R_append_rows_step k59 (w0 := w) w.heap.size (by rfl) (.tmp 5) (.tmp 8) 43 59 (.agg #[(.int .i64 0), (.int .i64 0)]) 16 rfl Try.underlying43 info59 rfl (by decide) (by omega) v1101 y1100 y1103 _ _ _ (fun _ => True) (fun _ => False) rfl rfl ?aO ?aR (fun _ _ h => h) (fun _ h => h.elim) ?aF ?aB ?aS ?aL ?_
 (case aR => repeat (first | exact (Kd.C_below HR1106.out HB.out) | (with_reducible refine Kd.C_alloc ?_ _) | (with_reducible refine Kd.C_drewN ?_ _) | (with_reducible refine Kd.C_drew ?_)))
 (case aB => exact zb)
 (case aF => exact (fun _ _ => trivial))
 (case aO => exact (mR_ HO1102.out))
 (case aS => exact (below_size zb))
 (case aL => have := LMc5.out; omega)
 intro v1108 w15 ho hb hg hat
 rw [← Ny1107.out] at ho
 have n0_ := aM (hb)
 have n1_ := aM (ho)
 clear HB
 clear HO1102
 have HB := n0_
 have HO1109 := n1_
 clear n0_ n1_
 clear ho hb hg hat
 refine hK.out _ _ trivial (fun hHeld => ?_)
 clear hK K
 refine norm_ (a' := ?_) ?_ ?_
 rotate_left
 ·show Act.put _ (some 9) _ = _
  simp only [Act.put, xA, xB, xC, i64_w, i32_w]
  rfl
 refine one_ (i := 9) (N := some 14) #[true, true, true, true, true, true, true, true, true, true, false] rfl rfl (one_of HT_.out (by kernel_rfl)) (by decide) (fun K hK => ?_)
 refine Kd.R_append_rows_step k59 (w0 := w) w.heap.size (by rfl) (.tmp 9) (.tmp 13) 43 59 (.agg #[(.int .i64 0), (.int .i64 0)]) 16 rfl Try.underlying43 info59 rfl (by decide) (by omega) v1108 y1107 y1110 _ _ _ (fun _ => True) (fun _ => False) rfl rfl ?aO ?aR (fun _ _ h => h) (fun _ h => h.elim) ?aF ?aB ?aS ?aL ?_
 (case aR => repeat (first | exact (Kd.C_below HR1113.out HB.out) | (with_reducible refine Kd.C_alloc ?_ _) | (with_reducible refine Kd.C_drewN ?_ _) | (with_reducible refine Kd.C_drew ?_)))
 (case aB => exact zb)
 (case aF => exact (fun _ _ => trivial))
 (case aO => exact (mR_ HO1109.out))
 (case aS => exact (below_size zb))
 (case aL => have := LMc9.out; omega)
 intro v1115 w16 ho hb hg hat
 rw [← Ny1114.out] at ho
 have n0_ := aM (hb)
 have n1_ := aM (ho)
 clear HB
 clear HO1109
 have HB := n0_
 have HO1116 := n1_
 clear n0_ n1_
 clear ho hb hg hat
 refine hK.out _ _ trivial (fun hHeld => ?_)
 clear hK K
 refine norm_ (a' := ?_) ?_ ?_
 rotate_left
 ·show Act.put _ (some 14) _ = _
  simp only [Act.put, xA, xB, xC, i64_w, i32_w]
  rfl
 refine pure_ (i := 10) (N := some 4) (v := ?_) (a' := ?_) #[true, true, true, true, true, true, true, true, true, true, true] rfl rfl zz (fun _ _ _ h => h) (Or.inl ⟨by rfl, ?_⟩) ?_ ?_
 rotate_left
 ·intro w'
  go_simp
  with_reducible rfl
 rotate_left
 ·simp only [Act.put, xA, xB, xC, i64_w, i32_w]
  rfl
 refine done_ (done_of HT_.out (by kernel_rfl)) ?_
 try go_wp2
 go_ret
 exact ⟨_, by first | rfl | (simp [errW_none, errW_some] <;> rfl) | (simp only [← hji6]; first | rfl | (simp [errW_none, errW_some] <;> rfl)) | (simp [*, errW_none, errW_some] <;> rfl), mR_ HO1116.out, zb⟩
def spec_l10DrawSmall.f (k : Nat) (s0_0 : List Int) (s0_1 : Int) (s0_2 : Int) : Option ((List (S59)) × Int × Int) := (some (([(([3, 4] : List Int)), (([4, 3] : List Int)), (([2, 5] : List Int)), (([5, 2] : List Int)), (([3, 3] : List Int)), (([6, 2] : List Int)), (([4, 2] : List Int))] : List (List Int)) : List (List Int))).bind fun y1138 => ((spec_l01Next.f s0_0 s0_1 s0_2 7).bind fun bt1141 => (if 0 ≤ bt1141.1 then (if bt1141.1 < (y1138.length : Int) then (if 0 < ((rd_L1 y1138 bt1141.1).length : Int) then (if 1 < ((rd_L1 y1138 bt1141.1).length : Int) then ((spec_l10Rectangle.f k (rd (rd_L1 y1138 bt1141.1) 0) (rd (rd_L1 y1138 bt1141.1) 1)).bind fun t1147 => ((spec_l01Next.f s0_0 bt1141.2.1 bt1141.2.2 3).bind fun bt1150 => (if bt1150.1 = 0 then ((spec_l01Next.f s0_0 bt1150.2.1 bt1150.2.2 (t1147.length : Int)).bind fun bt1153 => ((spec_l05Without.f t1147 bt1153.1).bind fun t1156 => ((spec_l02Normal.f k t1156).bind fun t1159 => (some (t1159, bt1153.2.1, bt1153.2.2))))) else (some (t1147, bt1150.2.1, bt1150.2.2))))) else (none)) else (none)) else (none)) else (none)))
def spec_l10DrawSmall.T3 : Bool × List (List Nat × List Nat) := (true, [([], []), ([0], [0]), ([1], [1]), ([], []), ([3], [3]), ([4], [4]), ([2, 5], [2, 5]), ([6, 6, 0, 1, 2, 3, 4, 5, 6], [6])])
def spec_l10DrawSmall.B3 : List Nat := [0, 1, 3, 0, 8, 24, 63, 127]
theorem spec_l10DrawSmall.tab3 : rtab .any (opsOf Try.f150 3) = spec_l10DrawSmall.T3 := by kernel_rfl
theorem spec_l10DrawSmall.bits3 : waitsOk spec_l10DrawSmall.T3.2 spec_l10DrawSmall.B3 = true := by kernel_rfl
theorem spec_l10DrawSmall.calls (k : Nat) (g : Nat) (s0_0 : List Int) (s0_1 : Int) (s0_2 : Int) (r1 : List (S59)) (r2 : Int) (r3 : Int) (w0 w : World) (hI : IsS132 w0 w g s0_0 s0_1 s0_2) (hB : Below w0.heap.size w0 w) (h : spec_l10DrawSmall.f k s0_0 s0_1 s0_2 = some (r1, r2, r3)) :
  Calls Try.prog 150 #[.pointer (some ⟨g, 0, none⟩)] w fun e w' => ∃ v0_ : Value, e = .returned (v0_) ∧ Kd.R k59 59 w' w.heap.size (fun _ => True) v0_ r1 ∧ IsS132 w0 w' g s0_0 r2 r3 ∧ Below w0.heap.size w0 w' ∧ KeepBut w w' g none := by
 have HI0 := aM hI
 have HK := aM (KeepBut.refl w g none)
 have HL := aM hB.size
 clear hI
 have HW0 := aM hB.size
 have HB := aM hB
 clear hB
 have H : ((some (([(([3, 4] : List Int)), (([4, 3] : List Int)), (([2, 5] : List Int)), (([5, 2] : List Int)), (([3, 3] : List Int)), (([6, 2] : List Int)), (([4, 2] : List Int))] : List (List Int)) : List (List Int))).bind fun y1138 => ((spec_l01Next.f s0_0 s0_1 s0_2 7).bind fun bt1141 => (if 0 ≤ bt1141.1 then (if bt1141.1 < (y1138.length : Int) then (if 0 < ((rd_L1 y1138 bt1141.1).length : Int) then (if 1 < ((rd_L1 y1138 bt1141.1).length : Int) then ((spec_l10Rectangle.f k (rd (rd_L1 y1138 bt1141.1) 0) (rd (rd_L1 y1138 bt1141.1) 1)).bind fun t1147 => ((spec_l01Next.f s0_0 bt1141.2.1 bt1141.2.2 3).bind fun bt1150 => (if bt1150.1 = 0 then ((spec_l01Next.f s0_0 bt1150.2.1 bt1150.2.2 (t1147.length : Int)).bind fun bt1153 => ((spec_l05Without.f t1147 bt1153.1).bind fun t1156 => ((spec_l02Normal.f k t1156).bind fun t1159 => (some (t1159, bt1153.2.1, bt1153.2.2))))) else (some (t1147, bt1150.2.1, bt1150.2.2))))) else (none)) else (none)) else (none)) else (none)))) = some (r1, r2, r3) := h
 clear h
 obtain ⟨y1117, hy1117⟩ : ∃ y_ : List Int, y_ = (([3, 4] : List Int)) := ⟨_, rfl⟩
 replace H : ((some (([y1117, (([4, 3] : List Int)), (([2, 5] : List Int)), (([5, 2] : List Int)), (([3, 3] : List Int)), (([6, 2] : List Int)), (([4, 2] : List Int))] : List (List Int)) : List (List Int))).bind fun y1138 => ((spec_l01Next.f s0_0 s0_1 s0_2 7).bind fun bt1141 => (if 0 ≤ bt1141.1 then (if bt1141.1 < (y1138.length : Int) then (if 0 < ((rd_L1 y1138 bt1141.1).length : Int) then (if 1 < ((rd_L1 y1138 bt1141.1).length : Int) then ((spec_l10Rectangle.f k (rd (rd_L1 y1138 bt1141.1) 0) (rd (rd_L1 y1138 bt1141.1) 1)).bind fun t1147 => ((spec_l01Next.f s0_0 bt1141.2.1 bt1141.2.2 3).bind fun bt1150 => (if bt1150.1 = 0 then ((spec_l01Next.f s0_0 bt1150.2.1 bt1150.2.2 (t1147.length : Int)).bind fun bt1153 => ((spec_l05Without.f t1147 bt1153.1).bind fun t1156 => ((spec_l02Normal.f k t1156).bind fun t1159 => (some (t1159, bt1153.2.1, bt1153.2.2))))) else (some (t1147, bt1150.2.1, bt1150.2.2))))) else (none)) else (none)) else (none)) else (none)))) = some (r1, r2, r3) := zy H hy1117
 have Ny1117 := aM hy1117
 clear hy1117
 obtain ⟨y1120, hy1120⟩ : ∃ y_ : List Int, y_ = (([4, 3] : List Int)) := ⟨_, rfl⟩
 replace H : ((some (([y1117, y1120, (([2, 5] : List Int)), (([5, 2] : List Int)), (([3, 3] : List Int)), (([6, 2] : List Int)), (([4, 2] : List Int))] : List (List Int)) : List (List Int))).bind fun y1138 => ((spec_l01Next.f s0_0 s0_1 s0_2 7).bind fun bt1141 => (if 0 ≤ bt1141.1 then (if bt1141.1 < (y1138.length : Int) then (if 0 < ((rd_L1 y1138 bt1141.1).length : Int) then (if 1 < ((rd_L1 y1138 bt1141.1).length : Int) then ((spec_l10Rectangle.f k (rd (rd_L1 y1138 bt1141.1) 0) (rd (rd_L1 y1138 bt1141.1) 1)).bind fun t1147 => ((spec_l01Next.f s0_0 bt1141.2.1 bt1141.2.2 3).bind fun bt1150 => (if bt1150.1 = 0 then ((spec_l01Next.f s0_0 bt1150.2.1 bt1150.2.2 (t1147.length : Int)).bind fun bt1153 => ((spec_l05Without.f t1147 bt1153.1).bind fun t1156 => ((spec_l02Normal.f k t1156).bind fun t1159 => (some (t1159, bt1153.2.1, bt1153.2.2))))) else (some (t1147, bt1150.2.1, bt1150.2.2))))) else (none)) else (none)) else (none)) else (none)))) = some (r1, r2, r3) := zy H hy1120
 have Ny1120 := aM hy1120
 clear hy1120
 obtain ⟨y1123, hy1123⟩ : ∃ y_ : List Int, y_ = (([2, 5] : List Int)) := ⟨_, rfl⟩
 replace H : ((some (([y1117, y1120, y1123, (([5, 2] : List Int)), (([3, 3] : List Int)), (([6, 2] : List Int)), (([4, 2] : List Int))] : List (List Int)) : List (List Int))).bind fun y1138 => ((spec_l01Next.f s0_0 s0_1 s0_2 7).bind fun bt1141 => (if 0 ≤ bt1141.1 then (if bt1141.1 < (y1138.length : Int) then (if 0 < ((rd_L1 y1138 bt1141.1).length : Int) then (if 1 < ((rd_L1 y1138 bt1141.1).length : Int) then ((spec_l10Rectangle.f k (rd (rd_L1 y1138 bt1141.1) 0) (rd (rd_L1 y1138 bt1141.1) 1)).bind fun t1147 => ((spec_l01Next.f s0_0 bt1141.2.1 bt1141.2.2 3).bind fun bt1150 => (if bt1150.1 = 0 then ((spec_l01Next.f s0_0 bt1150.2.1 bt1150.2.2 (t1147.length : Int)).bind fun bt1153 => ((spec_l05Without.f t1147 bt1153.1).bind fun t1156 => ((spec_l02Normal.f k t1156).bind fun t1159 => (some (t1159, bt1153.2.1, bt1153.2.2))))) else (some (t1147, bt1150.2.1, bt1150.2.2))))) else (none)) else (none)) else (none)) else (none)))) = some (r1, r2, r3) := zy H hy1123
 have Ny1123 := aM hy1123
 clear hy1123
 obtain ⟨y1126, hy1126⟩ : ∃ y_ : List Int, y_ = (([5, 2] : List Int)) := ⟨_, rfl⟩
 replace H : ((some (([y1117, y1120, y1123, y1126, (([3, 3] : List Int)), (([6, 2] : List Int)), (([4, 2] : List Int))] : List (List Int)) : List (List Int))).bind fun y1138 => ((spec_l01Next.f s0_0 s0_1 s0_2 7).bind fun bt1141 => (if 0 ≤ bt1141.1 then (if bt1141.1 < (y1138.length : Int) then (if 0 < ((rd_L1 y1138 bt1141.1).length : Int) then (if 1 < ((rd_L1 y1138 bt1141.1).length : Int) then ((spec_l10Rectangle.f k (rd (rd_L1 y1138 bt1141.1) 0) (rd (rd_L1 y1138 bt1141.1) 1)).bind fun t1147 => ((spec_l01Next.f s0_0 bt1141.2.1 bt1141.2.2 3).bind fun bt1150 => (if bt1150.1 = 0 then ((spec_l01Next.f s0_0 bt1150.2.1 bt1150.2.2 (t1147.length : Int)).bind fun bt1153 => ((spec_l05Without.f t1147 bt1153.1).bind fun t1156 => ((spec_l02Normal.f k t1156).bind fun t1159 => (some (t1159, bt1153.2.1, bt1153.2.2))))) else (some (t1147, bt1150.2.1, bt1150.2.2))))) else (none)) else (none)) else (none)) else (none)))) = some (r1, r2, r3) := zy H hy1126
 have Ny1126 := aM hy1126
 clear hy1126
 obtain ⟨y1129, hy1129⟩ : ∃ y_ : List Int, y_ = (([3, 3] : List Int)) := ⟨_, rfl⟩
 replace H : ((some (([y1117, y1120, y1123, y1126, y1129, (([6, 2] : List Int)), (([4, 2] : List Int))] : List (List Int)) : List (List Int))).bind fun y1138 => ((spec_l01Next.f s0_0 s0_1 s0_2 7).bind fun bt1141 => (if 0 ≤ bt1141.1 then (if bt1141.1 < (y1138.length : Int) then (if 0 < ((rd_L1 y1138 bt1141.1).length : Int) then (if 1 < ((rd_L1 y1138 bt1141.1).length : Int) then ((spec_l10Rectangle.f k (rd (rd_L1 y1138 bt1141.1) 0) (rd (rd_L1 y1138 bt1141.1) 1)).bind fun t1147 => ((spec_l01Next.f s0_0 bt1141.2.1 bt1141.2.2 3).bind fun bt1150 => (if bt1150.1 = 0 then ((spec_l01Next.f s0_0 bt1150.2.1 bt1150.2.2 (t1147.length : Int)).bind fun bt1153 => ((spec_l05Without.f t1147 bt1153.1).bind fun t1156 => ((spec_l02Normal.f k t1156).bind fun t1159 => (some (t1159, bt1153.2.1, bt1153.2.2))))) else (some (t1147, bt1150.2.1, bt1150.2.2))))) else (none)) else (none)) else (none)) else (none)))) = some (r1, r2, r3) := zy H hy1129
 have Ny1129 := aM hy1129
 clear hy1129
 obtain ⟨y1132, hy1132⟩ : ∃ y_ : List Int, y_ = (([6, 2] : List Int)) := ⟨_, rfl⟩
 replace H : ((some (([y1117, y1120, y1123, y1126, y1129, y1132, (([4, 2] : List Int))] : List (List Int)) : List (List Int))).bind fun y1138 => ((spec_l01Next.f s0_0 s0_1 s0_2 7).bind fun bt1141 => (if 0 ≤ bt1141.1 then (if bt1141.1 < (y1138.length : Int) then (if 0 < ((rd_L1 y1138 bt1141.1).length : Int) then (if 1 < ((rd_L1 y1138 bt1141.1).length : Int) then ((spec_l10Rectangle.f k (rd (rd_L1 y1138 bt1141.1) 0) (rd (rd_L1 y1138 bt1141.1) 1)).bind fun t1147 => ((spec_l01Next.f s0_0 bt1141.2.1 bt1141.2.2 3).bind fun bt1150 => (if bt1150.1 = 0 then ((spec_l01Next.f s0_0 bt1150.2.1 bt1150.2.2 (t1147.length : Int)).bind fun bt1153 => ((spec_l05Without.f t1147 bt1153.1).bind fun t1156 => ((spec_l02Normal.f k t1156).bind fun t1159 => (some (t1159, bt1153.2.1, bt1153.2.2))))) else (some (t1147, bt1150.2.1, bt1150.2.2))))) else (none)) else (none)) else (none)) else (none)))) = some (r1, r2, r3) := zy H hy1132
 have Ny1132 := aM hy1132
 clear hy1132
 obtain ⟨y1135, hy1135⟩ : ∃ y_ : List Int, y_ = (([4, 2] : List Int)) := ⟨_, rfl⟩
 replace H : ((some (([y1117, y1120, y1123, y1126, y1129, y1132, y1135] : List (List Int)) : List (List Int))).bind fun y1138 => ((spec_l01Next.f s0_0 s0_1 s0_2 7).bind fun bt1141 => (if 0 ≤ bt1141.1 then (if bt1141.1 < (y1138.length : Int) then (if 0 < ((rd_L1 y1138 bt1141.1).length : Int) then (if 1 < ((rd_L1 y1138 bt1141.1).length : Int) then ((spec_l10Rectangle.f k (rd (rd_L1 y1138 bt1141.1) 0) (rd (rd_L1 y1138 bt1141.1) 1)).bind fun t1147 => ((spec_l01Next.f s0_0 bt1141.2.1 bt1141.2.2 3).bind fun bt1150 => (if bt1150.1 = 0 then ((spec_l01Next.f s0_0 bt1150.2.1 bt1150.2.2 (t1147.length : Int)).bind fun bt1153 => ((spec_l05Without.f t1147 bt1153.1).bind fun t1156 => ((spec_l02Normal.f k t1156).bind fun t1159 => (some (t1159, bt1153.2.1, bt1153.2.2))))) else (some (t1147, bt1150.2.1, bt1150.2.2))))) else (none)) else (none)) else (none)) else (none)))) = some (r1, r2, r3) := zy H hy1135
 have Ny1135 := aM hy1135
 clear hy1135
 obtain ⟨y1138, hy1138⟩ : ∃ y_ : List (List Int), y_ = (([y1117, y1120, y1123, y1126, y1129, y1132, y1135] : List (List Int))) := ⟨_, rfl⟩
 replace H : ((spec_l01Next.f s0_0 s0_1 s0_2 7).bind fun bt1141 => (if 0 ≤ bt1141.1 then (if bt1141.1 < (y1138.length : Int) then (if 0 < ((rd_L1 y1138 bt1141.1).length : Int) then (if 1 < ((rd_L1 y1138 bt1141.1).length : Int) then ((spec_l10Rectangle.f k (rd (rd_L1 y1138 bt1141.1) 0) (rd (rd_L1 y1138 bt1141.1) 1)).bind fun t1147 => ((spec_l01Next.f s0_0 bt1141.2.1 bt1141.2.2 3).bind fun bt1150 => (if bt1150.1 = 0 then ((spec_l01Next.f s0_0 bt1150.2.1 bt1150.2.2 (t1147.length : Int)).bind fun bt1153 => ((spec_l05Without.f t1147 bt1153.1).bind fun t1156 => ((spec_l02Normal.f k t1156).bind fun t1159 => (some (t1159, bt1153.2.1, bt1153.2.2))))) else (some (t1147, bt1150.2.1, bt1150.2.2))))) else (none)) else (none)) else (none)) else (none))) = some (r1, r2, r3) := zy H hy1138
 have Ny1138 := aM hy1138
 clear hy1138
 replace H := Option.bind_eq_some_iff.mp H
 obtain ⟨⟨t1141, t1142, t1143⟩, A20, H⟩ := H
 replace H : (if 0 ≤ t1141 then (if t1141 < (y1138.length : Int) then (if 0 < ((rd_L1 y1138 t1141).length : Int) then (if 1 < ((rd_L1 y1138 t1141).length : Int) then ((spec_l10Rectangle.f k (rd (rd_L1 y1138 t1141) 0) (rd (rd_L1 y1138 t1141) 1)).bind fun t1147 => ((spec_l01Next.f s0_0 t1142 t1143 3).bind fun bt1150 => (if bt1150.1 = 0 then ((spec_l01Next.f s0_0 bt1150.2.1 bt1150.2.2 (t1147.length : Int)).bind fun bt1153 => ((spec_l05Without.f t1147 bt1153.1).bind fun t1156 => ((spec_l02Normal.f k t1156).bind fun t1159 => (some (t1159, bt1153.2.1, bt1153.2.2))))) else (some (t1147, bt1150.2.1, bt1150.2.2))))) else (none)) else (none)) else (none)) else (none)) = some (r1, r2, r3) := H
 have A2 := aM A20
 clear A20
 by_cases c3 : 0 ≤ t1141
 rotate_left
 ·rw [if_neg c3] at H
  exact absurd H (by simp)
 rw [if_pos c3] at H
 have c3b0 : decide (0 ≤ t1141) = true := decide_eq_true c3
 clear c3
 by_cases c4 : t1141 < (y1138.length : Int)
 rotate_left
 ·rw [if_neg c4] at H
  exact absurd H (by simp)
 rw [if_pos c4] at H
 have c4b0 : decide (t1141 < (y1138.length : Int)) = true := decide_eq_true c4
 clear c4
 by_cases c5 : 0 < ((rd_L1 y1138 t1141).length : Int)
 rotate_left
 ·rw [if_neg c5] at H
  exact absurd H (by simp)
 rw [if_pos c5] at H
 have c5b0 : decide (0 < ((rd_L1 y1138 t1141).length : Int)) = true := decide_eq_true c5
 have c5b1 : decide (0 < (rd_L1 y1138 t1141).length) = true := decide_eq_true (by omega)
 clear c5
 by_cases c6 : 1 < ((rd_L1 y1138 t1141).length : Int)
 rotate_left
 ·rw [if_neg c6] at H
  exact absurd H (by simp)
 rw [if_pos c6] at H
 have c6b0 : decide (1 < ((rd_L1 y1138 t1141).length : Int)) = true := decide_eq_true c6
 have c6b1 : decide (1 < (rd_L1 y1138 t1141).length) = true := decide_eq_true (by omega)
 clear c6
 replace H := Option.bind_eq_some_iff.mp H
 obtain ⟨t1147, A70, H⟩ := H
 replace H : ((spec_l01Next.f s0_0 t1142 t1143 3).bind fun bt1150 => (if bt1150.1 = 0 then ((spec_l01Next.f s0_0 bt1150.2.1 bt1150.2.2 (t1147.length : Int)).bind fun bt1153 => ((spec_l05Without.f t1147 bt1153.1).bind fun t1156 => ((spec_l02Normal.f k t1156).bind fun t1159 => (some (t1159, bt1153.2.1, bt1153.2.2))))) else (some (t1147, bt1150.2.1, bt1150.2.2)))) = some (r1, r2, r3) := H
 have A7 := aM A70
 clear A70
 replace H := Option.bind_eq_some_iff.mp H
 obtain ⟨⟨t1150, t1151, t1152⟩, A80, H⟩ := H
 replace H : (if t1150 = 0 then ((spec_l01Next.f s0_0 t1151 t1152 (t1147.length : Int)).bind fun bt1153 => ((spec_l05Without.f t1147 bt1153.1).bind fun t1156 => ((spec_l02Normal.f k t1156).bind fun t1159 => (some (t1159, bt1153.2.1, bt1153.2.2))))) else (some (t1147, t1151, t1152))) = some (r1, r2, r3) := H
 have A8 := aM A80
 clear A80
 by_cases c9 : t1150 = 0
 rotate_left
 ·rw [if_neg c9] at H
  have c9b0 : (t1150 == 0) = false := beq_eq_false_iff_ne.mpr c9
  have c9b1 : (t1150 != 0) = true := bne_iff_ne.mpr c9
  simp only [Option.some.injEq, Prod.mk.injEq] at H
  obtain ⟨rfl, rfl, rfl⟩ := H
  go_enter Try.func150, Try.ntmps150
  try go_wp2_with (first | ((with_reducible refine gate_dst (N := 7) rfl ?_); refine Kd.R_lit (Kd.int .i64) _ 2 ?hg (N := 7) ?hd (xs := ([3, 4] : List Int)) (inner := [.int .i64 3, .int .i64 4]) (ok := fun _ => True) (okp := fun _ => True) ?hr ?hp (fun _ hk => hk) trivial (Below.refl _ _) (Nat.le_refl _) (by simp) ?_; (case hd => rfl); (case hg => rfl); (case hr => first | (go_simp; done) | (go_simp; rfl)); (case hp => exact (Reps.one (show Kd.M (Kd.int .i64) _ _ _ 3 [.int .i64 3] from rfl) (Reps.one (show Kd.M (Kd.int .i64) _ _ _ 4 [.int .i64 4] from rfl) (Reps.none _ _)))); intro v1118 w46 ho47 hb hg_ hnew_; clear hg_ hnew_; (first | rw [← Ny1117.out] at ho47 | (simp only [Int.reduceToNat] at ho47; rw [← Ny1117.out] at ho47)); have n0_ := aM (Kd.R_lower ho47 (keep_size (w := w) (g := g) (row := none) (by repeat (first | (with_reducible first | exact HK.out | apply KeepBut.set_ | apply keep_drewN | apply keep_drew | apply keep_alloc) | exact HK.out)))); have n1_ := aM (IsS132.below (by repeat (first | (with_reducible first | exact HI0.out | apply IsS132.alloc | apply IsS132.drewN | apply IsS132.drew | apply IsS132.set_1 | apply IsS132.set_2) | exact HI0.out)) hb); have n2_ := aM (KeepBut.trans (by repeat (first | (with_reducible first | exact HK.out | apply KeepBut.set_ | apply keep_drewN | apply keep_drew | apply keep_alloc) | exact HK.out)) (KeepBut.of_below hb g none) (.inl rfl)); have n3_ := aM (below_step (by repeat (first | (with_reducible first | exact HB.out | apply below_alloc | apply pw_below_drewN | apply below_drew1 | refine below_set ?_ (IsS132.ge HI0.out)) | exact HB.out)) hb); clear HI0; clear HK; clear HB; have HO1119 := n0_; have HI0 := n1_; have HK := n2_; have HB := n3_; clear n0_ n1_ n2_ n3_; clear hb ho47) | ((with_reducible refine gate_dst (N := 8) rfl ?_); refine Kd.R_lit (Kd.int .i64) _ 2 ?hg (N := 8) ?hd (xs := ([4, 3] : List Int)) (inner := [.int .i64 4, .int .i64 3]) (ok := fun _ => True) (okp := fun _ => True) ?hr ?hp (fun _ hk => hk) trivial (Below.refl _ _) (Nat.le_refl _) (by simp) ?_; (case hd => rfl); (case hg => rfl); (case hr => first | (go_simp; done) | (go_simp; rfl)); (case hp => exact (Reps.one (show Kd.M (Kd.int .i64) _ _ _ 4 [.int .i64 4] from rfl) (Reps.one (show Kd.M (Kd.int .i64) _ _ _ 3 [.int .i64 3] from rfl) (Reps.none _ _)))); intro v1121 w48 ho49 hb hg_ hnew_; clear hg_ hnew_; (first | rw [← Ny1120.out] at ho49 | (simp only [Int.reduceToNat] at ho49; rw [← Ny1120.out] at ho49)); have n0_ := aM (Kd.R_elder' (mR_ HO1119.out) (Kd.R_base ho49) hb); have n1_ := aM (Kd.R_lower (Kd.R_new' ho49 (Kd.R_lt (mR_ HO1119.out))) (keep_size (w := w) (g := g) (row := none) (by repeat (first | (with_reducible first | exact HK.out | apply KeepBut.set_ | apply keep_drewN | apply keep_drew | apply keep_alloc) | exact HK.out)))); have n2_ := aM (IsS132.below (by repeat (first | (with_reducible first | exact HI0.out | apply IsS132.alloc | apply IsS132.drewN | apply IsS132.drew | apply IsS132.set_1 | apply IsS132.set_2) | exact HI0.out)) hb); have n3_ := aM (KeepBut.trans (by repeat (first | (with_reducible first | exact HK.out | apply KeepBut.set_ | apply keep_drewN | apply keep_drew | apply keep_alloc) | exact HK.out)) (KeepBut.of_below hb g none) (.inl rfl)); have n4_ := aM (below_step (by repeat (first | (with_reducible first | exact HB.out | apply below_alloc | apply pw_below_drewN | apply below_drew1 | refine below_set ?_ (IsS132.ge HI0.out)) | exact HB.out)) hb); clear HO1119; clear HI0; clear HK; clear HB; have HO1119 := n0_; have HO1122 := n1_; have HI0 := n2_; have HK := n3_; have HB := n4_; clear n0_ n1_ n2_ n3_ n4_; clear hb ho49) | ((with_reducible refine gate_dst (N := 9) rfl ?_); refine Kd.R_lit (Kd.int .i64) _ 2 ?hg (N := 9) ?hd (xs := ([2, 5] : List Int)) (inner := [.int .i64 2, .int .i64 5]) (ok := fun _ => True) (okp := fun _ => True) ?hr ?hp (fun _ hk => hk) trivial (Below.refl _ _) (Nat.le_refl _) (by simp) ?_; (case hd => rfl); (case hg => rfl); (case hr => first | (go_simp; done) | (go_simp; rfl)); (case hp => exact (Reps.one (show Kd.M (Kd.int .i64) _ _ _ 2 [.int .i64 2] from rfl) (Reps.one (show Kd.M (Kd.int .i64) _ _ _ 5 [.int .i64 5] from rfl) (Reps.none _ _)))); intro v1124 w50 ho51 hb hg_ hnew_; clear hg_ hnew_; (first | rw [← Ny1123.out] at ho51 | (simp only [Int.reduceToNat] at ho51; rw [← Ny1123.out] at ho51)); have n0_ := aM (Kd.R_elder' (mR_ HO1119.out) (Kd.R_base ho51) hb); have n1_ := aM (Kd.R_elder' (mR_ HO1122.out) (Kd.R_base ho51) hb); have n2_ := aM (Kd.R_lower (Kd.R_new' (Kd.R_new' ho51 (Kd.R_lt (mR_ HO1119.out))) (Kd.R_lt (mR_ HO1122.out))) (keep_size (w := w) (g := g) (row := none) (by repeat (first | (with_reducible first | exact HK.out | apply KeepBut.set_ | apply keep_drewN | apply keep_drew | apply keep_alloc) | exact HK.out)))); have n3_ := aM (IsS132.below (by repeat (first | (with_reducible first | exact HI0.out | apply IsS132.alloc | apply IsS132.drewN | apply IsS132.drew | apply IsS132.set_1 | apply IsS132.set_2) | exact HI0.out)) hb); have n4_ := aM (KeepBut.trans (by repeat (first | (with_reducible first | exact HK.out | apply KeepBut.set_ | apply keep_drewN | apply keep_drew | apply keep_alloc) | exact HK.out)) (KeepBut.of_below hb g none) (.inl rfl)); have n5_ := aM (below_step (by repeat (first | (with_reducible first | exact HB.out | apply below_alloc | apply pw_below_drewN | apply below_drew1 | refine below_set ?_ (IsS132.ge HI0.out)) | exact HB.out)) hb); clear HO1119; clear HO1122; clear HI0; clear HK; clear HB; have HO1119 := n0_; have HO1122 := n1_; have HO1125 := n2_; have HI0 := n3_; have HK := n4_; have HB := n5_; clear n0_ n1_ n2_ n3_ n4_ n5_; clear hb ho51) | ((with_reducible refine gate_dst (N := 10) rfl ?_); refine Kd.R_lit (Kd.int .i64) _ 2 ?hg (N := 10) ?hd (xs := ([5, 2] : List Int)) (inner := [.int .i64 5, .int .i64 2]) (ok := fun _ => True) (okp := fun _ => True) ?hr ?hp (fun _ hk => hk) trivial (Below.refl _ _) (Nat.le_refl _) (by simp) ?_; (case hd => rfl); (case hg => rfl); (case hr => first | (go_simp; done) | (go_simp; rfl)); (case hp => exact (Reps.one (show Kd.M (Kd.int .i64) _ _ _ 5 [.int .i64 5] from rfl) (Reps.one (show Kd.M (Kd.int .i64) _ _ _ 2 [.int .i64 2] from rfl) (Reps.none _ _)))); intro v1127 w52 ho53 hb hg_ hnew_; clear hg_ hnew_; (first | rw [← Ny1126.out] at ho53 | (simp only [Int.reduceToNat] at ho53; rw [← Ny1126.out] at ho53)); have n0_ := aM (Kd.R_elder' (mR_ HO1119.out) (Kd.R_base ho53) hb); have n1_ := aM (Kd.R_elder' (mR_ HO1122.out) (Kd.R_base ho53) hb); have n2_ := aM (Kd.R_elder' (mR_ HO1125.out) (Kd.R_base ho53) hb); have n3_ := aM (Kd.R_lower (Kd.R_new' (Kd.R_new' (Kd.R_new' ho53 (Kd.R_lt (mR_ HO1119.out))) (Kd.R_lt (mR_ HO1122.out))) (Kd.R_lt (mR_ HO1125.out))) (keep_size (w := w) (g := g) (row := none) (by repeat (first | (with_reducible first | exact HK.out | apply KeepBut.set_ | apply keep_drewN | apply keep_drew | apply keep_alloc) | exact HK.out)))); have n4_ := aM (IsS132.below (by repeat (first | (with_reducible first | exact HI0.out | apply IsS132.alloc | apply IsS132.drewN | apply IsS132.drew | apply IsS132.set_1 | apply IsS132.set_2) | exact HI0.out)) hb); have n5_ := aM (KeepBut.trans (by repeat (first | (with_reducible first | exact HK.out | apply KeepBut.set_ | apply keep_drewN | apply keep_drew | apply keep_alloc) | exact HK.out)) (KeepBut.of_below hb g none) (.inl rfl)); have n6_ := aM (below_step (by repeat (first | (with_reducible first | exact HB.out | apply below_alloc | apply pw_below_drewN | apply below_drew1 | refine below_set ?_ (IsS132.ge HI0.out)) | exact HB.out)) hb); clear HO1119; clear HO1122; clear HO1125; clear HI0; clear HK; clear HB; have HO1119 := n0_; have HO1122 := n1_; have HO1125 := n2_; have HO1128 := n3_; have HI0 := n4_; have HK := n5_; have HB := n6_; clear n0_ n1_ n2_ n3_ n4_ n5_ n6_; clear hb ho53) | ((with_reducible refine gate_dst (N := 11) rfl ?_); refine Kd.R_lit (Kd.int .i64) _ 2 ?hg (N := 11) ?hd (xs := ([3, 3] : List Int)) (inner := [.int .i64 3, .int .i64 3]) (ok := fun _ => True) (okp := fun _ => True) ?hr ?hp (fun _ hk => hk) trivial (Below.refl _ _) (Nat.le_refl _) (by simp) ?_; (case hd => rfl); (case hg => rfl); (case hr => first | (go_simp; done) | (go_simp; rfl)); (case hp => exact (Reps.one (show Kd.M (Kd.int .i64) _ _ _ 3 [.int .i64 3] from rfl) (Reps.one (show Kd.M (Kd.int .i64) _ _ _ 3 [.int .i64 3] from rfl) (Reps.none _ _)))); intro v1130 w54 ho55 hb hg_ hnew_; clear hg_ hnew_; (first | rw [← Ny1129.out] at ho55 | (simp only [Int.reduceToNat] at ho55; rw [← Ny1129.out] at ho55)); have n0_ := aM (Kd.R_elder' (mR_ HO1119.out) (Kd.R_base ho55) hb); have n1_ := aM (Kd.R_elder' (mR_ HO1122.out) (Kd.R_base ho55) hb); have n2_ := aM (Kd.R_elder' (mR_ HO1125.out) (Kd.R_base ho55) hb); have n3_ := aM (Kd.R_elder' (mR_ HO1128.out) (Kd.R_base ho55) hb); have n4_ := aM (Kd.R_lower (Kd.R_new' (Kd.R_new' (Kd.R_new' (Kd.R_new' ho55 (Kd.R_lt (mR_ HO1119.out))) (Kd.R_lt (mR_ HO1122.out))) (Kd.R_lt (mR_ HO1125.out))) (Kd.R_lt (mR_ HO1128.out))) (keep_size (w := w) (g := g) (row := none) (by repeat (first | (with_reducible first | exact HK.out | apply KeepBut.set_ | apply keep_drewN | apply keep_drew | apply keep_alloc) | exact HK.out)))); have n5_ := aM (IsS132.below (by repeat (first | (with_reducible first | exact HI0.out | apply IsS132.alloc | apply IsS132.drewN | apply IsS132.drew | apply IsS132.set_1 | apply IsS132.set_2) | exact HI0.out)) hb); have n6_ := aM (KeepBut.trans (by repeat (first | (with_reducible first | exact HK.out | apply KeepBut.set_ | apply keep_drewN | apply keep_drew | apply keep_alloc) | exact HK.out)) (KeepBut.of_below hb g none) (.inl rfl)); have n7_ := aM (below_step (by repeat (first | (with_reducible first | exact HB.out | apply below_alloc | apply pw_below_drewN | apply below_drew1 | refine below_set ?_ (IsS132.ge HI0.out)) | exact HB.out)) hb); clear HO1119; clear HO1122; clear HO1125; clear HO1128; clear HI0; clear HK; clear HB; have HO1119 := n0_; have HO1122 := n1_; have HO1125 := n2_; have HO1128 := n3_; have HO1131 := n4_; have HI0 := n5_; have HK := n6_; have HB := n7_; clear n0_ n1_ n2_ n3_ n4_ n5_ n6_ n7_; clear hb ho55) | ((with_reducible refine gate_dst (N := 12) rfl ?_); refine Kd.R_lit (Kd.int .i64) _ 2 ?hg (N := 12) ?hd (xs := ([6, 2] : List Int)) (inner := [.int .i64 6, .int .i64 2]) (ok := fun _ => True) (okp := fun _ => True) ?hr ?hp (fun _ hk => hk) trivial (Below.refl _ _) (Nat.le_refl _) (by simp) ?_; (case hd => rfl); (case hg => rfl); (case hr => first | (go_simp; done) | (go_simp; rfl)); (case hp => exact (Reps.one (show Kd.M (Kd.int .i64) _ _ _ 6 [.int .i64 6] from rfl) (Reps.one (show Kd.M (Kd.int .i64) _ _ _ 2 [.int .i64 2] from rfl) (Reps.none _ _)))); intro v1133 w56 ho57 hb hg_ hnew_; clear hg_ hnew_; (first | rw [← Ny1132.out] at ho57 | (simp only [Int.reduceToNat] at ho57; rw [← Ny1132.out] at ho57)); have n0_ := aM (Kd.R_elder' (mR_ HO1119.out) (Kd.R_base ho57) hb); have n1_ := aM (Kd.R_elder' (mR_ HO1122.out) (Kd.R_base ho57) hb); have n2_ := aM (Kd.R_elder' (mR_ HO1125.out) (Kd.R_base ho57) hb); have n3_ := aM (Kd.R_elder' (mR_ HO1128.out) (Kd.R_base ho57) hb); have n4_ := aM (Kd.R_elder' (mR_ HO1131.out) (Kd.R_base ho57) hb); have n5_ := aM (Kd.R_lower (Kd.R_new' (Kd.R_new' (Kd.R_new' (Kd.R_new' (Kd.R_new' ho57 (Kd.R_lt (mR_ HO1119.out))) (Kd.R_lt (mR_ HO1122.out))) (Kd.R_lt (mR_ HO1125.out))) (Kd.R_lt (mR_ HO1128.out))) (Kd.R_lt (mR_ HO1131.out))) (keep_size (w := w) (g := g) (row := none) (by repeat (first | (with_reducible first | exact HK.out | apply KeepBut.set_ | apply keep_drewN | apply keep_drew | apply keep_alloc) | exact HK.out)))); have n6_ := aM (IsS132.below (by repeat (first | (with_reducible first | exact HI0.out | apply IsS132.alloc | apply IsS132.drewN | apply IsS132.drew | apply IsS132.set_1 | apply IsS132.set_2) | exact HI0.out)) hb); have n7_ := aM (KeepBut.trans (by repeat (first | (with_reducible first | exact HK.out | apply KeepBut.set_ | apply keep_drewN | apply keep_drew | apply keep_alloc) | exact HK.out)) (KeepBut.of_below hb g none) (.inl rfl)); have n8_ := aM (below_step (by repeat (first | (with_reducible first | exact HB.out | apply below_alloc | apply pw_below_drewN | apply below_drew1 | refine below_set ?_ (IsS132.ge HI0.out)) | exact HB.out)) hb); clear HO1119; clear HO1122; clear HO1125; clear HO1128; clear HO1131; clear HI0; clear HK; clear HB; have HO1119 := n0_; have HO1122 := n1_; have HO1125 := n2_; have HO1128 := n3_; have HO1131 := n4_; have HO1134 := n5_; have HI0 := n6_; have HK := n7_; have HB := n8_; clear n0_ n1_ n2_ n3_ n4_ n5_ n6_ n7_ n8_; clear hb ho57) | ((with_reducible refine gate_dst (N := 13) rfl ?_); refine Kd.R_lit (Kd.int .i64) _ 2 ?hg (N := 13) ?hd (xs := ([4, 2] : List Int)) (inner := [.int .i64 4, .int .i64 2]) (ok := fun _ => True) (okp := fun _ => True) ?hr ?hp (fun _ hk => hk) trivial (Below.refl _ _) (Nat.le_refl _) (by simp) ?_; (case hd => rfl); (case hg => rfl); (case hr => first | (go_simp; done) | (go_simp; rfl)); (case hp => exact (Reps.one (show Kd.M (Kd.int .i64) _ _ _ 4 [.int .i64 4] from rfl) (Reps.one (show Kd.M (Kd.int .i64) _ _ _ 2 [.int .i64 2] from rfl) (Reps.none _ _)))); intro v1136 w58 ho59 hb hg_ hnew_; clear hg_ hnew_; (first | rw [← Ny1135.out] at ho59 | (simp only [Int.reduceToNat] at ho59; rw [← Ny1135.out] at ho59)); have n0_ := aM (Kd.R_elder' (mR_ HO1119.out) (Kd.R_base ho59) hb); have n1_ := aM (Kd.R_elder' (mR_ HO1122.out) (Kd.R_base ho59) hb); have n2_ := aM (Kd.R_elder' (mR_ HO1125.out) (Kd.R_base ho59) hb); have n3_ := aM (Kd.R_elder' (mR_ HO1128.out) (Kd.R_base ho59) hb); have n4_ := aM (Kd.R_elder' (mR_ HO1131.out) (Kd.R_base ho59) hb); have n5_ := aM (Kd.R_elder' (mR_ HO1134.out) (Kd.R_base ho59) hb); have n6_ := aM (Kd.R_lower (Kd.R_new' (Kd.R_new' (Kd.R_new' (Kd.R_new' (Kd.R_new' (Kd.R_new' ho59 (Kd.R_lt (mR_ HO1119.out))) (Kd.R_lt (mR_ HO1122.out))) (Kd.R_lt (mR_ HO1125.out))) (Kd.R_lt (mR_ HO1128.out))) (Kd.R_lt (mR_ HO1131.out))) (Kd.R_lt (mR_ HO1134.out))) (keep_size (w := w) (g := g) (row := none) (by repeat (first | (with_reducible first | exact HK.out | apply KeepBut.set_ | apply keep_drewN | apply keep_drew | apply keep_alloc) | exact HK.out)))); have n7_ := aM (IsS132.below (by repeat (first | (with_reducible first | exact HI0.out | apply IsS132.alloc | apply IsS132.drewN | apply IsS132.drew | apply IsS132.set_1 | apply IsS132.set_2) | exact HI0.out)) hb); have n8_ := aM (KeepBut.trans (by repeat (first | (with_reducible first | exact HK.out | apply KeepBut.set_ | apply keep_drewN | apply keep_drew | apply keep_alloc) | exact HK.out)) (KeepBut.of_below hb g none) (.inl rfl)); have n9_ := aM (below_step (by repeat (first | (with_reducible first | exact HB.out | apply below_alloc | apply pw_below_drewN | apply below_drew1 | refine below_set ?_ (IsS132.ge HI0.out)) | exact HB.out)) hb); clear HO1119; clear HO1122; clear HO1125; clear HO1128; clear HO1131; clear HO1134; clear HI0; clear HK; clear HB; have HO1119 := n0_; have HO1122 := n1_; have HO1125 := n2_; have HO1128 := n3_; have HO1131 := n4_; have HO1134 := n5_; have HO1137 := n6_; have HI0 := n7_; have HK := n8_; have HB := n9_; clear n0_ n1_ n2_ n3_ n4_ n5_ n6_ n7_ n8_ n9_; clear hb ho59; obtain ⟨Ao60, co60, eo60⟩ := Kd.R_slice HO1119.out; subst eo60; obtain ⟨Ao61, co61, eo61⟩ := Kd.R_slice HO1122.out; subst eo61; obtain ⟨Ao62, co62, eo62⟩ := Kd.R_slice HO1125.out; subst eo62; obtain ⟨Ao63, co63, eo63⟩ := Kd.R_slice HO1128.out; subst eo63; obtain ⟨Ao64, co64, eo64⟩ := Kd.R_slice HO1131.out; subst eo64; obtain ⟨Ao65, co65, eo65⟩ := Kd.R_slice HO1134.out; subst eo65; obtain ⟨Ao66, co66, eo66⟩ := Kd.R_slice HO1137.out; subst eo66) | ((with_reducible refine gate_dst (N := 14) rfl ?_); refine Kd.N_lit (Kd.slice 2 (Kd.int .i64)) _ 22 ?hg (N' := 14) ?hd (xs := ([y1117, y1120, y1123, y1126, y1129, y1132, y1135] : List (List Int))) (inner := [.slice Ao60 y1117.length co60, .slice Ao61 y1120.length co61, .slice Ao62 y1123.length co62, .slice Ao63 y1126.length co63, .slice Ao64 y1129.length co64, .slice Ao65 y1132.length co65, .slice Ao66 y1135.length co66]) (ok := (fun k_ => k_ ≠ g)) (okp := (fun k_ => k_ ≠ g)) ?hr ?hp (fun _ hk => hk) ((show ∀ k_, w58.heap.size ≤ k_ → (fun k_ => k_ ≠ g) k_ from fun k_ hk => IsS132.fresh (by repeat (first | (with_reducible first | exact HI0.out | apply IsS132.alloc | apply IsS132.drewN | apply IsS132.drew | apply IsS132.set_1 | apply IsS132.set_2) | exact HI0.out)) k_ hk) _ (Nat.le_refl _)) (Below.refl _ _) (Nat.le_refl _) (by simp) ?_; (case hd => rfl); (case hg => rfl); (case hr => first | (go_simp; done) | (go_simp; rfl)); (case hp => exact (Reps.one (show Kd.FK (Kd.slice 2 (Kd.int .i64)) _ _ y1117 [.slice Ao60 y1117.length co60] from (Kd.FK_slice_mk (Kd.R_reads' (Kd.R_mono (ok' := (fun k_ => k_ ≠ g)) (IsS132.apart HI0.out (HO1119.out) (by decide)) (fun k_ hk => hk.2))).2.1 (Kd.R_F (Kd.R_mono (ok' := (fun k_ => k_ ≠ g)) (IsS132.apart HI0.out (HO1119.out) (by decide)) (fun k_ hk => hk.2))))) (Reps.one (show Kd.FK (Kd.slice 2 (Kd.int .i64)) _ _ y1120 [.slice Ao61 y1120.length co61] from (Kd.FK_slice_mk (Kd.R_reads' (Kd.R_mono (ok' := (fun k_ => k_ ≠ g)) (IsS132.apart HI0.out (HO1122.out) (by decide)) (fun k_ hk => hk.2))).2.1 (Kd.R_F (Kd.R_mono (ok' := (fun k_ => k_ ≠ g)) (IsS132.apart HI0.out (HO1122.out) (by decide)) (fun k_ hk => hk.2))))) (Reps.one (show Kd.FK (Kd.slice 2 (Kd.int .i64)) _ _ y1123 [.slice Ao62 y1123.length co62] from (Kd.FK_slice_mk (Kd.R_reads' (Kd.R_mono (ok' := (fun k_ => k_ ≠ g)) (IsS132.apart HI0.out (HO1125.out) (by decide)) (fun k_ hk => hk.2))).2.1 (Kd.R_F (Kd.R_mono (ok' := (fun k_ => k_ ≠ g)) (IsS132.apart HI0.out (HO1125.out) (by decide)) (fun k_ hk => hk.2))))) (Reps.one (show Kd.FK (Kd.slice 2 (Kd.int .i64)) _ _ y1126 [.slice Ao63 y1126.length co63] from (Kd.FK_slice_mk (Kd.R_reads' (Kd.R_mono (ok' := (fun k_ => k_ ≠ g)) (IsS132.apart HI0.out (HO1128.out) (by decide)) (fun k_ hk => hk.2))).2.1 (Kd.R_F (Kd.R_mono (ok' := (fun k_ => k_ ≠ g)) (IsS132.apart HI0.out (HO1128.out) (by decide)) (fun k_ hk => hk.2))))) (Reps.one (show Kd.FK (Kd.slice 2 (Kd.int .i64)) _ _ y1129 [.slice Ao64 y1129.length co64] from (Kd.FK_slice_mk (Kd.R_reads' (Kd.R_mono (ok' := (fun k_ => k_ ≠ g)) (IsS132.apart HI0.out (HO1131.out) (by decide)) (fun k_ hk => hk.2))).2.1 (Kd.R_F (Kd.R_mono (ok' := (fun k_ => k_ ≠ g)) (IsS132.apart HI0.out (HO1131.out) (by decide)) (fun k_ hk => hk.2))))) (Reps.one (show Kd.FK (Kd.slice 2 (Kd.int .i64)) _ _ y1132 [.slice Ao65 y1132.length co65] from (Kd.FK_slice_mk (Kd.R_reads' (Kd.R_mono (ok' := (fun k_ => k_ ≠ g)) (IsS132.apart HI0.out (HO1134.out) (by decide)) (fun k_ hk => hk.2))).2.1 (Kd.R_F (Kd.R_mono (ok' := (fun k_ => k_ ≠ g)) (IsS132.apart HI0.out (HO1134.out) (by decide)) (fun k_ hk => hk.2))))) (Reps.one (show Kd.FK (Kd.slice 2 (Kd.int .i64)) _ _ y1135 [.slice Ao66 y1135.length co66] from (Kd.FK_slice_mk (Kd.R_reads' (Kd.R_mono (ok' := (fun k_ => k_ ≠ g)) (IsS132.apart HI0.out (HO1137.out) (by decide)) (fun k_ hk => hk.2))).2.1 (Kd.R_F (Kd.R_mono (ok' := (fun k_ => k_ ≠ g)) (IsS132.apart HI0.out (HO1137.out) (by decide)) (fun k_ hk => hk.2))))) (Reps.none _ _))))))))); intro v1139 w67 ho68 hb hg_ hnew_; clear hg_ hnew_; (first | rw [← Ny1138.out] at ho68 | (simp only [Int.reduceToNat] at ho68; rw [← Ny1138.out] at ho68)); have n0_ := aM (Kd.N_lower ho68 (keep_size (w := w) (g := g) (row := none) (by repeat (first | (with_reducible first | exact HK.out | apply KeepBut.set_ | apply keep_drewN | apply keep_drew | apply keep_alloc) | exact HK.out)))); have n1_ := aM (IsS132.below (by repeat (first | (with_reducible first | exact HI0.out | apply IsS132.alloc | apply IsS132.drewN | apply IsS132.drew | apply IsS132.set_1 | apply IsS132.set_2) | exact HI0.out)) hb); have n2_ := aM (KeepBut.trans (by repeat (first | (with_reducible first | exact HK.out | apply KeepBut.set_ | apply keep_drewN | apply keep_drew | apply keep_alloc) | exact HK.out)) (KeepBut.of_below hb g none) (.inl rfl)); have n3_ := aM (below_step (by repeat (first | (with_reducible first | exact HB.out | apply below_alloc | apply pw_below_drewN | apply below_drew1 | refine below_set ?_ (IsS132.ge HI0.out)) | exact HB.out)) hb); clear HI0; clear HK; clear HB; clear HO1119; clear HO1122; clear HO1125; clear HO1128; clear HO1131; clear HO1134; clear HO1137; have HO1140 := n0_; have HI0 := n1_; have HK := n2_; have HB := n3_; clear n0_ n1_ n2_ n3_; clear hb ho68) | ((with_reducible refine gate_callee (f := 118) rfl ?_); refine goesL_ (some 17) rfl rfl Try.func118 (by kernel_rfl) rfl #[.pointer (some ⟨g, 0, none⟩), .int .i64 7] rfl zm ?_; (with_reducible refine (spec_l01Next.calls g s0_0 s0_1 s0_2 7 t1141 t1142 t1143 w0 _ ?side1 ?side2 A2.out).mono ?_); (case side1 => repeat (first | (with_reducible first | exact HI0.out | apply IsS132.alloc | apply IsS132.drewN | apply IsS132.drew | apply IsS132.set_1 | apply IsS132.set_2) | exact HI0.out)); (case side2 => repeat (first | (with_reducible first | exact HB.out | apply below_alloc | apply pw_below_drewN | apply below_drew1 | refine below_set ?_ (IsS132.ge HI0.out)) | exact HB.out)); rintro e w69 ⟨rfl, hi, hb, hk⟩; refine ⟨_, rfl, ?_⟩; have n0_ := aM (Kd.N_mono (Kd.N_keep (Kd.N_mono (ok := fun k_ => k_ ≠ g) (mN_ HO1140.out) (fun k_ hk_ => (⟨hk_, hk_⟩ : _ ∧ k_ ≠ g))) hk (fun _ h => h.2)) (fun _ h => h.1)); have n1_ := aM (KeepBut.trans (by repeat (first | (with_reducible first | exact HK.out | apply KeepBut.set_ | apply keep_drewN | apply keep_drew | apply keep_alloc) | exact HK.out)) hk (.inl rfl)); have n2_ := aM (hb); have n3_ := aM (hi); clear HO1140; clear HK; clear HB; clear HI0; have HO1140 := n0_; have HK := n1_; have HB := n2_; have HI0 := n3_; clear n0_ n1_ n2_ n3_; (try clear hb); (try clear hb2); (try clear hk); (try clear hi); obtain ⟨Ao70, co70, eo70⟩ := Kd.N_slice HO1140.out; subst eo70; have p1144 : 0 ≤ (t1141 : Int) := of_decide_eq_true za; have q1144 : t1141 < (y1138.length : Int) := of_decide_eq_true za; obtain ⟨ad1144, A1144_0, c1144_0, e1144, hx1144_0, hl1144_0, hi1144_0⟩ := at_L1 (Kd.N_reads' HO1140.out).2.2 t1141 p1144 q1144; cases e1144; obtain ⟨ce1144, hce1144, hMe1144, hcc1144⟩ := Kd.N_get HO1140.out [] t1141 p1144 (by first | exact q1144 | exact of_decide_eq_true za | (have e_ := (Kd.N_reads' HO1140.out).1; omega)); obtain ⟨ua1144_0, uc1144_0, rfl, ul1144_0, ge1144_0⟩ := Kd.FK_slice_open hMe1144; have hv1144_0 := hcc1144 0 _ rfl; rw [Nat.add_zero, show ((Kd.slice 2 (Kd.int .i64))).sz = 1 from rfl, Nat.mul_one] at hv1144_0; replace hv1144_0 := Option.some.inj (hv1144_0.symm.trans hx1144_0); injection hv1144_0 with hva_ hvn_ hvc_; rw [hva_] at ge1144_0; rw [hvc_] at ul1144_0; have HL1144_0 := aM (show Kd.V (Kd.int .i64) 2 _ w.heap.size _ _ (rd_L1 y1138 t1141) from Kd.V_mk ul1144_0 ge1144_0); clear hva_ hvn_ hvc_ ge1144_0 ul1144_0; clear hcc1144 hce1144; have HR1144_0 := aM hi1144_0; have HC1144_0 := aM hl1144_0; clear hi1144_0 hl1144_0; replace p1144 := eq_true p1144; replace q1144 := eq_true q1144))
  have n0_ := aM (Kd.N_drew HO1140.out)
  have n1_ := aM (Kd.V_drew HL1144_0.out)
  have n2_ := aM (Kd.C_drew HR1144_0.out)
  have n3_ := aM (IsS132.drew HI0.out)
  have n4_ := aM (keep_drew HK.out)
  have n5_ := aM (below_drew1 HB.out)
  clear HO1140
  clear HL1144_0
  clear HR1144_0
  clear HI0
  clear HK
  clear HB
  have HO1140 := n0_
  have HL1144_0 := n1_
  have HR1144_0 := n2_
  have HI0 := n3_
  have HK := n4_
  have HB := n5_
  clear n0_ n1_ n2_ n3_ n4_ n5_
  have p1145 : 0 ≤ (0 : Int) := (by omega)
  have q1145 : 0 < ((rd_L1 y1138 t1141).length : Int) := of_decide_eq_true za
  obtain ⟨ad1145, e1145, hx1145_0⟩ := Kd.at_int (mQ_ HR1144_0.out) 0 p1145 q1145
  cases e1145
  have qi1145 : (0 < (rd_L1 y1138 t1141).length) = True := eq_true (by omega)
  (try rw [show ((0 : Int)).toNat = 0 from rfl] at hx1145_0)
  (try rw [Addr.add_zero'] at hx1145_0)
  replace p1145 := eq_true p1145
  replace q1145 := eq_true q1145
  have p1146 : 0 ≤ (1 : Int) := (by omega)
  have q1146 : 1 < ((rd_L1 y1138 t1141).length : Int) := of_decide_eq_true za
  obtain ⟨ad1146, e1146, hx1146_0⟩ := Kd.at_int (mQ_ HR1144_0.out) 1 p1146 q1146
  obtain rfl : ad1145 = ad1146 := (by injection e1146)
  (try simp only [show (1 : Int).toNat = 1 from rfl, Nat.reduceMul, Nat.reduceEqDiff, Go.Addr.add, ↓reduceIte] at hx1146_0)
  have qi1146 : (1 < (rd_L1 y1138 t1141).length) = True := eq_true (by omega)
  (try rw [show ((1 : Int)).toNat = 1 from rfl] at hx1146_0)
  replace p1146 := eq_true p1146
  replace q1146 := eq_true q1146
  refine start_ (n := 8) (S := fun w' => w'.cell? ad1145 = some (.int .i64 (rd (rd_L1 y1138 t1141) 0)) ∧ w'.cell? ⟨ad1145.block, ad1145.off + 1, none⟩ = some (.int .i64 (rd (rd_L1 y1138 t1141) 1))) (ds := []) #[false, false, false, false, false, false, false, false] (by kernel_rfl) rfl rfl ⟨hx1145_0, hx1146_0⟩ (fun hHeld => ?_); refine with_tabW spec_l10DrawSmall.tab3 spec_l10DrawSmall.bits3 (fun HT_ HW_ => ?_)
  generalize w69.drew = w71 at HO1140 HL1144_0 HR1144_0 HI0 HK HB hx1145_0 hx1146_0 hHeld ⊢
  refine pure_ (i := 0) (N := some 20) (v := ?_) (a' := ?_) #[true, false, false, false, false, false, false, false] rfl rfl zz (fun _ _ _ h => h) (Or.inl ⟨by rfl, ?_⟩) ?_ ?_
  rotate_left
  ·intro w'
   go_simp
   with_reducible rfl
  rotate_left
  ·simp only [Act.put, xA, xB, xC, i64_w, i32_w]
   rfl
  refine pure_ (i := 1) (N := some 21) (v := ?_) (a' := ?_) #[true, true, false, false, false, false, false, false] rfl rfl zz (fun _ _ _ h => h) (Or.inl ⟨by rfl, ?_⟩) ?_ ?_
  rotate_left
  ·intro w'
   go_simp
   with_reducible rfl
  rotate_left
  ·simp only [Act.put, xA, xB, xC, i64_w, i32_w]
   rfl
  refine pure_ (i := 3) (N := some 23) (v := ?_) (a' := ?_) #[true, true, false, true, false, false, false, false] rfl rfl zz (fun _ _ _ h => h) (Or.inl ⟨by rfl, ?_⟩) ?_ ?_
  rotate_left
  ·intro w'
   go_simp
   with_reducible rfl
  rotate_left
  ·simp only [Act.put, xA, xB, xC, i64_w, i32_w]
   rfl
  refine pure_ (i := 4) (N := some 24) (v := ?_) (a' := ?_) #[true, true, false, true, true, false, false, false] rfl rfl zz (fun _ _ _ h => h) (Or.inl ⟨by rfl, ?_⟩) ?_ ?_
  rotate_left
  ·intro w'
   go_simp
   with_reducible rfl
  rotate_left
  ·simp only [Act.put, xA, xB, xC, i64_w, i32_w]
   rfl
  refine take_ (i := 2) (N := some 22) (v := ?_) (a' := ?_) #[true, true, true, true, true, false, false, false] rfl rfl (take_ofW HT_.out HW_.out (by kernel_rfl)) (fun _ _ _ h => h) (Or.inl ⟨by rfl, ?_⟩) hHeld ?_ ?_
  rotate_left
  ·rintro w' ⟨s0, s1⟩
   go_simp
   with_reducible rfl
  rotate_left
  ·simp only [Act.put, xA, xB, xC, i64_w, i32_w]
   rfl
  refine take_ (i := 5) (N := some 25) (v := ?_) (a' := ?_) #[true, true, true, true, true, true, false, false] rfl rfl (take_ofW HT_.out HW_.out (by kernel_rfl)) (fun _ _ _ h => h) (Or.inl ⟨by rfl, ?_⟩) hHeld ?_ ?_
  rotate_left
  ·rintro w' ⟨s0, s1⟩
   go_simp
   with_reducible rfl
  rotate_left
  ·simp only [Act.put, xA, xB, xC, i64_w, i32_w]
   rfl
  refine one_ (i := 6) (N := some 26) #[true, true, true, true, true, true, true, false] rfl rfl (one_of HT_.out (by kernel_rfl)) (by decide) (fun K hK => ?_)
  refine goes_ Try.func130 (by kernel_rfl) rfl #[.int .i64 (rd (rd_L1 y1138 t1141) 0), .int .i64 (rd (rd_L1 y1138 t1141) 1)] (by rfl) rfl rfl zm ?_
  with_reducible refine (spec_l10Rectangle.calls k (rd (rd_L1 y1138 t1141) 0) (rd (rd_L1 y1138 t1141) 1) t1147 _ A7.out).mono ?_
  rintro e w72 ⟨v1148, rfl, ho0, hb⟩
  have HS0_ := (hb.cell (World.block_lt_of_cell? _ _ (hHeld.1))).trans (hHeld.1)
  have HS1_ := (hb.cell (World.block_lt_of_cell? _ _ (hHeld.2))).trans (hHeld.2)
  refine ⟨_, rfl, ?_⟩
  have n0_ := aM (Kd.N_elder' (mN_ HO1140.out) (Kd.R_base ho0) hb)
  have n1_ := aM (Kd.V_elder' (mV_ HL1144_0.out) (Kd.R_base ho0) hb)
  have n2_ := aM (Kd.R_lower ho0 (keep_size (w := w) (g := g) (row := none) (by repeat (first | (with_reducible first | exact HK.out | apply KeepBut.set_ | apply keep_drewN | apply keep_drew | apply keep_alloc) | exact HK.out))))
  have n3_ := aM (IsS132.below (by repeat (first | (with_reducible first | exact HI0.out | apply IsS132.alloc | apply IsS132.drewN | apply IsS132.drew | apply IsS132.set_1 | apply IsS132.set_2) | exact HI0.out)) hb)
  have n4_ := aM (Kd.C_below (mQ_ HR1144_0.out) hb)
  have n5_ := aM (KeepBut.trans (by repeat (first | (with_reducible first | exact HK.out | apply KeepBut.set_ | apply keep_drewN | apply keep_drew | apply keep_alloc) | exact HK.out)) (KeepBut.of_below hb g none) (.inl rfl))
  have n6_ := aM (below_step (by repeat (first | (with_reducible first | exact HB.out | apply below_alloc | apply pw_below_drewN | apply below_drew1 | refine below_set ?_ (IsS132.ge HI0.out)) | exact HB.out)) hb)
  clear HO1140
  clear HL1144_0
  clear HI0
  clear HR1144_0
  clear HK
  clear HB
  have HO1140 := n0_
  have HL1144_0 := n1_
  have HO1149 := n2_
  have HI0 := n3_
  have HR1144_0 := n4_
  have HK := n5_
  have HB := n6_
  clear n0_ n1_ n2_ n3_ n4_ n5_ n6_
  (try clear hb)
  (try clear hb2)
  (try clear hk)
  (try clear hi)
  (try clear ho0)
  refine hK.out _ _ ⟨HS0_, HS1_⟩ (fun hHeld => ?_)
  clear hK K
  refine norm_ (a' := ?_) ?_ ?_
  rotate_left
  ·show Act.put _ (some 26) _ = _
   simp only [Act.put, xA, xB, xC, i64_w, i32_w]
   rfl
  refine pure_ (i := 7) (N := some 5) (v := ?_) (a' := ?_) #[true, true, true, true, true, true, true, true] rfl rfl zz (fun _ _ _ h => h) (Or.inl ⟨by rfl, ?_⟩) ?_ ?_
  rotate_left
  ·intro w'
   go_simp
   with_reducible rfl
  rotate_left
  ·simp only [Act.put, xA, xB, xC, i64_w, i32_w]
   rfl
  refine done_ (done_of HT_.out (by kernel_rfl)) ?_
  try go_wp2_with (first | ((with_reducible refine gate_callee (f := 118) rfl ?_); refine goesL_ (some 28) rfl rfl Try.func118 (by kernel_rfl) rfl #[.pointer (some ⟨g, 0, none⟩), .int .i64 3] rfl zm ?_; (with_reducible refine (spec_l01Next.calls g s0_0 t1142 t1143 3 t1150 t1151 t1152 w0 _ ?side1 ?side2 A8.out).mono ?_); (case side1 => repeat (first | (with_reducible first | exact HI0.out | apply IsS132.alloc | apply IsS132.drewN | apply IsS132.drew | apply IsS132.set_1 | apply IsS132.set_2) | exact HI0.out)); (case side2 => repeat (first | (with_reducible first | exact HB.out | apply below_alloc | apply pw_below_drewN | apply below_drew1 | refine below_set ?_ (IsS132.ge HI0.out)) | exact HB.out)); rintro e w73 ⟨rfl, hi, hb, hk⟩; refine ⟨_, rfl, ?_⟩; have n0_ := aM (Kd.N_mono (Kd.N_keep (Kd.N_mono (ok := fun k_ => (k_ ≠ g ∧ some k_ ≠ (v1148 : Value).ownBlock)) (mN_ HO1140.out) (fun k_ hk_ => (⟨hk_, hk_.1⟩ : _ ∧ k_ ≠ g))) hk (fun _ h => h.2)) (fun _ h => h.1)); have n1_ := aM (Kd.V_mono (Kd.V_keep (Kd.V_mono (ok := fun k_ => ((k_ ≠ g ∧ some k_ ≠ (.slice (some ad1144) y1138.length co70 : Value).ownBlock) ∧ some k_ ≠ (v1148 : Value).ownBlock)) (mV_ HL1144_0.out) (fun k_ hk_ => (⟨hk_, hk_.1.1⟩ : _ ∧ k_ ≠ g))) hk (fun _ h => h.2)) (fun _ h => h.1)); have n2_ := aM (Kd.R_mono (Kd.R_keep (IsS132.apart (show IsS132 w0 _ g s0_0 t1142 t1143 from by repeat (first | (with_reducible first | exact HI0.out | apply IsS132.alloc | apply IsS132.drewN | apply IsS132.drew | apply IsS132.set_1 | apply IsS132.set_2) | exact HI0.out)) (mR_ HO1149.out) (by decide)) hk (fun _ h => h.2)) (fun _ h => h.1)); have n3_ := aM (KeepBut.trans (by repeat (first | (with_reducible first | exact HK.out | apply KeepBut.set_ | apply keep_drewN | apply keep_drew | apply keep_alloc) | exact HK.out)) hk (.inl rfl)); have n4_ := aM (hb); have n5_ := aM (hi); clear HO1140; clear HL1144_0; clear HO1149; clear HK; clear HB; clear HI0; have HO1140 := n0_; have HL1144_0 := n1_; have HO1149 := n2_; have HK := n3_; have HB := n4_; have HI0 := n5_; clear n0_ n1_ n2_ n3_ n4_ n5_; (try clear hb); (try clear hb2); (try clear hk); (try clear hi)))
  go_ret
  exact ⟨_, zw, mR_ HO1149.out, by repeat (first | (with_reducible first | exact HI0.out | apply IsS132.alloc | apply IsS132.drewN | apply IsS132.drew | apply IsS132.set_1 | apply IsS132.set_2) | exact HI0.out), by repeat (first | (with_reducible first | exact HB.out | apply below_alloc | apply pw_below_drewN | apply below_drew1 | refine below_set ?_ (IsS132.ge HI0.out)) | exact HB.out), by repeat (first | (with_reducible first | exact HK.out | apply KeepBut.set_ | apply keep_drewN | apply keep_drew | apply keep_alloc) | exact HK.out)⟩
 rw [if_pos c9] at H
 have c9b0 : (t1150 == 0) = true := beq_iff_eq.mpr c9
 have c9b1 : (t1150 != 0) = false := bne_eq_false_iff_eq.mpr c9
 clear c9
 replace H := Option.bind_eq_some_iff.mp H
 obtain ⟨⟨t1153, t1154, t1155⟩, A100, H⟩ := H
 replace H : ((spec_l05Without.f t1147 t1153).bind fun t1156 => ((spec_l02Normal.f k t1156).bind fun t1159 => (some (t1159, t1154, t1155)))) = some (r1, r2, r3) := H
 have A10 := aM A100
 clear A100
 replace H := Option.bind_eq_some_iff.mp H
 obtain ⟨t1156, A110, H⟩ := H
 replace H : ((spec_l02Normal.f k t1156).bind fun t1159 => (some (t1159, t1154, t1155))) = some (r1, r2, r3) := H
 have A11 := aM A110
 clear A110
 replace H := Option.bind_eq_some_iff.mp H
 obtain ⟨t1159, A120, H⟩ := H
 replace H : (some (t1159, t1154, t1155)) = some (r1, r2, r3) := H
 have A12 := aM A120
 clear A120
 simp only [Option.some.injEq, Prod.mk.injEq] at H
 obtain ⟨rfl, rfl, rfl⟩ := H
 go_enter Try.func150, Try.ntmps150
 try go_wp2_with (first | ((with_reducible refine gate_dst (N := 7) rfl ?_); refine Kd.R_lit (Kd.int .i64) _ 2 ?hg (N := 7) ?hd (xs := ([3, 4] : List Int)) (inner := [.int .i64 3, .int .i64 4]) (ok := fun _ => True) (okp := fun _ => True) ?hr ?hp (fun _ hk => hk) trivial (Below.refl _ _) (Nat.le_refl _) (by simp) ?_; (case hd => rfl); (case hg => rfl); (case hr => first | (go_simp; done) | (go_simp; rfl)); (case hp => exact (Reps.one (show Kd.M (Kd.int .i64) _ _ _ 3 [.int .i64 3] from rfl) (Reps.one (show Kd.M (Kd.int .i64) _ _ _ 4 [.int .i64 4] from rfl) (Reps.none _ _)))); intro v1118 w13 ho14 hb hg_ hnew_; clear hg_ hnew_; (first | rw [← Ny1117.out] at ho14 | (simp only [Int.reduceToNat] at ho14; rw [← Ny1117.out] at ho14)); have n0_ := aM (Kd.R_lower ho14 (keep_size (w := w) (g := g) (row := none) (by repeat (first | (with_reducible first | exact HK.out | apply KeepBut.set_ | apply keep_drewN | apply keep_drew | apply keep_alloc) | exact HK.out)))); have n1_ := aM (IsS132.below (by repeat (first | (with_reducible first | exact HI0.out | apply IsS132.alloc | apply IsS132.drewN | apply IsS132.drew | apply IsS132.set_1 | apply IsS132.set_2) | exact HI0.out)) hb); have n2_ := aM (KeepBut.trans (by repeat (first | (with_reducible first | exact HK.out | apply KeepBut.set_ | apply keep_drewN | apply keep_drew | apply keep_alloc) | exact HK.out)) (KeepBut.of_below hb g none) (.inl rfl)); have n3_ := aM (below_step (by repeat (first | (with_reducible first | exact HB.out | apply below_alloc | apply pw_below_drewN | apply below_drew1 | refine below_set ?_ (IsS132.ge HI0.out)) | exact HB.out)) hb); clear HI0; clear HK; clear HB; have HO1119 := n0_; have HI0 := n1_; have HK := n2_; have HB := n3_; clear n0_ n1_ n2_ n3_; clear hb ho14) | ((with_reducible refine gate_dst (N := 8) rfl ?_); refine Kd.R_lit (Kd.int .i64) _ 2 ?hg (N := 8) ?hd (xs := ([4, 3] : List Int)) (inner := [.int .i64 4, .int .i64 3]) (ok := fun _ => True) (okp := fun _ => True) ?hr ?hp (fun _ hk => hk) trivial (Below.refl _ _) (Nat.le_refl _) (by simp) ?_; (case hd => rfl); (case hg => rfl); (case hr => first | (go_simp; done) | (go_simp; rfl)); (case hp => exact (Reps.one (show Kd.M (Kd.int .i64) _ _ _ 4 [.int .i64 4] from rfl) (Reps.one (show Kd.M (Kd.int .i64) _ _ _ 3 [.int .i64 3] from rfl) (Reps.none _ _)))); intro v1121 w15 ho16 hb hg_ hnew_; clear hg_ hnew_; (first | rw [← Ny1120.out] at ho16 | (simp only [Int.reduceToNat] at ho16; rw [← Ny1120.out] at ho16)); have n0_ := aM (Kd.R_elder' (mR_ HO1119.out) (Kd.R_base ho16) hb); have n1_ := aM (Kd.R_lower (Kd.R_new' ho16 (Kd.R_lt (mR_ HO1119.out))) (keep_size (w := w) (g := g) (row := none) (by repeat (first | (with_reducible first | exact HK.out | apply KeepBut.set_ | apply keep_drewN | apply keep_drew | apply keep_alloc) | exact HK.out)))); have n2_ := aM (IsS132.below (by repeat (first | (with_reducible first | exact HI0.out | apply IsS132.alloc | apply IsS132.drewN | apply IsS132.drew | apply IsS132.set_1 | apply IsS132.set_2) | exact HI0.out)) hb); have n3_ := aM (KeepBut.trans (by repeat (first | (with_reducible first | exact HK.out | apply KeepBut.set_ | apply keep_drewN | apply keep_drew | apply keep_alloc) | exact HK.out)) (KeepBut.of_below hb g none) (.inl rfl)); have n4_ := aM (below_step (by repeat (first | (with_reducible first | exact HB.out | apply below_alloc | apply pw_below_drewN | apply below_drew1 | refine below_set ?_ (IsS132.ge HI0.out)) | exact HB.out)) hb); clear HO1119; clear HI0; clear HK; clear HB; have HO1119 := n0_; have HO1122 := n1_; have HI0 := n2_; have HK := n3_; have HB := n4_; clear n0_ n1_ n2_ n3_ n4_; clear hb ho16) | ((with_reducible refine gate_dst (N := 9) rfl ?_); refine Kd.R_lit (Kd.int .i64) _ 2 ?hg (N := 9) ?hd (xs := ([2, 5] : List Int)) (inner := [.int .i64 2, .int .i64 5]) (ok := fun _ => True) (okp := fun _ => True) ?hr ?hp (fun _ hk => hk) trivial (Below.refl _ _) (Nat.le_refl _) (by simp) ?_; (case hd => rfl); (case hg => rfl); (case hr => first | (go_simp; done) | (go_simp; rfl)); (case hp => exact (Reps.one (show Kd.M (Kd.int .i64) _ _ _ 2 [.int .i64 2] from rfl) (Reps.one (show Kd.M (Kd.int .i64) _ _ _ 5 [.int .i64 5] from rfl) (Reps.none _ _)))); intro v1124 w17 ho18 hb hg_ hnew_; clear hg_ hnew_; (first | rw [← Ny1123.out] at ho18 | (simp only [Int.reduceToNat] at ho18; rw [← Ny1123.out] at ho18)); have n0_ := aM (Kd.R_elder' (mR_ HO1119.out) (Kd.R_base ho18) hb); have n1_ := aM (Kd.R_elder' (mR_ HO1122.out) (Kd.R_base ho18) hb); have n2_ := aM (Kd.R_lower (Kd.R_new' (Kd.R_new' ho18 (Kd.R_lt (mR_ HO1119.out))) (Kd.R_lt (mR_ HO1122.out))) (keep_size (w := w) (g := g) (row := none) (by repeat (first | (with_reducible first | exact HK.out | apply KeepBut.set_ | apply keep_drewN | apply keep_drew | apply keep_alloc) | exact HK.out)))); have n3_ := aM (IsS132.below (by repeat (first | (with_reducible first | exact HI0.out | apply IsS132.alloc | apply IsS132.drewN | apply IsS132.drew | apply IsS132.set_1 | apply IsS132.set_2) | exact HI0.out)) hb); have n4_ := aM (KeepBut.trans (by repeat (first | (with_reducible first | exact HK.out | apply KeepBut.set_ | apply keep_drewN | apply keep_drew | apply keep_alloc) | exact HK.out)) (KeepBut.of_below hb g none) (.inl rfl)); have n5_ := aM (below_step (by repeat (first | (with_reducible first | exact HB.out | apply below_alloc | apply pw_below_drewN | apply below_drew1 | refine below_set ?_ (IsS132.ge HI0.out)) | exact HB.out)) hb); clear HO1119; clear HO1122; clear HI0; clear HK; clear HB; have HO1119 := n0_; have HO1122 := n1_; have HO1125 := n2_; have HI0 := n3_; have HK := n4_; have HB := n5_; clear n0_ n1_ n2_ n3_ n4_ n5_; clear hb ho18) | ((with_reducible refine gate_dst (N := 10) rfl ?_); refine Kd.R_lit (Kd.int .i64) _ 2 ?hg (N := 10) ?hd (xs := ([5, 2] : List Int)) (inner := [.int .i64 5, .int .i64 2]) (ok := fun _ => True) (okp := fun _ => True) ?hr ?hp (fun _ hk => hk) trivial (Below.refl _ _) (Nat.le_refl _) (by simp) ?_; (case hd => rfl); (case hg => rfl); (case hr => first | (go_simp; done) | (go_simp; rfl)); (case hp => exact (Reps.one (show Kd.M (Kd.int .i64) _ _ _ 5 [.int .i64 5] from rfl) (Reps.one (show Kd.M (Kd.int .i64) _ _ _ 2 [.int .i64 2] from rfl) (Reps.none _ _)))); intro v1127 w19 ho20 hb hg_ hnew_; clear hg_ hnew_; (first | rw [← Ny1126.out] at ho20 | (simp only [Int.reduceToNat] at ho20; rw [← Ny1126.out] at ho20)); have n0_ := aM (Kd.R_elder' (mR_ HO1119.out) (Kd.R_base ho20) hb); have n1_ := aM (Kd.R_elder' (mR_ HO1122.out) (Kd.R_base ho20) hb); have n2_ := aM (Kd.R_elder' (mR_ HO1125.out) (Kd.R_base ho20) hb); have n3_ := aM (Kd.R_lower (Kd.R_new' (Kd.R_new' (Kd.R_new' ho20 (Kd.R_lt (mR_ HO1119.out))) (Kd.R_lt (mR_ HO1122.out))) (Kd.R_lt (mR_ HO1125.out))) (keep_size (w := w) (g := g) (row := none) (by repeat (first | (with_reducible first | exact HK.out | apply KeepBut.set_ | apply keep_drewN | apply keep_drew | apply keep_alloc) | exact HK.out)))); have n4_ := aM (IsS132.below (by repeat (first | (with_reducible first | exact HI0.out | apply IsS132.alloc | apply IsS132.drewN | apply IsS132.drew | apply IsS132.set_1 | apply IsS132.set_2) | exact HI0.out)) hb); have n5_ := aM (KeepBut.trans (by repeat (first | (with_reducible first | exact HK.out | apply KeepBut.set_ | apply keep_drewN | apply keep_drew | apply keep_alloc) | exact HK.out)) (KeepBut.of_below hb g none) (.inl rfl)); have n6_ := aM (below_step (by repeat (first | (with_reducible first | exact HB.out | apply below_alloc | apply pw_below_drewN | apply below_drew1 | refine below_set ?_ (IsS132.ge HI0.out)) | exact HB.out)) hb); clear HO1119; clear HO1122; clear HO1125; clear HI0; clear HK; clear HB; have HO1119 := n0_; have HO1122 := n1_; have HO1125 := n2_; have HO1128 := n3_; have HI0 := n4_; have HK := n5_; have HB := n6_; clear n0_ n1_ n2_ n3_ n4_ n5_ n6_; clear hb ho20) | ((with_reducible refine gate_dst (N := 11) rfl ?_); refine Kd.R_lit (Kd.int .i64) _ 2 ?hg (N := 11) ?hd (xs := ([3, 3] : List Int)) (inner := [.int .i64 3, .int .i64 3]) (ok := fun _ => True) (okp := fun _ => True) ?hr ?hp (fun _ hk => hk) trivial (Below.refl _ _) (Nat.le_refl _) (by simp) ?_; (case hd => rfl); (case hg => rfl); (case hr => first | (go_simp; done) | (go_simp; rfl)); (case hp => exact (Reps.one (show Kd.M (Kd.int .i64) _ _ _ 3 [.int .i64 3] from rfl) (Reps.one (show Kd.M (Kd.int .i64) _ _ _ 3 [.int .i64 3] from rfl) (Reps.none _ _)))); intro v1130 w21 ho22 hb hg_ hnew_; clear hg_ hnew_; (first | rw [← Ny1129.out] at ho22 | (simp only [Int.reduceToNat] at ho22; rw [← Ny1129.out] at ho22)); have n0_ := aM (Kd.R_elder' (mR_ HO1119.out) (Kd.R_base ho22) hb); have n1_ := aM (Kd.R_elder' (mR_ HO1122.out) (Kd.R_base ho22) hb); have n2_ := aM (Kd.R_elder' (mR_ HO1125.out) (Kd.R_base ho22) hb); have n3_ := aM (Kd.R_elder' (mR_ HO1128.out) (Kd.R_base ho22) hb); have n4_ := aM (Kd.R_lower (Kd.R_new' (Kd.R_new' (Kd.R_new' (Kd.R_new' ho22 (Kd.R_lt (mR_ HO1119.out))) (Kd.R_lt (mR_ HO1122.out))) (Kd.R_lt (mR_ HO1125.out))) (Kd.R_lt (mR_ HO1128.out))) (keep_size (w := w) (g := g) (row := none) (by repeat (first | (with_reducible first | exact HK.out | apply KeepBut.set_ | apply keep_drewN | apply keep_drew | apply keep_alloc) | exact HK.out)))); have n5_ := aM (IsS132.below (by repeat (first | (with_reducible first | exact HI0.out | apply IsS132.alloc | apply IsS132.drewN | apply IsS132.drew | apply IsS132.set_1 | apply IsS132.set_2) | exact HI0.out)) hb); have n6_ := aM (KeepBut.trans (by repeat (first | (with_reducible first | exact HK.out | apply KeepBut.set_ | apply keep_drewN | apply keep_drew | apply keep_alloc) | exact HK.out)) (KeepBut.of_below hb g none) (.inl rfl)); have n7_ := aM (below_step (by repeat (first | (with_reducible first | exact HB.out | apply below_alloc | apply pw_below_drewN | apply below_drew1 | refine below_set ?_ (IsS132.ge HI0.out)) | exact HB.out)) hb); clear HO1119; clear HO1122; clear HO1125; clear HO1128; clear HI0; clear HK; clear HB; have HO1119 := n0_; have HO1122 := n1_; have HO1125 := n2_; have HO1128 := n3_; have HO1131 := n4_; have HI0 := n5_; have HK := n6_; have HB := n7_; clear n0_ n1_ n2_ n3_ n4_ n5_ n6_ n7_; clear hb ho22) | ((with_reducible refine gate_dst (N := 12) rfl ?_); refine Kd.R_lit (Kd.int .i64) _ 2 ?hg (N := 12) ?hd (xs := ([6, 2] : List Int)) (inner := [.int .i64 6, .int .i64 2]) (ok := fun _ => True) (okp := fun _ => True) ?hr ?hp (fun _ hk => hk) trivial (Below.refl _ _) (Nat.le_refl _) (by simp) ?_; (case hd => rfl); (case hg => rfl); (case hr => first | (go_simp; done) | (go_simp; rfl)); (case hp => exact (Reps.one (show Kd.M (Kd.int .i64) _ _ _ 6 [.int .i64 6] from rfl) (Reps.one (show Kd.M (Kd.int .i64) _ _ _ 2 [.int .i64 2] from rfl) (Reps.none _ _)))); intro v1133 w23 ho24 hb hg_ hnew_; clear hg_ hnew_; (first | rw [← Ny1132.out] at ho24 | (simp only [Int.reduceToNat] at ho24; rw [← Ny1132.out] at ho24)); have n0_ := aM (Kd.R_elder' (mR_ HO1119.out) (Kd.R_base ho24) hb); have n1_ := aM (Kd.R_elder' (mR_ HO1122.out) (Kd.R_base ho24) hb); have n2_ := aM (Kd.R_elder' (mR_ HO1125.out) (Kd.R_base ho24) hb); have n3_ := aM (Kd.R_elder' (mR_ HO1128.out) (Kd.R_base ho24) hb); have n4_ := aM (Kd.R_elder' (mR_ HO1131.out) (Kd.R_base ho24) hb); have n5_ := aM (Kd.R_lower (Kd.R_new' (Kd.R_new' (Kd.R_new' (Kd.R_new' (Kd.R_new' ho24 (Kd.R_lt (mR_ HO1119.out))) (Kd.R_lt (mR_ HO1122.out))) (Kd.R_lt (mR_ HO1125.out))) (Kd.R_lt (mR_ HO1128.out))) (Kd.R_lt (mR_ HO1131.out))) (keep_size (w := w) (g := g) (row := none) (by repeat (first | (with_reducible first | exact HK.out | apply KeepBut.set_ | apply keep_drewN | apply keep_drew | apply keep_alloc) | exact HK.out)))); have n6_ := aM (IsS132.below (by repeat (first | (with_reducible first | exact HI0.out | apply IsS132.alloc | apply IsS132.drewN | apply IsS132.drew | apply IsS132.set_1 | apply IsS132.set_2) | exact HI0.out)) hb); have n7_ := aM (KeepBut.trans (by repeat (first | (with_reducible first | exact HK.out | apply KeepBut.set_ | apply keep_drewN | apply keep_drew | apply keep_alloc) | exact HK.out)) (KeepBut.of_below hb g none) (.inl rfl)); have n8_ := aM (below_step (by repeat (first | (with_reducible first | exact HB.out | apply below_alloc | apply pw_below_drewN | apply below_drew1 | refine below_set ?_ (IsS132.ge HI0.out)) | exact HB.out)) hb); clear HO1119; clear HO1122; clear HO1125; clear HO1128; clear HO1131; clear HI0; clear HK; clear HB; have HO1119 := n0_; have HO1122 := n1_; have HO1125 := n2_; have HO1128 := n3_; have HO1131 := n4_; have HO1134 := n5_; have HI0 := n6_; have HK := n7_; have HB := n8_; clear n0_ n1_ n2_ n3_ n4_ n5_ n6_ n7_ n8_; clear hb ho24) | ((with_reducible refine gate_dst (N := 13) rfl ?_); refine Kd.R_lit (Kd.int .i64) _ 2 ?hg (N := 13) ?hd (xs := ([4, 2] : List Int)) (inner := [.int .i64 4, .int .i64 2]) (ok := fun _ => True) (okp := fun _ => True) ?hr ?hp (fun _ hk => hk) trivial (Below.refl _ _) (Nat.le_refl _) (by simp) ?_; (case hd => rfl); (case hg => rfl); (case hr => first | (go_simp; done) | (go_simp; rfl)); (case hp => exact (Reps.one (show Kd.M (Kd.int .i64) _ _ _ 4 [.int .i64 4] from rfl) (Reps.one (show Kd.M (Kd.int .i64) _ _ _ 2 [.int .i64 2] from rfl) (Reps.none _ _)))); intro v1136 w25 ho26 hb hg_ hnew_; clear hg_ hnew_; (first | rw [← Ny1135.out] at ho26 | (simp only [Int.reduceToNat] at ho26; rw [← Ny1135.out] at ho26)); have n0_ := aM (Kd.R_elder' (mR_ HO1119.out) (Kd.R_base ho26) hb); have n1_ := aM (Kd.R_elder' (mR_ HO1122.out) (Kd.R_base ho26) hb); have n2_ := aM (Kd.R_elder' (mR_ HO1125.out) (Kd.R_base ho26) hb); have n3_ := aM (Kd.R_elder' (mR_ HO1128.out) (Kd.R_base ho26) hb); have n4_ := aM (Kd.R_elder' (mR_ HO1131.out) (Kd.R_base ho26) hb); have n5_ := aM (Kd.R_elder' (mR_ HO1134.out) (Kd.R_base ho26) hb); have n6_ := aM (Kd.R_lower (Kd.R_new' (Kd.R_new' (Kd.R_new' (Kd.R_new' (Kd.R_new' (Kd.R_new' ho26 (Kd.R_lt (mR_ HO1119.out))) (Kd.R_lt (mR_ HO1122.out))) (Kd.R_lt (mR_ HO1125.out))) (Kd.R_lt (mR_ HO1128.out))) (Kd.R_lt (mR_ HO1131.out))) (Kd.R_lt (mR_ HO1134.out))) (keep_size (w := w) (g := g) (row := none) (by repeat (first | (with_reducible first | exact HK.out | apply KeepBut.set_ | apply keep_drewN | apply keep_drew | apply keep_alloc) | exact HK.out)))); have n7_ := aM (IsS132.below (by repeat (first | (with_reducible first | exact HI0.out | apply IsS132.alloc | apply IsS132.drewN | apply IsS132.drew | apply IsS132.set_1 | apply IsS132.set_2) | exact HI0.out)) hb); have n8_ := aM (KeepBut.trans (by repeat (first | (with_reducible first | exact HK.out | apply KeepBut.set_ | apply keep_drewN | apply keep_drew | apply keep_alloc) | exact HK.out)) (KeepBut.of_below hb g none) (.inl rfl)); have n9_ := aM (below_step (by repeat (first | (with_reducible first | exact HB.out | apply below_alloc | apply pw_below_drewN | apply below_drew1 | refine below_set ?_ (IsS132.ge HI0.out)) | exact HB.out)) hb); clear HO1119; clear HO1122; clear HO1125; clear HO1128; clear HO1131; clear HO1134; clear HI0; clear HK; clear HB; have HO1119 := n0_; have HO1122 := n1_; have HO1125 := n2_; have HO1128 := n3_; have HO1131 := n4_; have HO1134 := n5_; have HO1137 := n6_; have HI0 := n7_; have HK := n8_; have HB := n9_; clear n0_ n1_ n2_ n3_ n4_ n5_ n6_ n7_ n8_ n9_; clear hb ho26; obtain ⟨Ao27, co27, eo27⟩ := Kd.R_slice HO1119.out; subst eo27; obtain ⟨Ao28, co28, eo28⟩ := Kd.R_slice HO1122.out; subst eo28; obtain ⟨Ao29, co29, eo29⟩ := Kd.R_slice HO1125.out; subst eo29; obtain ⟨Ao30, co30, eo30⟩ := Kd.R_slice HO1128.out; subst eo30; obtain ⟨Ao31, co31, eo31⟩ := Kd.R_slice HO1131.out; subst eo31; obtain ⟨Ao32, co32, eo32⟩ := Kd.R_slice HO1134.out; subst eo32; obtain ⟨Ao33, co33, eo33⟩ := Kd.R_slice HO1137.out; subst eo33) | ((with_reducible refine gate_dst (N := 14) rfl ?_); refine Kd.N_lit (Kd.slice 2 (Kd.int .i64)) _ 22 ?hg (N' := 14) ?hd (xs := ([y1117, y1120, y1123, y1126, y1129, y1132, y1135] : List (List Int))) (inner := [.slice Ao27 y1117.length co27, .slice Ao28 y1120.length co28, .slice Ao29 y1123.length co29, .slice Ao30 y1126.length co30, .slice Ao31 y1129.length co31, .slice Ao32 y1132.length co32, .slice Ao33 y1135.length co33]) (ok := (fun k_ => k_ ≠ g)) (okp := (fun k_ => k_ ≠ g)) ?hr ?hp (fun _ hk => hk) ((show ∀ k_, w25.heap.size ≤ k_ → (fun k_ => k_ ≠ g) k_ from fun k_ hk => IsS132.fresh (by repeat (first | (with_reducible first | exact HI0.out | apply IsS132.alloc | apply IsS132.drewN | apply IsS132.drew | apply IsS132.set_1 | apply IsS132.set_2) | exact HI0.out)) k_ hk) _ (Nat.le_refl _)) (Below.refl _ _) (Nat.le_refl _) (by simp) ?_; (case hd => rfl); (case hg => rfl); (case hr => first | (go_simp; done) | (go_simp; rfl)); (case hp => exact (Reps.one (show Kd.FK (Kd.slice 2 (Kd.int .i64)) _ _ y1117 [.slice Ao27 y1117.length co27] from (Kd.FK_slice_mk (Kd.R_reads' (Kd.R_mono (ok' := (fun k_ => k_ ≠ g)) (IsS132.apart HI0.out (HO1119.out) (by decide)) (fun k_ hk => hk.2))).2.1 (Kd.R_F (Kd.R_mono (ok' := (fun k_ => k_ ≠ g)) (IsS132.apart HI0.out (HO1119.out) (by decide)) (fun k_ hk => hk.2))))) (Reps.one (show Kd.FK (Kd.slice 2 (Kd.int .i64)) _ _ y1120 [.slice Ao28 y1120.length co28] from (Kd.FK_slice_mk (Kd.R_reads' (Kd.R_mono (ok' := (fun k_ => k_ ≠ g)) (IsS132.apart HI0.out (HO1122.out) (by decide)) (fun k_ hk => hk.2))).2.1 (Kd.R_F (Kd.R_mono (ok' := (fun k_ => k_ ≠ g)) (IsS132.apart HI0.out (HO1122.out) (by decide)) (fun k_ hk => hk.2))))) (Reps.one (show Kd.FK (Kd.slice 2 (Kd.int .i64)) _ _ y1123 [.slice Ao29 y1123.length co29] from (Kd.FK_slice_mk (Kd.R_reads' (Kd.R_mono (ok' := (fun k_ => k_ ≠ g)) (IsS132.apart HI0.out (HO1125.out) (by decide)) (fun k_ hk => hk.2))).2.1 (Kd.R_F (Kd.R_mono (ok' := (fun k_ => k_ ≠ g)) (IsS132.apart HI0.out (HO1125.out) (by decide)) (fun k_ hk => hk.2))))) (Reps.one (show Kd.FK (Kd.slice 2 (Kd.int .i64)) _ _ y1126 [.slice Ao30 y1126.length co30] from (Kd.FK_slice_mk (Kd.R_reads' (Kd.R_mono (ok' := (fun k_ => k_ ≠ g)) (IsS132.apart HI0.out (HO1128.out) (by decide)) (fun k_ hk => hk.2))).2.1 (Kd.R_F (Kd.R_mono (ok' := (fun k_ => k_ ≠ g)) (IsS132.apart HI0.out (HO1128.out) (by decide)) (fun k_ hk => hk.2))))) (Reps.one (show Kd.FK (Kd.slice 2 (Kd.int .i64)) _ _ y1129 [.slice Ao31 y1129.length co31] from (Kd.FK_slice_mk (Kd.R_reads' (Kd.R_mono (ok' := (fun k_ => k_ ≠ g)) (IsS132.apart HI0.out (HO1131.out) (by decide)) (fun k_ hk => hk.2))).2.1 (Kd.R_F (Kd.R_mono (ok' := (fun k_ => k_ ≠ g)) (IsS132.apart HI0.out (HO1131.out) (by decide)) (fun k_ hk => hk.2))))) (Reps.one (show Kd.FK (Kd.slice 2 (Kd.int .i64)) _ _ y1132 [.slice Ao32 y1132.length co32] from (Kd.FK_slice_mk (Kd.R_reads' (Kd.R_mono (ok' := (fun k_ => k_ ≠ g)) (IsS132.apart HI0.out (HO1134.out) (by decide)) (fun k_ hk => hk.2))).2.1 (Kd.R_F (Kd.R_mono (ok' := (fun k_ => k_ ≠ g)) (IsS132.apart HI0.out (HO1134.out) (by decide)) (fun k_ hk => hk.2))))) (Reps.one (show Kd.FK (Kd.slice 2 (Kd.int .i64)) _ _ y1135 [.slice Ao33 y1135.length co33] from (Kd.FK_slice_mk (Kd.R_reads' (Kd.R_mono (ok' := (fun k_ => k_ ≠ g)) (IsS132.apart HI0.out (HO1137.out) (by decide)) (fun k_ hk => hk.2))).2.1 (Kd.R_F (Kd.R_mono (ok' := (fun k_ => k_ ≠ g)) (IsS132.apart HI0.out (HO1137.out) (by decide)) (fun k_ hk => hk.2))))) (Reps.none _ _))))))))); intro v1139 w34 ho35 hb hg_ hnew_; clear hg_ hnew_; (first | rw [← Ny1138.out] at ho35 | (simp only [Int.reduceToNat] at ho35; rw [← Ny1138.out] at ho35)); have n0_ := aM (Kd.N_lower ho35 (keep_size (w := w) (g := g) (row := none) (by repeat (first | (with_reducible first | exact HK.out | apply KeepBut.set_ | apply keep_drewN | apply keep_drew | apply keep_alloc) | exact HK.out)))); have n1_ := aM (IsS132.below (by repeat (first | (with_reducible first | exact HI0.out | apply IsS132.alloc | apply IsS132.drewN | apply IsS132.drew | apply IsS132.set_1 | apply IsS132.set_2) | exact HI0.out)) hb); have n2_ := aM (KeepBut.trans (by repeat (first | (with_reducible first | exact HK.out | apply KeepBut.set_ | apply keep_drewN | apply keep_drew | apply keep_alloc) | exact HK.out)) (KeepBut.of_below hb g none) (.inl rfl)); have n3_ := aM (below_step (by repeat (first | (with_reducible first | exact HB.out | apply below_alloc | apply pw_below_drewN | apply below_drew1 | refine below_set ?_ (IsS132.ge HI0.out)) | exact HB.out)) hb); clear HI0; clear HK; clear HB; clear HO1119; clear HO1122; clear HO1125; clear HO1128; clear HO1131; clear HO1134; clear HO1137; have HO1140 := n0_; have HI0 := n1_; have HK := n2_; have HB := n3_; clear n0_ n1_ n2_ n3_; clear hb ho35) | ((with_reducible refine gate_callee (f := 118) rfl ?_); refine goesL_ (some 17) rfl rfl Try.func118 (by kernel_rfl) rfl #[.pointer (some ⟨g, 0, none⟩), .int .i64 7] rfl zm ?_; (with_reducible refine (spec_l01Next.calls g s0_0 s0_1 s0_2 7 t1141 t1142 t1143 w0 _ ?side1 ?side2 A2.out).mono ?_); (case side1 => repeat (first | (with_reducible first | exact HI0.out | apply IsS132.alloc | apply IsS132.drewN | apply IsS132.drew | apply IsS132.set_1 | apply IsS132.set_2) | exact HI0.out)); (case side2 => repeat (first | (with_reducible first | exact HB.out | apply below_alloc | apply pw_below_drewN | apply below_drew1 | refine below_set ?_ (IsS132.ge HI0.out)) | exact HB.out)); rintro e w36 ⟨rfl, hi, hb, hk⟩; refine ⟨_, rfl, ?_⟩; have n0_ := aM (Kd.N_mono (Kd.N_keep (Kd.N_mono (ok := fun k_ => k_ ≠ g) (mN_ HO1140.out) (fun k_ hk_ => (⟨hk_, hk_⟩ : _ ∧ k_ ≠ g))) hk (fun _ h => h.2)) (fun _ h => h.1)); have n1_ := aM (KeepBut.trans (by repeat (first | (with_reducible first | exact HK.out | apply KeepBut.set_ | apply keep_drewN | apply keep_drew | apply keep_alloc) | exact HK.out)) hk (.inl rfl)); have n2_ := aM (hb); have n3_ := aM (hi); clear HO1140; clear HK; clear HB; clear HI0; have HO1140 := n0_; have HK := n1_; have HB := n2_; have HI0 := n3_; clear n0_ n1_ n2_ n3_; (try clear hb); (try clear hb2); (try clear hk); (try clear hi); obtain ⟨Ao37, co37, eo37⟩ := Kd.N_slice HO1140.out; subst eo37; have p1144 : 0 ≤ (t1141 : Int) := of_decide_eq_true za; have q1144 : t1141 < (y1138.length : Int) := of_decide_eq_true za; obtain ⟨ad1144, A1144_0, c1144_0, e1144, hx1144_0, hl1144_0, hi1144_0⟩ := at_L1 (Kd.N_reads' HO1140.out).2.2 t1141 p1144 q1144; cases e1144; obtain ⟨ce1144, hce1144, hMe1144, hcc1144⟩ := Kd.N_get HO1140.out [] t1141 p1144 (by first | exact q1144 | exact of_decide_eq_true za | (have e_ := (Kd.N_reads' HO1140.out).1; omega)); obtain ⟨ua1144_0, uc1144_0, rfl, ul1144_0, ge1144_0⟩ := Kd.FK_slice_open hMe1144; have hv1144_0 := hcc1144 0 _ rfl; rw [Nat.add_zero, show ((Kd.slice 2 (Kd.int .i64))).sz = 1 from rfl, Nat.mul_one] at hv1144_0; replace hv1144_0 := Option.some.inj (hv1144_0.symm.trans hx1144_0); injection hv1144_0 with hva_ hvn_ hvc_; rw [hva_] at ge1144_0; rw [hvc_] at ul1144_0; have HL1144_0 := aM (show Kd.V (Kd.int .i64) 2 _ w.heap.size _ _ (rd_L1 y1138 t1141) from Kd.V_mk ul1144_0 ge1144_0); clear hva_ hvn_ hvc_ ge1144_0 ul1144_0; clear hcc1144 hce1144; have HR1144_0 := aM hi1144_0; have HC1144_0 := aM hl1144_0; clear hi1144_0 hl1144_0; replace p1144 := eq_true p1144; replace q1144 := eq_true q1144))
 have n0_ := aM (Kd.N_drew HO1140.out)
 have n1_ := aM (Kd.V_drew HL1144_0.out)
 have n2_ := aM (Kd.C_drew HR1144_0.out)
 have n3_ := aM (IsS132.drew HI0.out)
 have n4_ := aM (keep_drew HK.out)
 have n5_ := aM (below_drew1 HB.out)
 clear HO1140
 clear HL1144_0
 clear HR1144_0
 clear HI0
 clear HK
 clear HB
 have HO1140 := n0_
 have HL1144_0 := n1_
 have HR1144_0 := n2_
 have HI0 := n3_
 have HK := n4_
 have HB := n5_
 clear n0_ n1_ n2_ n3_ n4_ n5_
 have p1145 : 0 ≤ (0 : Int) := (by omega)
 have q1145 : 0 < ((rd_L1 y1138 t1141).length : Int) := of_decide_eq_true za
 obtain ⟨ad1145, e1145, hx1145_0⟩ := Kd.at_int (mQ_ HR1144_0.out) 0 p1145 q1145
 cases e1145
 have qi1145 : (0 < (rd_L1 y1138 t1141).length) = True := eq_true (by omega)
 (try rw [show ((0 : Int)).toNat = 0 from rfl] at hx1145_0)
 (try rw [Addr.add_zero'] at hx1145_0)
 replace p1145 := eq_true p1145
 replace q1145 := eq_true q1145
 have p1146 : 0 ≤ (1 : Int) := (by omega)
 have q1146 : 1 < ((rd_L1 y1138 t1141).length : Int) := of_decide_eq_true za
 obtain ⟨ad1146, e1146, hx1146_0⟩ := Kd.at_int (mQ_ HR1144_0.out) 1 p1146 q1146
 obtain rfl : ad1145 = ad1146 := (by injection e1146)
 (try simp only [show (1 : Int).toNat = 1 from rfl, Nat.reduceMul, Nat.reduceEqDiff, Go.Addr.add, ↓reduceIte] at hx1146_0)
 have qi1146 : (1 < (rd_L1 y1138 t1141).length) = True := eq_true (by omega)
 (try rw [show ((1 : Int)).toNat = 1 from rfl] at hx1146_0)
 replace p1146 := eq_true p1146
 replace q1146 := eq_true q1146
 refine start_ (n := 8) (S := fun w' => w'.cell? ad1145 = some (.int .i64 (rd (rd_L1 y1138 t1141) 0)) ∧ w'.cell? ⟨ad1145.block, ad1145.off + 1, none⟩ = some (.int .i64 (rd (rd_L1 y1138 t1141) 1))) (ds := []) #[false, false, false, false, false, false, false, false] (by kernel_rfl) rfl rfl ⟨hx1145_0, hx1146_0⟩ (fun hHeld => ?_); refine with_tabW spec_l10DrawSmall.tab3 spec_l10DrawSmall.bits3 (fun HT_ HW_ => ?_)
 generalize w36.drew = w38 at HO1140 HL1144_0 HR1144_0 HI0 HK HB hx1145_0 hx1146_0 hHeld ⊢
 refine pure_ (i := 0) (N := some 20) (v := ?_) (a' := ?_) #[true, false, false, false, false, false, false, false] rfl rfl zz (fun _ _ _ h => h) (Or.inl ⟨by rfl, ?_⟩) ?_ ?_
 rotate_left
 ·intro w'
  go_simp
  with_reducible rfl
 rotate_left
 ·simp only [Act.put, xA, xB, xC, i64_w, i32_w]
  rfl
 refine pure_ (i := 1) (N := some 21) (v := ?_) (a' := ?_) #[true, true, false, false, false, false, false, false] rfl rfl zz (fun _ _ _ h => h) (Or.inl ⟨by rfl, ?_⟩) ?_ ?_
 rotate_left
 ·intro w'
  go_simp
  with_reducible rfl
 rotate_left
 ·simp only [Act.put, xA, xB, xC, i64_w, i32_w]
  rfl
 refine pure_ (i := 3) (N := some 23) (v := ?_) (a' := ?_) #[true, true, false, true, false, false, false, false] rfl rfl zz (fun _ _ _ h => h) (Or.inl ⟨by rfl, ?_⟩) ?_ ?_
 rotate_left
 ·intro w'
  go_simp
  with_reducible rfl
 rotate_left
 ·simp only [Act.put, xA, xB, xC, i64_w, i32_w]
  rfl
 refine pure_ (i := 4) (N := some 24) (v := ?_) (a' := ?_) #[true, true, false, true, true, false, false, false] rfl rfl zz (fun _ _ _ h => h) (Or.inl ⟨by rfl, ?_⟩) ?_ ?_
 rotate_left
 ·intro w'
  go_simp
  with_reducible rfl
 rotate_left
 ·simp only [Act.put, xA, xB, xC, i64_w, i32_w]
  rfl
 refine take_ (i := 2) (N := some 22) (v := ?_) (a' := ?_) #[true, true, true, true, true, false, false, false] rfl rfl (take_ofW HT_.out HW_.out (by kernel_rfl)) (fun _ _ _ h => h) (Or.inl ⟨by rfl, ?_⟩) hHeld ?_ ?_
 rotate_left
 ·rintro w' ⟨s0, s1⟩
  go_simp
  with_reducible rfl
 rotate_left
 ·simp only [Act.put, xA, xB, xC, i64_w, i32_w]
  rfl
 refine take_ (i := 5) (N := some 25) (v := ?_) (a' := ?_) #[true, true, true, true, true, true, false, false] rfl rfl (take_ofW HT_.out HW_.out (by kernel_rfl)) (fun _ _ _ h => h) (Or.inl ⟨by rfl, ?_⟩) hHeld ?_ ?_
 rotate_left
 ·rintro w' ⟨s0, s1⟩
  go_simp
  with_reducible rfl
 rotate_left
 ·simp only [Act.put, xA, xB, xC, i64_w, i32_w]
  rfl
 refine one_ (i := 6) (N := some 26) #[true, true, true, true, true, true, true, false] rfl rfl (one_of HT_.out (by kernel_rfl)) (by decide) (fun K hK => ?_)
 refine goes_ Try.func130 (by kernel_rfl) rfl #[.int .i64 (rd (rd_L1 y1138 t1141) 0), .int .i64 (rd (rd_L1 y1138 t1141) 1)] (by rfl) rfl rfl zm ?_
 with_reducible refine (spec_l10Rectangle.calls k (rd (rd_L1 y1138 t1141) 0) (rd (rd_L1 y1138 t1141) 1) t1147 _ A7.out).mono ?_
 rintro e w39 ⟨v1148, rfl, ho0, hb⟩
 have HS0_ := (hb.cell (World.block_lt_of_cell? _ _ (hHeld.1))).trans (hHeld.1)
 have HS1_ := (hb.cell (World.block_lt_of_cell? _ _ (hHeld.2))).trans (hHeld.2)
 refine ⟨_, rfl, ?_⟩
 have n0_ := aM (Kd.N_elder' (mN_ HO1140.out) (Kd.R_base ho0) hb)
 have n1_ := aM (Kd.V_elder' (mV_ HL1144_0.out) (Kd.R_base ho0) hb)
 have n2_ := aM (Kd.R_lower ho0 (keep_size (w := w) (g := g) (row := none) (by repeat (first | (with_reducible first | exact HK.out | apply KeepBut.set_ | apply keep_drewN | apply keep_drew | apply keep_alloc) | exact HK.out))))
 have n3_ := aM (IsS132.below (by repeat (first | (with_reducible first | exact HI0.out | apply IsS132.alloc | apply IsS132.drewN | apply IsS132.drew | apply IsS132.set_1 | apply IsS132.set_2) | exact HI0.out)) hb)
 have n4_ := aM (Kd.C_below (mQ_ HR1144_0.out) hb)
 have n5_ := aM (KeepBut.trans (by repeat (first | (with_reducible first | exact HK.out | apply KeepBut.set_ | apply keep_drewN | apply keep_drew | apply keep_alloc) | exact HK.out)) (KeepBut.of_below hb g none) (.inl rfl))
 have n6_ := aM (below_step (by repeat (first | (with_reducible first | exact HB.out | apply below_alloc | apply pw_below_drewN | apply below_drew1 | refine below_set ?_ (IsS132.ge HI0.out)) | exact HB.out)) hb)
 clear HO1140
 clear HL1144_0
 clear HI0
 clear HR1144_0
 clear HK
 clear HB
 have HO1140 := n0_
 have HL1144_0 := n1_
 have HO1149 := n2_
 have HI0 := n3_
 have HR1144_0 := n4_
 have HK := n5_
 have HB := n6_
 clear n0_ n1_ n2_ n3_ n4_ n5_ n6_
 (try clear hb)
 (try clear hb2)
 (try clear hk)
 (try clear hi)
 (try clear ho0)
 refine hK.out _ _ ⟨HS0_, HS1_⟩ (fun hHeld => ?_)
 clear hK K
 refine norm_ (a' := ?_) ?_ ?_
 rotate_left
 ·show Act.put _ (some 26) _ = _
  simp only [Act.put, xA, xB, xC, i64_w, i32_w]
  rfl
 refine pure_ (i := 7) (N := some 5) (v := ?_) (a' := ?_) #[true, true, true, true, true, true, true, true] rfl rfl zz (fun _ _ _ h => h) (Or.inl ⟨by rfl, ?_⟩) ?_ ?_
 rotate_left
 ·intro w'
  go_simp
  with_reducible rfl
 rotate_left
 ·simp only [Act.put, xA, xB, xC, i64_w, i32_w]
  rfl
 refine done_ (done_of HT_.out (by kernel_rfl)) ?_
 try go_wp2_with (first | ((with_reducible refine gate_callee (f := 118) rfl ?_); refine goesL_ (some 28) rfl rfl Try.func118 (by kernel_rfl) rfl #[.pointer (some ⟨g, 0, none⟩), .int .i64 3] rfl zm ?_; (with_reducible refine (spec_l01Next.calls g s0_0 t1142 t1143 3 t1150 t1151 t1152 w0 _ ?side1 ?side2 A8.out).mono ?_); (case side1 => repeat (first | (with_reducible first | exact HI0.out | apply IsS132.alloc | apply IsS132.drewN | apply IsS132.drew | apply IsS132.set_1 | apply IsS132.set_2) | exact HI0.out)); (case side2 => repeat (first | (with_reducible first | exact HB.out | apply below_alloc | apply pw_below_drewN | apply below_drew1 | refine below_set ?_ (IsS132.ge HI0.out)) | exact HB.out)); rintro e w40 ⟨rfl, hi, hb, hk⟩; refine ⟨_, rfl, ?_⟩; have n0_ := aM (Kd.N_mono (Kd.N_keep (Kd.N_mono (ok := fun k_ => (k_ ≠ g ∧ some k_ ≠ (v1148 : Value).ownBlock)) (mN_ HO1140.out) (fun k_ hk_ => (⟨hk_, hk_.1⟩ : _ ∧ k_ ≠ g))) hk (fun _ h => h.2)) (fun _ h => h.1)); have n1_ := aM (Kd.V_mono (Kd.V_keep (Kd.V_mono (ok := fun k_ => ((k_ ≠ g ∧ some k_ ≠ (.slice (some ad1144) y1138.length co37 : Value).ownBlock) ∧ some k_ ≠ (v1148 : Value).ownBlock)) (mV_ HL1144_0.out) (fun k_ hk_ => (⟨hk_, hk_.1.1⟩ : _ ∧ k_ ≠ g))) hk (fun _ h => h.2)) (fun _ h => h.1)); have n2_ := aM (Kd.R_mono (Kd.R_keep (IsS132.apart (show IsS132 w0 _ g s0_0 t1142 t1143 from by repeat (first | (with_reducible first | exact HI0.out | apply IsS132.alloc | apply IsS132.drewN | apply IsS132.drew | apply IsS132.set_1 | apply IsS132.set_2) | exact HI0.out)) (mR_ HO1149.out) (by decide)) hk (fun _ h => h.2)) (fun _ h => h.1)); have n3_ := aM (KeepBut.trans (by repeat (first | (with_reducible first | exact HK.out | apply KeepBut.set_ | apply keep_drewN | apply keep_drew | apply keep_alloc) | exact HK.out)) hk (.inl rfl)); have n4_ := aM (hb); have n5_ := aM (hi); clear HO1140; clear HL1144_0; clear HO1149; clear HK; clear HB; clear HI0; have HO1140 := n0_; have HL1144_0 := n1_; have HO1149 := n2_; have HK := n3_; have HB := n4_; have HI0 := n5_; clear n0_ n1_ n2_ n3_ n4_ n5_; (try clear hb); (try clear hb2); (try clear hk); (try clear hi); obtain ⟨Ao41, co41, eo41⟩ := Kd.R_slice HO1149.out; subst eo41) | ((with_reducible refine gate_callee (f := 118) rfl ?_); refine goesL_ (some 33) rfl rfl Try.func118 (by kernel_rfl) rfl #[.pointer (some ⟨g, 0, none⟩), .int .i64 (t1147.length : Int)] rfl zm ?_; (with_reducible refine (spec_l01Next.calls g s0_0 t1151 t1152 (t1147.length : Int) t1153 t1154 t1155 w0 _ ?side1 ?side2 A10.out).mono ?_); (case side1 => repeat (first | (with_reducible first | exact HI0.out | apply IsS132.alloc | apply IsS132.drewN | apply IsS132.drew | apply IsS132.set_1 | apply IsS132.set_2) | exact HI0.out)); (case side2 => repeat (first | (with_reducible first | exact HB.out | apply below_alloc | apply pw_below_drewN | apply below_drew1 | refine below_set ?_ (IsS132.ge HI0.out)) | exact HB.out)); rintro e w42 ⟨rfl, hi, hb, hk⟩; refine ⟨_, rfl, ?_⟩; have n0_ := aM (Kd.N_mono (Kd.N_keep (Kd.N_mono (ok := fun k_ => (k_ ≠ g ∧ some k_ ≠ (.slice Ao41 t1147.length co41 : Value).ownBlock)) (mN_ HO1140.out) (fun k_ hk_ => (⟨hk_, hk_.1⟩ : _ ∧ k_ ≠ g))) hk (fun _ h => h.2)) (fun _ h => h.1)); have n1_ := aM (Kd.V_mono (Kd.V_keep (Kd.V_mono (ok := fun k_ => ((k_ ≠ g ∧ some k_ ≠ (.slice (some ad1144) y1138.length co37 : Value).ownBlock) ∧ some k_ ≠ (.slice Ao41 t1147.length co41 : Value).ownBlock)) (mV_ HL1144_0.out) (fun k_ hk_ => (⟨hk_, hk_.1.1⟩ : _ ∧ k_ ≠ g))) hk (fun _ h => h.2)) (fun _ h => h.1)); have n2_ := aM (Kd.R_mono (Kd.R_keep (IsS132.apart (show IsS132 w0 _ g s0_0 t1151 t1152 from by repeat (first | (with_reducible first | exact HI0.out | apply IsS132.alloc | apply IsS132.drewN | apply IsS132.drew | apply IsS132.set_1 | apply IsS132.set_2) | exact HI0.out)) (mR_ HO1149.out) (by decide)) hk (fun _ h => h.2)) (fun _ h => h.1)); have n3_ := aM (KeepBut.trans (by repeat (first | (with_reducible first | exact HK.out | apply KeepBut.set_ | apply keep_drewN | apply keep_drew | apply keep_alloc) | exact HK.out)) hk (.inl rfl)); have n4_ := aM (hb); have n5_ := aM (hi); clear HO1140; clear HL1144_0; clear HO1149; clear HK; clear HB; clear HI0; have HO1140 := n0_; have HL1144_0 := n1_; have HO1149 := n2_; have HK := n3_; have HB := n4_; have HI0 := n5_; clear n0_ n1_ n2_ n3_ n4_ n5_; (try clear hb); (try clear hb2); (try clear hk); (try clear hi)) | ((with_reducible refine gate_callee (f := 159) rfl ?_); refine goesL_ (some 36) rfl rfl Try.func159 (by kernel_rfl) rfl #[.slice Ao41 t1147.length co41, .int .i64 t1153] rfl zm ?_; (with_reducible refine (spec_l05Without.calls _ _ t1147 t1153 t1156 _ ?side1 ?side2 A11.out).mono ?_); (case side1 => repeat (first | exact (Kd.R_reads' HO1149.out).2.2 | (with_reducible refine Kd.C_alloc ?_ _) | (with_reducible refine Kd.C_drewN ?_ _) | (with_reducible refine Kd.C_drew ?_))); (case side2 => exact (Kd.R_reads' HO1149.out).2.1); rintro e w43 ⟨v1157, rfl, ho0, hb⟩; refine ⟨_, rfl, ?_⟩; have n0_ := aM (Kd.N_elder' (mN_ HO1140.out) (Kd.R_base ho0) hb); have n1_ := aM (Kd.V_elder' (mV_ HL1144_0.out) (Kd.R_base ho0) hb); have n2_ := aM (Kd.R_elder' (mR_ HO1149.out) (Kd.R_base ho0) hb); have n3_ := aM (Kd.R_lower (Kd.R_new' ho0 (Kd.R_lt (mR_ HO1149.out))) (keep_size (w := w) (g := g) (row := none) (by repeat (first | (with_reducible first | exact HK.out | apply KeepBut.set_ | apply keep_drewN | apply keep_drew | apply keep_alloc) | exact HK.out)))); have n4_ := aM (IsS132.below (by repeat (first | (with_reducible first | exact HI0.out | apply IsS132.alloc | apply IsS132.drewN | apply IsS132.drew | apply IsS132.set_1 | apply IsS132.set_2) | exact HI0.out)) hb); have n5_ := aM (KeepBut.trans (by repeat (first | (with_reducible first | exact HK.out | apply KeepBut.set_ | apply keep_drewN | apply keep_drew | apply keep_alloc) | exact HK.out)) (KeepBut.of_below hb g none) (.inl rfl)); have n6_ := aM (below_step (by repeat (first | (with_reducible first | exact HB.out | apply below_alloc | apply pw_below_drewN | apply below_drew1 | refine below_set ?_ (IsS132.ge HI0.out)) | exact HB.out)) hb); clear HO1140; clear HL1144_0; clear HO1149; clear HI0; clear HK; clear HB; have HO1140 := n0_; have HL1144_0 := n1_; have HO1149 := n2_; have HO1158 := n3_; have HI0 := n4_; have HK := n5_; have HB := n6_; clear n0_ n1_ n2_ n3_ n4_ n5_ n6_; (try clear hb); (try clear hb2); (try clear hk); (try clear hi); (try clear ho0); obtain ⟨Ao44, co44, eo44⟩ := Kd.R_slice HO1158.out; subst eo44) | ((with_reducible refine gate_callee (f := 116) rfl ?_); refine goesL_ (some 37) rfl rfl Try.func116 (by kernel_rfl) rfl #[.slice Ao44 t1156.length co44] rfl zm ?_; (with_reducible refine (spec_l02Normal.calls k _ _ t1156 t1159 _ ?side1 ?side2 A12.out).mono ?_); (case side1 => repeat (first | exact (Kd.R_reads' HO1158.out).2.2 | (with_reducible refine Kd.C_alloc ?_ _) | (with_reducible refine Kd.C_drewN ?_ _) | (with_reducible refine Kd.C_drew ?_))); (case side2 => exact (Kd.R_reads' HO1158.out).2.1); rintro e w45 ⟨v1160, rfl, ho0, hb⟩; refine ⟨_, rfl, ?_⟩; have n0_ := aM (Kd.N_elder' (mN_ HO1140.out) (Kd.R_base ho0) hb); have n1_ := aM (Kd.V_elder' (mV_ HL1144_0.out) (Kd.R_base ho0) hb); have n2_ := aM (Kd.R_elder' (mR_ HO1149.out) (Kd.R_base ho0) hb); have n3_ := aM (Kd.R_elder' (mR_ HO1158.out) (Kd.R_base ho0) hb); have n4_ := aM (Kd.R_lower (Kd.R_new' (Kd.R_new' ho0 (Kd.R_lt (mR_ HO1149.out))) (Kd.R_lt (mR_ HO1158.out))) (keep_size (w := w) (g := g) (row := none) (by repeat (first | (with_reducible first | exact HK.out | apply KeepBut.set_ | apply keep_drewN | apply keep_drew | apply keep_alloc) | exact HK.out)))); have n5_ := aM (IsS132.below (by repeat (first | (with_reducible first | exact HI0.out | apply IsS132.alloc | apply IsS132.drewN | apply IsS132.drew | apply IsS132.set_1 | apply IsS132.set_2) | exact HI0.out)) hb); have n6_ := aM (KeepBut.trans (by repeat (first | (with_reducible first | exact HK.out | apply KeepBut.set_ | apply keep_drewN | apply keep_drew | apply keep_alloc) | exact HK.out)) (KeepBut.of_below hb g none) (.inl rfl)); have n7_ := aM (below_step (by repeat (first | (with_reducible first | exact HB.out | apply below_alloc | apply pw_below_drewN | apply below_drew1 | refine below_set ?_ (IsS132.ge HI0.out)) | exact HB.out)) hb); clear HO1140; clear HL1144_0; clear HO1149; clear HO1158; clear HI0; clear HK; clear HB; have HO1140 := n0_; have HL1144_0 := n1_; have HO1149 := n2_; have HO1158 := n3_; have HO1161 := n4_; have HI0 := n5_; have HK := n6_; have HB := n7_; clear n0_ n1_ n2_ n3_ n4_ n5_ n6_ n7_; (try clear hb); (try clear hb2); (try clear hk); (try clear hi); (try clear ho0)))
 go_ret
 exact ⟨_, zw, by (with_reducible repeat (first | apply Kd.R_alloc | apply Kd.R_drewN | apply Kd.R_drew)); exact Kd.R_mono HO1161.out (fun _ hk => trivial), by repeat (first | (with_reducible first | exact HI0.out | apply IsS132.alloc | apply IsS132.drewN | apply IsS132.drew | apply IsS132.set_1 | apply IsS132.set_2) | exact HI0.out), by repeat (first | (with_reducible first | exact HB.out | apply below_alloc | apply pw_below_drewN | apply below_drew1 | refine below_set ?_ (IsS132.ge HI0.out)) | exact HB.out), by repeat (first | (with_reducible first | exact HK.out | apply KeepBut.set_ | apply keep_drewN | apply keep_drew | apply keep_alloc) | exact HK.out)⟩
end Go.Proofs.Ytabdmdkoffpppaa.F
end
section
namespace Go.Proofs.Ytabdmdkoffpppaa.F
open Go.RowKit Go.Proofs.YtabdmdkoffpppaaW.PrintWords Go.Proofs.YtabdmdkoffpppaaW.PrintLast Go.Proofs.YtabdmdkoffpppaaW.PrintMore
attribute [local go_sem] max2_int min2_int max_two min_two max_three min_three max_four min_four
set_option linter.unusedVariables false
set_option linter.unusedSimpArgs false
def spec_l10Draw.j0 : Nat → Bool → List Int → Int → Int → Option ((List (S59)) × Int × Int)
 | 0, _, _, _, _ => none
 | k + 1, x20, x1000, x1001, x1002 => if x20 = true then ((spec_l02DrawPoly.f k x1000 x1001 x1002 9).bind fun bt1179 => (some (bt1179.1, bt1179.2.1, bt1179.2.2))) else ((spec_l10DrawSmall.f k x1000 x1001 x1002).bind fun bt1184 => (some (bt1184.1, bt1184.2.1, bt1184.2.2)))
def spec_l10Draw.f (k : Nat) (s0_0 : List Int) (s0_1 : Int) (s0_2 : Int) : Option ((List (S59)) × Int × Int) := (spec_l01Next.f s0_0 s0_1 s0_2 24).bind fun bt1162 => (if bt1162.1 = 0 then ((spec_l02Draw.f k s0_0 bt1162.2.1 bt1162.2.2).bind fun bt1165 => (some (bt1165.1, bt1165.2.1, bt1165.2.2))) else (if bt1162.1 = 1 then ((spec_l10Rectangle.f k 20 2).bind fun t1170 => (some (t1170, bt1162.2.1, bt1162.2.2))) else (if bt1162.1 = 2 then ((spec_l01Next.f s0_0 bt1162.2.1 bt1162.2.2 2).bind fun bt1173 => (some ((([(⟨0, 0⟩ : S59), (⟨wrap64 (19 + bt1173.1), 0⟩ : S59)] : List (S59))), bt1173.2.1, bt1173.2.2))) else (if bt1162.1 = 3 then (spec_l10Draw.j0 k (bt1162.1 == 3) s0_0 bt1162.2.1 bt1162.2.2) else (spec_l10Draw.j0 k (bt1162.1 == 4) s0_0 bt1162.2.1 bt1162.2.2)))))
end Go.Proofs.Ytabdmdkoffpppaa.F
end
