/- The row of FnRestParts, with what it needs: text 6 of 13. -/
import Derived.Test.YtabdmdkoffpppaaKFR4
set_option maxHeartbeats 8000000
set_option maxRecDepth 100000
section
namespace Go.Proofs.Ytabdmdkoffpppaa.F
open Go.RowKit Go.Proofs.YtabdmdkoffpppaaW.PrintWords Go.Proofs.YtabdmdkoffpppaaW.PrintLast Go.Proofs.YtabdmdkoffpppaaW.PrintMore
attribute [local go_sem] max2_int min2_int max_two min_two max_three min_three max_four min_four
set_option linter.unusedVariables false
set_option linter.unusedSimpArgs false
theorem spec_l04Size.calls (k : Nat) (A0 : Option Addr) (c0 : Nat) (l0 : List (S59)) (r1 : Int) (r2 : Int) (w : World) (hr0 : Kd.C k59 w A0 l0.length l0) (hc0 : l0.length ≤ c0) (h : spec_l04Size.f k l0 = some (r1, r2)) :
  Calls Try.prog 125 #[.slice A0 l0.length c0] w fun e w' => e = .returned (.tuple #[.int .i64 r1, .int .i64 r2]) ∧ Below w.heap.size w w' := by
 have HR0 := aM hr0
 have HC0 := aM hc0
 clear hr0 hc0
 have HB := aM (Below.refl w.heap.size w)
 have H : ((spec_l02Least.f k l0).bind fun bt816 => (spec_l04Size.l0 k l0 bt816.1 bt816.2 0 0 0)) = some (r1, r2) := h
 clear h
 replace H := Option.bind_eq_some_iff.mp H
 obtain ⟨⟨t816, t817⟩, A20, H⟩ := H
 replace H : (spec_l04Size.l0 k l0 t816 t817 0 0 0) = some (r1, r2) := H
 have A2 := aM A20
 clear A20
 have H' := aM H
 clear H
 go_enter Try.func125, Try.ntmps125
 go_wp2_with (first | ((with_reducible refine gate_callee (f := 126) rfl ?_); refine goesL_ (some 11) rfl rfl Try.func126 (by kernel_rfl) rfl #[.slice A0 l0.length c0] rfl zm ?_; (with_reducible refine (spec_l02Least.calls k _ _ l0 t816 t817 _ ?side1 ?side2 A2.out).mono ?_); (case side1 => repeat (first | exact HR0.out | (with_reducible refine Kd.C_alloc ?_ _) | (with_reducible refine Kd.C_drewN ?_ _) | (with_reducible refine Kd.C_drew ?_))); (case side2 => exact HC0.out); rintro e w3 ⟨rfl, hb⟩; refine ⟨_, rfl, ?_⟩; have n0_ := aM (below_step zb hb); clear HB; have HB := n0_; clear n0_; (try clear hb); (try clear hb2); (try clear hk); (try clear hi)))
 go_loopg [6, 7, 8] k (fun kq v6 v7 v8 w' => ∃ (x6_1 : Int) (x7_1 : Int) (x8_1 : Int), v6 = .int .i64 x6_1 ∧ v7 = .int .i64 x7_1 ∧ v8 = .int .i64 x8_1 ∧ Aside0 (spec_l04Size.l0 kq l0 t816 t817 x6_1 x7_1 x8_1 = some (r1, r2)) ∧ Aside0 (kq ≤ k) ∧ Aside0 (Below w.heap.size w w'))
 case atStart => exact ⟨(0), (0), (0), zr, zr, zr, H', ⟨Nat.le_refl _⟩, ⟨zb⟩⟩
 case round =>
  clear H'
  try clear c1
  try clear p2
  obtain ⟨x6_1, x7_1, x8_1, rfl, rfl, rfl, HA, HK1, HB⟩ := hrel
  cases gk with
  | zero => exact absurd HA.out (by simp [spec_l04Size.l0])
  | succ k1 =>
   have H := HA.out
   clear HA
   simp only [spec_l04Size.l0] at H
   by_cases c4 : x8_1 < (l0.length : Int)
   rotate_left
   ·rw [if_neg c4] at H
    have c4b0 : decide (x8_1 < (l0.length : Int)) = false := decide_eq_false c4
    clear c4
    simp only [Option.some.injEq, Prod.mk.injEq] at H
    obtain ⟨rfl, rfl⟩ := H
    go_wp2
    go_ret2
    exact ⟨zw, zb⟩
   rw [if_pos c4] at H
   have c4b0 : decide (x8_1 < (l0.length : Int)) = true := decide_eq_true c4
   clear c4
   by_cases c5 : 0 ≤ x8_1
   rotate_left
   ·rw [if_neg c5] at H
    exact absurd H (by simp)
   rw [if_pos c5] at H
   have c5b0 : decide (0 ≤ x8_1) = true := decide_eq_true c5
   clear c5
   obtain ⟨ji6, hji6⟩ : ∃ j_ : Int, (mx x6_1 (wrap64 ((wrap64 (((rd_T59 l0 x8_1).f0) - t816)) + 1))) = j_ := ⟨_, rfl⟩
   replace H : (spec_l04Size.l0 k1 l0 t816 t817 ji6 (mx x7_1 (wrap64 ((wrap64 (((rd_T59 l0 x8_1).f1) - t817)) + 1))) (wrap64 (x8_1 + 1))) = some (r1, r2) := by first | (rw [hji6] at H; exact H) | (simp only [hji6] at H ⊢; exact H)
   have hji6_ : (if x6_1 < (wrap64 ((wrap64 (((rd_T59 l0 x8_1).f0) - t816)) + 1)) then (wrap64 ((wrap64 (((rd_T59 l0 x8_1).f0) - t816)) + 1)) else x6_1) = ji6 := hji6
   obtain ⟨ji7, hji7⟩ : ∃ j_ : Int, (mx x7_1 (wrap64 ((wrap64 (((rd_T59 l0 x8_1).f1) - t817)) + 1))) = j_ := ⟨_, rfl⟩
   replace H : (spec_l04Size.l0 k1 l0 t816 t817 ji6 ji7 (wrap64 (x8_1 + 1))) = some (r1, r2) := by first | (rw [hji7] at H; exact H) | (simp only [hji7] at H ⊢; exact H)
   have hji7_ : (if x7_1 < (wrap64 ((wrap64 (((rd_T59 l0 x8_1).f1) - t817)) + 1)) then (wrap64 ((wrap64 (((rd_T59 l0 x8_1).f1) - t817)) + 1)) else x7_1) = ji7 := hji7
   have H' := aM H
   clear H
   have p818 : 0 ≤ (x8_1 : Int) := of_decide_eq_true za
   have q818 : x8_1 < (l0.length : Int) := of_decide_eq_true za
   obtain ⟨ad818, e818, hx818_0, hx818_1⟩ := at_T59 HR0.out x8_1 p818 q818
   cases e818
   replace hx818_0 := (HB.out.cell (World.block_lt_of_cell? w _ hx818_0)).trans hx818_0
   replace hx818_1 := (HB.out.cell (World.block_lt_of_cell? w _ hx818_1)).trans hx818_1
   replace p818 := eq_true p818
   replace q818 := eq_true q818
   have p819 : 0 ≤ (x8_1 : Int) := of_decide_eq_true za
   have q819 : x8_1 < (l0.length : Int) := of_decide_eq_true za
   obtain ⟨ad819, e819, hx819_0, hx819_1⟩ := at_T59 HR0.out x8_1 p819 q819
   obtain rfl : ad818 = ad819 := (by injection e819)
   replace hx819_0 := (HB.out.cell (World.block_lt_of_cell? w _ hx819_0)).trans hx819_0
   replace hx819_1 := (HB.out.cell (World.block_lt_of_cell? w _ hx819_1)).trans hx819_1
   replace p819 := eq_true p819
   replace q819 := eq_true q819
   go_wp2
   go_roundg k1
   case measure => have := HK1.out; omega
   case rel => exact ⟨(ji6), (ji7), (wrap64 (x8_1 + 1)), (by first | rfl | (simp; done) | (simp only [← hji6] <;> (first | rfl | simp)) | (simp [*]; done)), (by first | rfl | (simp; done) | (simp only [← hji7] <;> (first | rfl | simp)) | (simp [*]; done)), zr, H', ⟨by have := HK1.out; omega⟩, ⟨zb⟩⟩
def impl_corner.l0 : Nat → List (S59) → Int → Int → Int → Int → Option (Int × Int)
 | 0, _, _, _, _, _ => none
 | k + 1, x9, x10, x11, x889000, x889001 => if x11 < x10 then (if 0 ≤ x11 then (if x11 < (x9.length : Int) then (impl_corner.l0 k x9 x10 (wrap64 (x11 + 1)) (mn x889000 ((rd_T59 x9 x11).f0)) (mn x889001 ((rd_T59 x9 x11).f1))) else (none)) else (none)) else (some (x889000, x889001))
def impl_corner.f (k : Nat) (l0 : List (S59)) : Option (Int × Int) := if 0 < (l0.length : Int) then (impl_corner.l0 k l0 (l0.length : Int) 0 ((rd_T59 l0 0).f0) ((rd_T59 l0 0).f1)) else (none)
theorem impl_corner.calls (k : Nat) (A0 : Option Addr) (c0 : Nat) (l0 : List (S59)) (r1 : Int) (r2 : Int) (w : World) (hr0 : Kd.C k59 w A0 l0.length l0) (hc0 : l0.length ≤ c0) (h : impl_corner.f k l0 = some (r1, r2)) :
  Calls Try.prog 123 #[.slice A0 l0.length c0] w fun e w' => e = .returned (.agg #[.int .i64 r1, .int .i64 r2]) ∧ Below w.heap.size w w' := by
 have hu59 := Try.underlying59
 have HR0 := aM hr0
 have HC0 := aM hc0
 clear hr0 hc0
 have HB := aM (Below.refl w.heap.size w)
 have H : (if 0 < (l0.length : Int) then (impl_corner.l0 k l0 (l0.length : Int) 0 ((rd_T59 l0 0).f0) ((rd_T59 l0 0).f1)) else (none)) = some (r1, r2) := h
 clear h
 by_cases c2 : 0 < (l0.length : Int)
 rotate_left
 ·rw [if_neg c2] at H
  exact absurd H (by simp)
 rw [if_pos c2] at H
 have c2b0 : decide (0 < (l0.length : Int)) = true := decide_eq_true c2
 have c2b1 : decide (0 < l0.length) = true := decide_eq_true (by omega)
 clear c2
 have H' := aM H
 clear H
 go_enter Try.func123, Try.ntmps123
 go_wp2_with (first | ((with_reducible refine gate_dst (N := 2) rfl ?_); refine box_event ?hg (N := 2) ?hd (cs := #[.int .i64 0, .int .i64 0]) (t := 59) ?hr ?_; (case hd => rfl); (case hg => rfl); (case hr => first | (go_simp; done) | (go_simp; rfl)); intro gb886 hg w3 hbox hb; have n0_ := aM (below_step zb hb); have n1_ := aM (hbox); have n2_ := aM ((ze : w.heap.size ≤ gb886)); have n3_ := aM ((ze : w.heap.size ≤ gb886)); clear HB; have HB := n0_; have BK886 := n1_; have GW886 := n2_; have GE886 := n3_; clear n0_ n1_ n2_ n3_; clear hb hbox hg; have p887 : 0 ≤ (0 : Int) := (by omega); have q887 : 0 < (l0.length : Int) := of_decide_eq_true za; obtain ⟨ad887, e887, hx887_0, hx887_1⟩ := at_T59 HR0.out 0 p887 q887; cases e887; have qi887 : (0 < l0.length) = True := eq_true (by omega); (try rw [show ((0 : Int)).toNat = 0 from rfl] at hx887_0); (try rw [show 0 * 2 = 0 from rfl] at hx887_0); (try rw [Addr.add_zero'] at hx887_0); (try rw [show ((0 : Int)).toNat = 0 from rfl] at hx887_1); (try rw [show 0 * 2 = 0 from rfl] at hx887_1); (try rw [Addr.add_zero'] at hx887_1); replace hx887_0 := (HB.out.cell (World.block_lt_of_cell? w _ hx887_0)).trans hx887_0; replace hx887_1 := (HB.out.cell (World.block_lt_of_cell? w _ hx887_1)).trans hx887_1; replace p887 := eq_true p887; replace q887 := eq_true q887) | ((with_reducible refine gate_dst (N := 3) rfl ?_); refine box_event ?hg (N := 3) ?hd (cs := #[.int .i64 0, .int .i64 0]) (t := 59) ?hr ?_; (case hd => rfl); (case hg => rfl); (case hr => first | (go_simp; done) | (go_simp; rfl)); intro gb888 hg w4 hbox hb; have n0_ := aM (blk_below (g := gb886) (o := .cells #[.int .i64 0, .int .i64 0] 59 (0, 0)) (mB_ BK886.out) hb); have n1_ := aM (below_step (zs GE886.out) hb); have n2_ := aM (hbox); have n3_ := aM ((zf GE886.out : w.heap.size ≤ gb888)); have n4_ := aM ((zf GE886.out : w.heap.size ≤ gb888)); have n5_ := aM ((zl BK886.out : gb886 ≠ gb888)); have n6_ := aM ((zn BK886.out : gb888 ≠ gb886)); clear BK886; clear HB; have BK886 := n0_; have HB := n1_; have BK888 := n2_; have GW888 := n3_; have GE888 := n4_; have NB886_888 := n5_; have NB888_886 := n6_; clear n0_ n1_ n2_ n3_ n4_ n5_ n6_; clear hb hbox hg; have hnb5 := NB888_886.out; have hnc5 := NB886_888.out; have hcz6_0 : w4.cell? ⟨gb888, 0, none⟩ = some (.int .i64 0) := (blk_cell BK888.out 0).trans rfl; have hcz6_1 : w4.cell? ⟨gb888, 1, none⟩ = some (.int .i64 0) := (blk_cell BK888.out 1).trans rfl; have hfz6_0 := blk_frozen BK888.out 0; have hfz6_1 := blk_frozen BK888.out 1))
 go_loopg [11] k (fun kq v11 w' => ∃ (x11_1 : Int) (x889000_1 : Int) (x889001_1 : Int), v11 = .int .i64 x11_1 ∧ Aside0 (impl_corner.l0 kq l0 (l0.length : Int) x11_1 x889000_1 x889001_1 = some (r1, r2)) ∧ Aside0 (kq ≤ k) ∧ Aside0 (w'.heap[gb886]? = some (.cells #[.int .i64 0, .int .i64 0] 59 (0, 0))) ∧ Aside0 (w'.heap[gb888]? = some (.cells #[.int .i64 x889000_1, .int .i64 x889001_1] 59 (0, 0))) ∧ Aside0 (Below w.heap.size w w'))
 case atStart => exact ⟨(0), ((rd_T59 l0 0).f0), ((rd_T59 l0 0).f1), zr, H', ⟨Nat.le_refl _⟩, ⟨by (with_reducible repeat (first | refine blk_drewN ?_ _ | refine blk_drew ?_ | refine blk_alloc ?_ _)); refine blk_far ?_ NB886_888.out _; (with_reducible repeat (first | refine blk_drewN ?_ _ | refine blk_drew ?_ | refine blk_alloc ?_ _)); refine blk_far ?_ NB886_888.out _; (with_reducible repeat (first | refine blk_drewN ?_ _ | refine blk_drew ?_ | refine blk_alloc ?_ _)); exact BK886.out⟩, ⟨by (with_reducible repeat (first | refine blk_drewN ?_ _ | refine blk_drew ?_ | refine blk_alloc ?_ _)); refine blk_put (cs := #[.int .i64 ((rd_T59 l0 0).f0), .int .i64 0]) ?_ 1 _ rfl; (with_reducible repeat (first | refine blk_drewN ?_ _ | refine blk_drew ?_ | refine blk_alloc ?_ _)); refine blk_put (cs := #[.int .i64 0, .int .i64 0]) ?_ 0 _ rfl; (with_reducible repeat (first | refine blk_drewN ?_ _ | refine blk_drew ?_ | refine blk_alloc ?_ _)); exact BK888.out⟩, ⟨zt GE886.out GE888.out⟩⟩
 case round =>
  clear H'
  try clear c1
  try clear c2
  try clear c2b0
  try clear c2b1
  try clear p2
  try clear c5
  try clear hcz6_0
  try clear hcz6_1
  try clear hfz6_0
  try clear hfz6_1
  try clear hx887_0
  try clear hx887_1
  try clear p887
  try clear q887
  obtain ⟨x11_1, x889000_1, x889001_1, rfl, HA, HK1, BK886, BK888, HB⟩ := hrel
  cases gk with
  | zero => exact absurd HA.out (by simp [impl_corner.l0])
  | succ k1 =>
   have H := HA.out
   clear HA
   simp only [impl_corner.l0] at H
   by_cases c7 : x11_1 < (l0.length : Int)
   rotate_left
   ·rw [if_neg c7] at H
    have c7b0 : decide (x11_1 < (l0.length : Int)) = false := decide_eq_false c7
    clear c7
    simp only [Option.some.injEq, Prod.mk.injEq] at H
    obtain ⟨rfl, rfl⟩ := H
    have hnb18 := NB888_886.out
    have hnc18 := NB886_888.out
    have hcz19_0 : wr.cell? ⟨gb888, 0, none⟩ = some (.int .i64 x889000_1) := (blk_cell BK888.out 0).trans rfl
    have hcz19_1 : wr.cell? ⟨gb888, 1, none⟩ = some (.int .i64 x889001_1) := (blk_cell BK888.out 1).trans rfl
    have hfz19_0 := blk_frozen BK888.out 0
    have hfz19_1 := blk_frozen BK888.out 1
    have hcz20_0 : wr.cell? ⟨gb886, 0, none⟩ = some (.int .i64 0) := (blk_cell BK886.out 0).trans rfl
    have hcz20_1 : wr.cell? ⟨gb886, 1, none⟩ = some (.int .i64 0) := (blk_cell BK886.out 1).trans rfl
    have hfz20_0 := blk_frozen BK886.out 0
    have hfz20_1 := blk_frozen BK886.out 1
    go_wp2
    refine bodyPost_ret (results_cell_row rfl _ _ gb886 59 #[.int .i64 x889000_1, .int .i64 x889001_1] (0, 0) _ rfl (by (with_reducible repeat (first | refine blk_drewN ?_ _ | refine blk_drew ?_ | refine blk_alloc ?_ _)); refine blk_put (cs := #[.int .i64 x889000_1, .int .i64 0]) ?_ 1 _ rfl; (with_reducible repeat (first | refine blk_drewN ?_ _ | refine blk_drew ?_ | refine blk_alloc ?_ _)); refine blk_put (cs := #[.int .i64 0, .int .i64 0]) ?_ 0 _ rfl; (with_reducible repeat (first | refine blk_drewN ?_ _ | refine blk_drew ?_ | refine blk_alloc ?_ _)); exact BK886.out) Try.underlying59 rfl (by kernel_rfl)) rfl ?_
    exact ⟨zw, zt GE886.out GE888.out⟩
   rw [if_pos c7] at H
   have c7b0 : decide (x11_1 < (l0.length : Int)) = true := decide_eq_true c7
   clear c7
   by_cases c8 : 0 ≤ x11_1
   rotate_left
   ·rw [if_neg c8] at H
    exact absurd H (by simp)
   rw [if_pos c8] at H
   have c8b0 : decide (0 ≤ x11_1) = true := decide_eq_true c8
   clear c8
   by_cases c9 : x11_1 < (l0.length : Int)
   rotate_left
   ·rw [if_neg c9] at H
    exact absurd H (by simp)
   rw [if_pos c9] at H
   have c9b0 : decide (x11_1 < (l0.length : Int)) = true := decide_eq_true c9
   clear c9
   obtain ⟨ji10, hji10⟩ : ∃ j_ : Int, (mn x889000_1 ((rd_T59 l0 x11_1).f0)) = j_ := ⟨_, rfl⟩
   replace H : (impl_corner.l0 k1 l0 (l0.length : Int) (wrap64 (x11_1 + 1)) ji10 (mn x889001_1 ((rd_T59 l0 x11_1).f1))) = some (r1, r2) := by first | (rw [hji10] at H; exact H) | (simp only [hji10] at H ⊢; exact H)
   have hji10_ : (if ((rd_T59 l0 x11_1).f0) < x889000_1 then ((rd_T59 l0 x11_1).f0) else x889000_1) = ji10 := hji10
   obtain ⟨ji11, hji11⟩ : ∃ j_ : Int, (mn x889001_1 ((rd_T59 l0 x11_1).f1)) = j_ := ⟨_, rfl⟩
   replace H : (impl_corner.l0 k1 l0 (l0.length : Int) (wrap64 (x11_1 + 1)) ji10 ji11) = some (r1, r2) := by first | (rw [hji11] at H; exact H) | (simp only [hji11] at H ⊢; exact H)
   have hji11_ : (if ((rd_T59 l0 x11_1).f1) < x889001_1 then ((rd_T59 l0 x11_1).f1) else x889001_1) = ji11 := hji11
   have H' := aM H
   clear H
   have p889 : 0 ≤ (x11_1 : Int) := of_decide_eq_true za
   have q889 : x11_1 < (l0.length : Int) := of_decide_eq_true za
   obtain ⟨ad889, e889, hx889_0, hx889_1⟩ := at_T59 HR0.out x11_1 p889 q889
   obtain rfl : ad887 = ad889 := (by injection e889)
   replace hx889_0 := (HB.out.cell (World.block_lt_of_cell? w _ hx889_0)).trans hx889_0
   replace hx889_1 := (HB.out.cell (World.block_lt_of_cell? w _ hx889_1)).trans hx889_1
   replace p889 := eq_true p889
   replace q889 := eq_true q889
   go_wp2_with (first | ((with_reducible refine gate_dst (N := 5) rfl ?_); refine box_event ?hg (N := 5) ?hd (cs := #[.int .i64 0, .int .i64 0]) (t := 59) ?hr ?_; (case hd => rfl); (case hg => rfl); (case hr => first | (go_simp; done) | (go_simp; rfl)); intro gb890 hg w12 hbox hb; have n0_ := aM (blk_below (g := gb886) (o := .cells #[.int .i64 0, .int .i64 0] 59 (0, 0)) (mB_ BK886.out) hb); have n1_ := aM (blk_below (g := gb888) (o := .cells #[.int .i64 x889000_1, .int .i64 x889001_1] 59 (0, 0)) (mB_ BK888.out) hb); have n2_ := aM (below_step (zt GE886.out GE888.out) hb); have n3_ := aM (hbox); have n4_ := aM ((by rw [hg]; exact (below_size (zt GE886.out GE888.out)) : w.heap.size ≤ gb890)); have n5_ := aM ((by rw [hg]; exact (below_size (zt GE886.out GE888.out)) : w.heap.size ≤ gb890)); have n6_ := aM ((zl BK886.out : gb886 ≠ gb890)); have n7_ := aM ((zn BK886.out : gb890 ≠ gb886)); have n8_ := aM ((zl BK888.out : gb888 ≠ gb890)); have n9_ := aM ((zn BK888.out : gb890 ≠ gb888)); clear BK886; clear BK888; clear HB; have BK886 := n0_; have BK888 := n1_; have HB := n2_; have BK890 := n3_; have GW890 := n4_; have GE890 := n5_; have NB886_890 := n6_; have NB890_886 := n7_; have NB888_890 := n8_; have NB890_888 := n9_; clear n0_ n1_ n2_ n3_ n4_ n5_ n6_ n7_ n8_ n9_; clear hb hbox hg; have hnb13 := NB890_886.out; have hnc13 := NB886_890.out; have hnb14 := NB890_888.out; have hnc14 := NB888_890.out; have hcz15_0 : w12.cell? ⟨gb890, 0, none⟩ = some (.int .i64 0) := (blk_cell BK890.out 0).trans rfl; have hcz15_1 : w12.cell? ⟨gb890, 1, none⟩ = some (.int .i64 0) := (blk_cell BK890.out 1).trans rfl; have hfz15_0 := blk_frozen BK890.out 0; have hfz15_1 := blk_frozen BK890.out 1; have hnb16 := NB888_886.out; have hnc16 := NB886_888.out; have hcz17_0 : w12.cell? ⟨gb888, 0, none⟩ = some (.int .i64 x889000_1) := (blk_cell BK888.out 0).trans rfl; have hcz17_1 : w12.cell? ⟨gb888, 1, none⟩ = some (.int .i64 x889001_1) := (blk_cell BK888.out 1).trans rfl; have hfz17_0 := blk_frozen BK888.out 0; have hfz17_1 := blk_frozen BK888.out 1))
   go_roundg k1
   case measure => have := HK1.out; omega
   case rel => exact ⟨(wrap64 (x11_1 + 1)), (ji10), (ji11), zr, H', ⟨by have := HK1.out; omega⟩, ⟨by (with_reducible repeat (first | refine blk_drewN ?_ _ | refine blk_drew ?_ | refine blk_alloc ?_ _)); refine blk_far ?_ NB886_888.out _; (with_reducible repeat (first | refine blk_drewN ?_ _ | refine blk_drew ?_ | refine blk_alloc ?_ _)); refine blk_far ?_ NB886_888.out _; (with_reducible repeat (first | refine blk_drewN ?_ _ | refine blk_drew ?_ | refine blk_alloc ?_ _)); refine blk_far ?_ NB886_890.out _; (with_reducible repeat (first | refine blk_drewN ?_ _ | refine blk_drew ?_ | refine blk_alloc ?_ _)); refine blk_far ?_ NB886_890.out _; (with_reducible repeat (first | refine blk_drewN ?_ _ | refine blk_drew ?_ | refine blk_alloc ?_ _)); exact BK886.out⟩, ⟨by (with_reducible repeat (first | refine blk_drewN ?_ _ | refine blk_drew ?_ | refine blk_alloc ?_ _)); refine blk_put (cs := #[.int .i64 ji10, .int .i64 x889001_1]) ?_ 1 _ rfl; (with_reducible repeat (first | refine blk_drewN ?_ _ | refine blk_drew ?_ | refine blk_alloc ?_ _)); refine blk_put (cs := #[.int .i64 x889000_1, .int .i64 x889001_1]) ?_ 0 _ rfl; (with_reducible repeat (first | refine blk_drewN ?_ _ | refine blk_drew ?_ | refine blk_alloc ?_ _)); refine blk_far ?_ NB888_890.out _; (with_reducible repeat (first | refine blk_drewN ?_ _ | refine blk_drew ?_ | refine blk_alloc ?_ _)); refine blk_far ?_ NB888_890.out _; (with_reducible repeat (first | refine blk_drewN ?_ _ | refine blk_drew ?_ | refine blk_alloc ?_ _)); exact BK888.out⟩, ⟨by repeat (first | (with_reducible first | exact HB.out | apply below_alloc | apply pw_below_drewN | apply below_drew1 | refine below_set ?_ GE886.out | refine below_set ?_ GE888.out | refine below_set ?_ GE890.out) | exact HB.out)⟩⟩
def impl_reach.l0 : Nat → List (S59) → Int → Int → Int → Int → Option (Int × Int)
 | 0, _, _, _, _, _ => none
 | k + 1, x9, x10, x11, x913000, x913001 => if x11 < x10 then (if 0 ≤ x11 then (if x11 < (x9.length : Int) then (impl_reach.l0 k x9 x10 (wrap64 (x11 + 1)) (mx x913000 ((rd_T59 x9 x11).f0)) (mx x913001 ((rd_T59 x9 x11).f1))) else (none)) else (none)) else (some (x913000, x913001))
def impl_reach.f (k : Nat) (l0 : List (S59)) : Option (Int × Int) := if 0 < (l0.length : Int) then (impl_reach.l0 k l0 (l0.length : Int) 0 ((rd_T59 l0 0).f0) ((rd_T59 l0 0).f1)) else (none)
theorem impl_reach.calls (k : Nat) (A0 : Option Addr) (c0 : Nat) (l0 : List (S59)) (r1 : Int) (r2 : Int) (w : World) (hr0 : Kd.C k59 w A0 l0.length l0) (hc0 : l0.length ≤ c0) (h : impl_reach.f k l0 = some (r1, r2)) :
  Calls Try.prog 124 #[.slice A0 l0.length c0] w fun e w' => e = .returned (.agg #[.int .i64 r1, .int .i64 r2]) ∧ Below w.heap.size w w' := by
 have hu59 := Try.underlying59
 have HR0 := aM hr0
 have HC0 := aM hc0
 clear hr0 hc0
 have HB := aM (Below.refl w.heap.size w)
 have H : (if 0 < (l0.length : Int) then (impl_reach.l0 k l0 (l0.length : Int) 0 ((rd_T59 l0 0).f0) ((rd_T59 l0 0).f1)) else (none)) = some (r1, r2) := h
 clear h
 by_cases c2 : 0 < (l0.length : Int)
 rotate_left
 ·rw [if_neg c2] at H
  exact absurd H (by simp)
 rw [if_pos c2] at H
 have c2b0 : decide (0 < (l0.length : Int)) = true := decide_eq_true c2
 have c2b1 : decide (0 < l0.length) = true := decide_eq_true (by omega)
 clear c2
 have H' := aM H
 clear H
 go_enter Try.func124, Try.ntmps124
 go_wp2_with (first | ((with_reducible refine gate_dst (N := 2) rfl ?_); refine box_event ?hg (N := 2) ?hd (cs := #[.int .i64 0, .int .i64 0]) (t := 59) ?hr ?_; (case hd => rfl); (case hg => rfl); (case hr => first | (go_simp; done) | (go_simp; rfl)); intro gb910 hg w3 hbox hb; have n0_ := aM (below_step zb hb); have n1_ := aM (hbox); have n2_ := aM ((ze : w.heap.size ≤ gb910)); have n3_ := aM ((ze : w.heap.size ≤ gb910)); clear HB; have HB := n0_; have BK910 := n1_; have GW910 := n2_; have GE910 := n3_; clear n0_ n1_ n2_ n3_; clear hb hbox hg; have p911 : 0 ≤ (0 : Int) := (by omega); have q911 : 0 < (l0.length : Int) := of_decide_eq_true za; obtain ⟨ad911, e911, hx911_0, hx911_1⟩ := at_T59 HR0.out 0 p911 q911; cases e911; have qi911 : (0 < l0.length) = True := eq_true (by omega); (try rw [show ((0 : Int)).toNat = 0 from rfl] at hx911_0); (try rw [show 0 * 2 = 0 from rfl] at hx911_0); (try rw [Addr.add_zero'] at hx911_0); (try rw [show ((0 : Int)).toNat = 0 from rfl] at hx911_1); (try rw [show 0 * 2 = 0 from rfl] at hx911_1); (try rw [Addr.add_zero'] at hx911_1); replace hx911_0 := (HB.out.cell (World.block_lt_of_cell? w _ hx911_0)).trans hx911_0; replace hx911_1 := (HB.out.cell (World.block_lt_of_cell? w _ hx911_1)).trans hx911_1; replace p911 := eq_true p911; replace q911 := eq_true q911) | ((with_reducible refine gate_dst (N := 3) rfl ?_); refine box_event ?hg (N := 3) ?hd (cs := #[.int .i64 0, .int .i64 0]) (t := 59) ?hr ?_; (case hd => rfl); (case hg => rfl); (case hr => first | (go_simp; done) | (go_simp; rfl)); intro gb912 hg w4 hbox hb; have n0_ := aM (blk_below (g := gb910) (o := .cells #[.int .i64 0, .int .i64 0] 59 (0, 0)) (mB_ BK910.out) hb); have n1_ := aM (below_step (zs GE910.out) hb); have n2_ := aM (hbox); have n3_ := aM ((zf GE910.out : w.heap.size ≤ gb912)); have n4_ := aM ((zf GE910.out : w.heap.size ≤ gb912)); have n5_ := aM ((zl BK910.out : gb910 ≠ gb912)); have n6_ := aM ((zn BK910.out : gb912 ≠ gb910)); clear BK910; clear HB; have BK910 := n0_; have HB := n1_; have BK912 := n2_; have GW912 := n3_; have GE912 := n4_; have NB910_912 := n5_; have NB912_910 := n6_; clear n0_ n1_ n2_ n3_ n4_ n5_ n6_; clear hb hbox hg; have hnb5 := NB912_910.out; have hnc5 := NB910_912.out; have hcz6_0 : w4.cell? ⟨gb912, 0, none⟩ = some (.int .i64 0) := (blk_cell BK912.out 0).trans rfl; have hcz6_1 : w4.cell? ⟨gb912, 1, none⟩ = some (.int .i64 0) := (blk_cell BK912.out 1).trans rfl; have hfz6_0 := blk_frozen BK912.out 0; have hfz6_1 := blk_frozen BK912.out 1))
 go_loopg [11] k (fun kq v11 w' => ∃ (x11_1 : Int) (x913000_1 : Int) (x913001_1 : Int), v11 = .int .i64 x11_1 ∧ Aside0 (impl_reach.l0 kq l0 (l0.length : Int) x11_1 x913000_1 x913001_1 = some (r1, r2)) ∧ Aside0 (kq ≤ k) ∧ Aside0 (w'.heap[gb910]? = some (.cells #[.int .i64 0, .int .i64 0] 59 (0, 0))) ∧ Aside0 (w'.heap[gb912]? = some (.cells #[.int .i64 x913000_1, .int .i64 x913001_1] 59 (0, 0))) ∧ Aside0 (Below w.heap.size w w'))
 case atStart => exact ⟨(0), ((rd_T59 l0 0).f0), ((rd_T59 l0 0).f1), zr, H', ⟨Nat.le_refl _⟩, ⟨by (with_reducible repeat (first | refine blk_drewN ?_ _ | refine blk_drew ?_ | refine blk_alloc ?_ _)); refine blk_far ?_ NB910_912.out _; (with_reducible repeat (first | refine blk_drewN ?_ _ | refine blk_drew ?_ | refine blk_alloc ?_ _)); refine blk_far ?_ NB910_912.out _; (with_reducible repeat (first | refine blk_drewN ?_ _ | refine blk_drew ?_ | refine blk_alloc ?_ _)); exact BK910.out⟩, ⟨by (with_reducible repeat (first | refine blk_drewN ?_ _ | refine blk_drew ?_ | refine blk_alloc ?_ _)); refine blk_put (cs := #[.int .i64 ((rd_T59 l0 0).f0), .int .i64 0]) ?_ 1 _ rfl; (with_reducible repeat (first | refine blk_drewN ?_ _ | refine blk_drew ?_ | refine blk_alloc ?_ _)); refine blk_put (cs := #[.int .i64 0, .int .i64 0]) ?_ 0 _ rfl; (with_reducible repeat (first | refine blk_drewN ?_ _ | refine blk_drew ?_ | refine blk_alloc ?_ _)); exact BK912.out⟩, ⟨zt GE910.out GE912.out⟩⟩
 case round =>
  clear H'
  try clear c1
  try clear c2
  try clear c2b0
  try clear c2b1
  try clear p2
  try clear c5
  try clear hcz6_0
  try clear hcz6_1
  try clear hfz6_0
  try clear hfz6_1
  try clear hx911_0
  try clear hx911_1
  try clear p911
  try clear q911
  obtain ⟨x11_1, x913000_1, x913001_1, rfl, HA, HK1, BK910, BK912, HB⟩ := hrel
  cases gk with
  | zero => exact absurd HA.out (by simp [impl_reach.l0])
  | succ k1 =>
   have H := HA.out
   clear HA
   simp only [impl_reach.l0] at H
   by_cases c7 : x11_1 < (l0.length : Int)
   rotate_left
   ·rw [if_neg c7] at H
    have c7b0 : decide (x11_1 < (l0.length : Int)) = false := decide_eq_false c7
    clear c7
    simp only [Option.some.injEq, Prod.mk.injEq] at H
    obtain ⟨rfl, rfl⟩ := H
    have hnb18 := NB912_910.out
    have hnc18 := NB910_912.out
    have hcz19_0 : wr.cell? ⟨gb912, 0, none⟩ = some (.int .i64 x913000_1) := (blk_cell BK912.out 0).trans rfl
    have hcz19_1 : wr.cell? ⟨gb912, 1, none⟩ = some (.int .i64 x913001_1) := (blk_cell BK912.out 1).trans rfl
    have hfz19_0 := blk_frozen BK912.out 0
    have hfz19_1 := blk_frozen BK912.out 1
    have hcz20_0 : wr.cell? ⟨gb910, 0, none⟩ = some (.int .i64 0) := (blk_cell BK910.out 0).trans rfl
    have hcz20_1 : wr.cell? ⟨gb910, 1, none⟩ = some (.int .i64 0) := (blk_cell BK910.out 1).trans rfl
    have hfz20_0 := blk_frozen BK910.out 0
    have hfz20_1 := blk_frozen BK910.out 1
    go_wp2
    refine bodyPost_ret (results_cell_row rfl _ _ gb910 59 #[.int .i64 x913000_1, .int .i64 x913001_1] (0, 0) _ rfl (by (with_reducible repeat (first | refine blk_drewN ?_ _ | refine blk_drew ?_ | refine blk_alloc ?_ _)); refine blk_put (cs := #[.int .i64 x913000_1, .int .i64 0]) ?_ 1 _ rfl; (with_reducible repeat (first | refine blk_drewN ?_ _ | refine blk_drew ?_ | refine blk_alloc ?_ _)); refine blk_put (cs := #[.int .i64 0, .int .i64 0]) ?_ 0 _ rfl; (with_reducible repeat (first | refine blk_drewN ?_ _ | refine blk_drew ?_ | refine blk_alloc ?_ _)); exact BK910.out) Try.underlying59 rfl (by kernel_rfl)) rfl ?_
    exact ⟨zw, zt GE910.out GE912.out⟩
   rw [if_pos c7] at H
   have c7b0 : decide (x11_1 < (l0.length : Int)) = true := decide_eq_true c7
   clear c7
   by_cases c8 : 0 ≤ x11_1
   rotate_left
   ·rw [if_neg c8] at H
    exact absurd H (by simp)
   rw [if_pos c8] at H
   have c8b0 : decide (0 ≤ x11_1) = true := decide_eq_true c8
   clear c8
   by_cases c9 : x11_1 < (l0.length : Int)
   rotate_left
   ·rw [if_neg c9] at H
    exact absurd H (by simp)
   rw [if_pos c9] at H
   have c9b0 : decide (x11_1 < (l0.length : Int)) = true := decide_eq_true c9
   clear c9
   obtain ⟨ji10, hji10⟩ : ∃ j_ : Int, (mx x913000_1 ((rd_T59 l0 x11_1).f0)) = j_ := ⟨_, rfl⟩
   replace H : (impl_reach.l0 k1 l0 (l0.length : Int) (wrap64 (x11_1 + 1)) ji10 (mx x913001_1 ((rd_T59 l0 x11_1).f1))) = some (r1, r2) := by first | (rw [hji10] at H; exact H) | (simp only [hji10] at H ⊢; exact H)
   have hji10_ : (if x913000_1 < ((rd_T59 l0 x11_1).f0) then ((rd_T59 l0 x11_1).f0) else x913000_1) = ji10 := hji10
   obtain ⟨ji11, hji11⟩ : ∃ j_ : Int, (mx x913001_1 ((rd_T59 l0 x11_1).f1)) = j_ := ⟨_, rfl⟩
   replace H : (impl_reach.l0 k1 l0 (l0.length : Int) (wrap64 (x11_1 + 1)) ji10 ji11) = some (r1, r2) := by first | (rw [hji11] at H; exact H) | (simp only [hji11] at H ⊢; exact H)
   have hji11_ : (if x913001_1 < ((rd_T59 l0 x11_1).f1) then ((rd_T59 l0 x11_1).f1) else x913001_1) = ji11 := hji11
   have H' := aM H
   clear H
   have p913 : 0 ≤ (x11_1 : Int) := of_decide_eq_true za
   have q913 : x11_1 < (l0.length : Int) := of_decide_eq_true za
   obtain ⟨ad913, e913, hx913_0, hx913_1⟩ := at_T59 HR0.out x11_1 p913 q913
   obtain rfl : ad911 = ad913 := (by injection e913)
   replace hx913_0 := (HB.out.cell (World.block_lt_of_cell? w _ hx913_0)).trans hx913_0
   replace hx913_1 := (HB.out.cell (World.block_lt_of_cell? w _ hx913_1)).trans hx913_1
   replace p913 := eq_true p913
   replace q913 := eq_true q913
   go_wp2_with (first | ((with_reducible refine gate_dst (N := 5) rfl ?_); refine box_event ?hg (N := 5) ?hd (cs := #[.int .i64 0, .int .i64 0]) (t := 59) ?hr ?_; (case hd => rfl); (case hg => rfl); (case hr => first | (go_simp; done) | (go_simp; rfl)); intro gb914 hg w12 hbox hb; have n0_ := aM (blk_below (g := gb910) (o := .cells #[.int .i64 0, .int .i64 0] 59 (0, 0)) (mB_ BK910.out) hb); have n1_ := aM (blk_below (g := gb912) (o := .cells #[.int .i64 x913000_1, .int .i64 x913001_1] 59 (0, 0)) (mB_ BK912.out) hb); have n2_ := aM (below_step (zt GE910.out GE912.out) hb); have n3_ := aM (hbox); have n4_ := aM ((by rw [hg]; exact (below_size (zt GE910.out GE912.out)) : w.heap.size ≤ gb914)); have n5_ := aM ((by rw [hg]; exact (below_size (zt GE910.out GE912.out)) : w.heap.size ≤ gb914)); have n6_ := aM ((zl BK910.out : gb910 ≠ gb914)); have n7_ := aM ((zn BK910.out : gb914 ≠ gb910)); have n8_ := aM ((zl BK912.out : gb912 ≠ gb914)); have n9_ := aM ((zn BK912.out : gb914 ≠ gb912)); clear BK910; clear BK912; clear HB; have BK910 := n0_; have BK912 := n1_; have HB := n2_; have BK914 := n3_; have GW914 := n4_; have GE914 := n5_; have NB910_914 := n6_; have NB914_910 := n7_; have NB912_914 := n8_; have NB914_912 := n9_; clear n0_ n1_ n2_ n3_ n4_ n5_ n6_ n7_ n8_ n9_; clear hb hbox hg; have hnb13 := NB914_910.out; have hnc13 := NB910_914.out; have hnb14 := NB914_912.out; have hnc14 := NB912_914.out; have hcz15_0 : w12.cell? ⟨gb914, 0, none⟩ = some (.int .i64 0) := (blk_cell BK914.out 0).trans rfl; have hcz15_1 : w12.cell? ⟨gb914, 1, none⟩ = some (.int .i64 0) := (blk_cell BK914.out 1).trans rfl; have hfz15_0 := blk_frozen BK914.out 0; have hfz15_1 := blk_frozen BK914.out 1; have hnb16 := NB912_910.out; have hnc16 := NB910_912.out; have hcz17_0 : w12.cell? ⟨gb912, 0, none⟩ = some (.int .i64 x913000_1) := (blk_cell BK912.out 0).trans rfl; have hcz17_1 : w12.cell? ⟨gb912, 1, none⟩ = some (.int .i64 x913001_1) := (blk_cell BK912.out 1).trans rfl; have hfz17_0 := blk_frozen BK912.out 0; have hfz17_1 := blk_frozen BK912.out 1))
   go_roundg k1
   case measure => have := HK1.out; omega
   case rel => exact ⟨(wrap64 (x11_1 + 1)), (ji10), (ji11), zr, H', ⟨by have := HK1.out; omega⟩, ⟨by (with_reducible repeat (first | refine blk_drewN ?_ _ | refine blk_drew ?_ | refine blk_alloc ?_ _)); refine blk_far ?_ NB910_912.out _; (with_reducible repeat (first | refine blk_drewN ?_ _ | refine blk_drew ?_ | refine blk_alloc ?_ _)); refine blk_far ?_ NB910_912.out _; (with_reducible repeat (first | refine blk_drewN ?_ _ | refine blk_drew ?_ | refine blk_alloc ?_ _)); refine blk_far ?_ NB910_914.out _; (with_reducible repeat (first | refine blk_drewN ?_ _ | refine blk_drew ?_ | refine blk_alloc ?_ _)); refine blk_far ?_ NB910_914.out _; (with_reducible repeat (first | refine blk_drewN ?_ _ | refine blk_drew ?_ | refine blk_alloc ?_ _)); exact BK910.out⟩, ⟨by (with_reducible repeat (first | refine blk_drewN ?_ _ | refine blk_drew ?_ | refine blk_alloc ?_ _)); refine blk_put (cs := #[.int .i64 ji10, .int .i64 x913001_1]) ?_ 1 _ rfl; (with_reducible repeat (first | refine blk_drewN ?_ _ | refine blk_drew ?_ | refine blk_alloc ?_ _)); refine blk_put (cs := #[.int .i64 x913000_1, .int .i64 x913001_1]) ?_ 0 _ rfl; (with_reducible repeat (first | refine blk_drewN ?_ _ | refine blk_drew ?_ | refine blk_alloc ?_ _)); refine blk_far ?_ NB912_914.out _; (with_reducible repeat (first | refine blk_drewN ?_ _ | refine blk_drew ?_ | refine blk_alloc ?_ _)); refine blk_far ?_ NB912_914.out _; (with_reducible repeat (first | refine blk_drewN ?_ _ | refine blk_drew ?_ | refine blk_alloc ?_ _)); exact BK912.out⟩, ⟨by repeat (first | (with_reducible first | exact HB.out | apply below_alloc | apply pw_below_drewN | apply below_drew1 | refine below_set ?_ GE910.out | refine below_set ?_ GE912.out | refine below_set ?_ GE914.out) | exact HB.out)⟩⟩
end Go.Proofs.Ytabdmdkoffpppaa.F
end
section
namespace Go.Proofs.Ytabdmdkoffpppaa.F
open Go.RowKit Go.Proofs.YtabdmdkoffpppaaW.PrintWords Go.Proofs.YtabdmdkoffpppaaW.PrintLast Go.Proofs.YtabdmdkoffpppaaW.PrintMore
attribute [local go_sem] max2_int min2_int max_two min_two max_three min_three max_four min_four
set_option linter.unusedVariables false
set_option linter.unusedSimpArgs false
attribute [local go_sem high] eqA59
def spec_IsRegion.f (k : Nat) (l0 : List (S59)) : Option (Bool) := (spec_IsShape.f k l0).bind fun t971 => (if t971 = true then ((spec_l04Size.f k l0).bind fun bt972 => ((spec_l02Least.f k l0).bind fun bt974 => (if bt974.1 = 0 then (if bt974.2 = 0 then (if bt972.1 ≤ 20 then (some (decide (bt972.2 ≤ 20))) else (some false)) else (some false)) else (some false)))) else (some false))
theorem spec_IsRegion.calls (k : Nat) (A0 : Option Addr) (c0 : Nat) (l0 : List (S59)) (r : Bool) (w : World) (hr0 : Kd.C k59 w A0 l0.length l0) (hc0 : l0.length ≤ c0) (h : spec_IsRegion.f k l0 = some r) :
  Calls Try.prog 63 #[.slice A0 l0.length c0] w fun e w' => e = .returned (.bool r) ∧ Below w.heap.size w w' := by
 have HR0 := aM hr0
 have HC0 := aM hc0
 clear hr0 hc0
 have HB := aM (Below.refl w.heap.size w)
 have H : ((spec_IsShape.f k l0).bind fun t971 => (if t971 = true then ((spec_l04Size.f k l0).bind fun bt972 => ((spec_l02Least.f k l0).bind fun bt974 => (if bt974.1 = 0 then (if bt974.2 = 0 then (if bt972.1 ≤ 20 then (some (decide (bt972.2 ≤ 20))) else (some false)) else (some false)) else (some false)))) else (some false))) = some r := h
 clear h
 replace H := Option.bind_eq_some_iff.mp H
 obtain ⟨t971, A20, H⟩ := H
 replace H : (if t971 = true then ((spec_l04Size.f k l0).bind fun bt972 => ((spec_l02Least.f k l0).bind fun bt974 => (if bt974.1 = 0 then (if bt974.2 = 0 then (if bt972.1 ≤ 20 then (some (decide (bt972.2 ≤ 20))) else (some false)) else (some false)) else (some false)))) else (some false)) = some r := H
 have A2 := aM A20
 clear A20
 by_cases c3 : t971 = true
 rotate_left
 ·replace c3 := Bool.eq_false_iff.mpr c3
  subst c3
  have H1 : (some false) = some r := by rw [if_neg (show ¬ (false = true) by decide)] at H; exact H
  clear H
  have H := H1
  clear H1
  obtain rfl := Option.some.inj H
  go_enter Try.func63, Try.ntmps63
  go_wp2_with (first | ((with_reducible refine gate_callee (f := 87) rfl ?_); refine goesL_ (some 8) rfl rfl Try.func87 (by kernel_rfl) rfl #[.slice A0 l0.length c0] rfl zm ?_; (with_reducible refine (spec_IsShape.calls k _ _ l0 false _ ?side1 ?side2 A2.out).mono ?_); (case side1 => repeat (first | exact HR0.out | (with_reducible refine Kd.C_alloc ?_ _) | (with_reducible refine Kd.C_drewN ?_ _) | (with_reducible refine Kd.C_drew ?_))); (case side2 => exact HC0.out); rintro e w21 ⟨rfl, hb⟩; refine ⟨_, rfl, ?_⟩; have n0_ := aM (below_step zb hb); clear HB; have HB := n0_; clear n0_; (try clear hb); (try clear hb2); (try clear hk); (try clear hi)))
  go_ret
  exact ⟨zw, zb⟩
 subst c3
 have H1 : ((spec_l04Size.f k l0).bind fun bt972 => ((spec_l02Least.f k l0).bind fun bt974 => (if bt974.1 = 0 then (if bt974.2 = 0 then (if bt972.1 ≤ 20 then (some (decide (bt972.2 ≤ 20))) else (some false)) else (some false)) else (some false)))) = some r := by rw [if_pos rfl] at H; exact H
 clear H
 have H := H1
 clear H1
 replace H := Option.bind_eq_some_iff.mp H
 obtain ⟨⟨t972, t973⟩, A40, H⟩ := H
 replace H : ((spec_l02Least.f k l0).bind fun bt974 => (if bt974.1 = 0 then (if bt974.2 = 0 then (if t972 ≤ 20 then (some (decide (t973 ≤ 20))) else (some false)) else (some false)) else (some false))) = some r := H
 have A4 := aM A40
 clear A40
 replace H := Option.bind_eq_some_iff.mp H
 obtain ⟨⟨t974, t975⟩, A50, H⟩ := H
 replace H : (if t974 = 0 then (if t975 = 0 then (if t972 ≤ 20 then (some (decide (t973 ≤ 20))) else (some false)) else (some false)) else (some false)) = some r := H
 have A5 := aM A50
 clear A50
 by_cases c6 : t974 = 0
 rotate_left
 ·rw [if_neg c6] at H
  have c6b0 : (t974 == 0) = false := beq_eq_false_iff_ne.mpr c6
  have c6b1 : (t974 != 0) = true := bne_iff_ne.mpr c6
  obtain rfl := Option.some.inj H
  go_enter Try.func63, Try.ntmps63
  go_wp2_with (first | ((with_reducible refine gate_callee (f := 87) rfl ?_); refine goesL_ (some 8) rfl rfl Try.func87 (by kernel_rfl) rfl #[.slice A0 l0.length c0] rfl zm ?_; (with_reducible refine (spec_IsShape.calls k _ _ l0 true _ ?side1 ?side2 A2.out).mono ?_); (case side1 => repeat (first | exact HR0.out | (with_reducible refine Kd.C_alloc ?_ _) | (with_reducible refine Kd.C_drewN ?_ _) | (with_reducible refine Kd.C_drew ?_))); (case side2 => exact HC0.out); rintro e w18 ⟨rfl, hb⟩; refine ⟨_, rfl, ?_⟩; have n0_ := aM (below_step zb hb); clear HB; have HB := n0_; clear n0_; (try clear hb); (try clear hb2); (try clear hk); (try clear hi)) | ((with_reducible refine gate_callee (f := 125) rfl ?_); refine goesL_ (some 12) rfl rfl Try.func125 (by kernel_rfl) rfl #[.slice A0 l0.length c0] rfl zm ?_; (with_reducible refine (spec_l04Size.calls k _ _ l0 t972 t973 _ ?side1 ?side2 A4.out).mono ?_); (case side1 => repeat (first | exact (Kd.C_below HR0.out HB.out) | (with_reducible refine Kd.C_alloc ?_ _) | (with_reducible refine Kd.C_drewN ?_ _) | (with_reducible refine Kd.C_drew ?_))); (case side2 => exact HC0.out); rintro e w19 ⟨rfl, hb⟩; refine ⟨_, rfl, ?_⟩; have n0_ := aM (below_step zb hb); clear HB; have HB := n0_; clear n0_; (try clear hb); (try clear hb2); (try clear hk); (try clear hi)) | ((with_reducible refine gate_callee (f := 126) rfl ?_); refine goesL_ (some 17) rfl rfl Try.func126 (by kernel_rfl) rfl #[.slice A0 l0.length c0] rfl zm ?_; (with_reducible refine (spec_l02Least.calls k _ _ l0 t974 t975 _ ?side1 ?side2 A5.out).mono ?_); (case side1 => repeat (first | exact (Kd.C_below HR0.out HB.out) | (with_reducible refine Kd.C_alloc ?_ _) | (with_reducible refine Kd.C_drewN ?_ _) | (with_reducible refine Kd.C_drew ?_))); (case side2 => exact HC0.out); rintro e w20 ⟨rfl, hb⟩; refine ⟨_, rfl, ?_⟩; have n0_ := aM (below_step zb hb); clear HB; have HB := n0_; clear n0_; (try clear hb); (try clear hb2); (try clear hk); (try clear hi)))
  go_ret
  exact ⟨zw, zb⟩
 rw [if_pos c6] at H
 have c6b0 : (t974 == 0) = true := beq_iff_eq.mpr c6
 have c6b1 : (t974 != 0) = false := bne_eq_false_iff_eq.mpr c6
 clear c6
 by_cases c7 : t975 = 0
 rotate_left
 ·rw [if_neg c7] at H
  have c7b0 : (t975 == 0) = false := beq_eq_false_iff_ne.mpr c7
  have c7b1 : (t975 != 0) = true := bne_iff_ne.mpr c7
  obtain rfl := Option.some.inj H
  go_enter Try.func63, Try.ntmps63
  go_wp2_with (first | ((with_reducible refine gate_callee (f := 87) rfl ?_); refine goesL_ (some 8) rfl rfl Try.func87 (by kernel_rfl) rfl #[.slice A0 l0.length c0] rfl zm ?_; (with_reducible refine (spec_IsShape.calls k _ _ l0 true _ ?side1 ?side2 A2.out).mono ?_); (case side1 => repeat (first | exact HR0.out | (with_reducible refine Kd.C_alloc ?_ _) | (with_reducible refine Kd.C_drewN ?_ _) | (with_reducible refine Kd.C_drew ?_))); (case side2 => exact HC0.out); rintro e w15 ⟨rfl, hb⟩; refine ⟨_, rfl, ?_⟩; have n0_ := aM (below_step zb hb); clear HB; have HB := n0_; clear n0_; (try clear hb); (try clear hb2); (try clear hk); (try clear hi)) | ((with_reducible refine gate_callee (f := 125) rfl ?_); refine goesL_ (some 12) rfl rfl Try.func125 (by kernel_rfl) rfl #[.slice A0 l0.length c0] rfl zm ?_; (with_reducible refine (spec_l04Size.calls k _ _ l0 t972 t973 _ ?side1 ?side2 A4.out).mono ?_); (case side1 => repeat (first | exact (Kd.C_below HR0.out HB.out) | (with_reducible refine Kd.C_alloc ?_ _) | (with_reducible refine Kd.C_drewN ?_ _) | (with_reducible refine Kd.C_drew ?_))); (case side2 => exact HC0.out); rintro e w16 ⟨rfl, hb⟩; refine ⟨_, rfl, ?_⟩; have n0_ := aM (below_step zb hb); clear HB; have HB := n0_; clear n0_; (try clear hb); (try clear hb2); (try clear hk); (try clear hi)) | ((with_reducible refine gate_callee (f := 126) rfl ?_); refine goesL_ (some 17) rfl rfl Try.func126 (by kernel_rfl) rfl #[.slice A0 l0.length c0] rfl zm ?_; (with_reducible refine (spec_l02Least.calls k _ _ l0 t974 t975 _ ?side1 ?side2 A5.out).mono ?_); (case side1 => repeat (first | exact (Kd.C_below HR0.out HB.out) | (with_reducible refine Kd.C_alloc ?_ _) | (with_reducible refine Kd.C_drewN ?_ _) | (with_reducible refine Kd.C_drew ?_))); (case side2 => exact HC0.out); rintro e w17 ⟨rfl, hb⟩; refine ⟨_, rfl, ?_⟩; have n0_ := aM (below_step zb hb); clear HB; have HB := n0_; clear n0_; (try clear hb); (try clear hb2); (try clear hk); (try clear hi)))
  go_ret
  exact ⟨zw, zb⟩
 rw [if_pos c7] at H
 have c7b0 : (t975 == 0) = true := beq_iff_eq.mpr c7
 have c7b1 : (t975 != 0) = false := bne_eq_false_iff_eq.mpr c7
 clear c7
 by_cases c8 : t972 ≤ 20
 ·rw [if_pos c8] at H
  have c8b0 : decide (t972 ≤ 20) = true := decide_eq_true c8
  clear c8
  obtain rfl := Option.some.inj H
  go_enter Try.func63, Try.ntmps63
  go_wp2_with (first | ((with_reducible refine gate_callee (f := 87) rfl ?_); refine goesL_ (some 8) rfl rfl Try.func87 (by kernel_rfl) rfl #[.slice A0 l0.length c0] rfl zm ?_; (with_reducible refine (spec_IsShape.calls k _ _ l0 true _ ?side1 ?side2 A2.out).mono ?_); (case side1 => repeat (first | exact HR0.out | (with_reducible refine Kd.C_alloc ?_ _) | (with_reducible refine Kd.C_drewN ?_ _) | (with_reducible refine Kd.C_drew ?_))); (case side2 => exact HC0.out); rintro e w9 ⟨rfl, hb⟩; refine ⟨_, rfl, ?_⟩; have n0_ := aM (below_step zb hb); clear HB; have HB := n0_; clear n0_; (try clear hb); (try clear hb2); (try clear hk); (try clear hi)) | ((with_reducible refine gate_callee (f := 125) rfl ?_); refine goesL_ (some 12) rfl rfl Try.func125 (by kernel_rfl) rfl #[.slice A0 l0.length c0] rfl zm ?_; (with_reducible refine (spec_l04Size.calls k _ _ l0 t972 t973 _ ?side1 ?side2 A4.out).mono ?_); (case side1 => repeat (first | exact (Kd.C_below HR0.out HB.out) | (with_reducible refine Kd.C_alloc ?_ _) | (with_reducible refine Kd.C_drewN ?_ _) | (with_reducible refine Kd.C_drew ?_))); (case side2 => exact HC0.out); rintro e w10 ⟨rfl, hb⟩; refine ⟨_, rfl, ?_⟩; have n0_ := aM (below_step zb hb); clear HB; have HB := n0_; clear n0_; (try clear hb); (try clear hb2); (try clear hk); (try clear hi)) | ((with_reducible refine gate_callee (f := 126) rfl ?_); refine goesL_ (some 17) rfl rfl Try.func126 (by kernel_rfl) rfl #[.slice A0 l0.length c0] rfl zm ?_; (with_reducible refine (spec_l02Least.calls k _ _ l0 t974 t975 _ ?side1 ?side2 A5.out).mono ?_); (case side1 => repeat (first | exact (Kd.C_below HR0.out HB.out) | (with_reducible refine Kd.C_alloc ?_ _) | (with_reducible refine Kd.C_drewN ?_ _) | (with_reducible refine Kd.C_drew ?_))); (case side2 => exact HC0.out); rintro e w11 ⟨rfl, hb⟩; refine ⟨_, rfl, ?_⟩; have n0_ := aM (below_step zb hb); clear HB; have HB := n0_; clear n0_; (try clear hb); (try clear hb2); (try clear hk); (try clear hi)))
  go_ret
  exact ⟨zw, zb⟩
 rw [if_neg c8] at H
 have c8b0 : decide (t972 ≤ 20) = false := decide_eq_false c8
 clear c8
 obtain rfl := Option.some.inj H
 go_enter Try.func63, Try.ntmps63
 go_wp2_with (first | ((with_reducible refine gate_callee (f := 87) rfl ?_); refine goesL_ (some 8) rfl rfl Try.func87 (by kernel_rfl) rfl #[.slice A0 l0.length c0] rfl zm ?_; (with_reducible refine (spec_IsShape.calls k _ _ l0 true _ ?side1 ?side2 A2.out).mono ?_); (case side1 => repeat (first | exact HR0.out | (with_reducible refine Kd.C_alloc ?_ _) | (with_reducible refine Kd.C_drewN ?_ _) | (with_reducible refine Kd.C_drew ?_))); (case side2 => exact HC0.out); rintro e w12 ⟨rfl, hb⟩; refine ⟨_, rfl, ?_⟩; have n0_ := aM (below_step zb hb); clear HB; have HB := n0_; clear n0_; (try clear hb); (try clear hb2); (try clear hk); (try clear hi)) | ((with_reducible refine gate_callee (f := 125) rfl ?_); refine goesL_ (some 12) rfl rfl Try.func125 (by kernel_rfl) rfl #[.slice A0 l0.length c0] rfl zm ?_; (with_reducible refine (spec_l04Size.calls k _ _ l0 t972 t973 _ ?side1 ?side2 A4.out).mono ?_); (case side1 => repeat (first | exact (Kd.C_below HR0.out HB.out) | (with_reducible refine Kd.C_alloc ?_ _) | (with_reducible refine Kd.C_drewN ?_ _) | (with_reducible refine Kd.C_drew ?_))); (case side2 => exact HC0.out); rintro e w13 ⟨rfl, hb⟩; refine ⟨_, rfl, ?_⟩; have n0_ := aM (below_step zb hb); clear HB; have HB := n0_; clear n0_; (try clear hb); (try clear hb2); (try clear hk); (try clear hi)) | ((with_reducible refine gate_callee (f := 126) rfl ?_); refine goesL_ (some 17) rfl rfl Try.func126 (by kernel_rfl) rfl #[.slice A0 l0.length c0] rfl zm ?_; (with_reducible refine (spec_l02Least.calls k _ _ l0 t974 t975 _ ?side1 ?side2 A5.out).mono ?_); (case side1 => repeat (first | exact (Kd.C_below HR0.out HB.out) | (with_reducible refine Kd.C_alloc ?_ _) | (with_reducible refine Kd.C_drewN ?_ _) | (with_reducible refine Kd.C_drew ?_))); (case side2 => exact HC0.out); rintro e w14 ⟨rfl, hb⟩; refine ⟨_, rfl, ?_⟩; have n0_ := aM (below_step zb hb); clear HB; have HB := n0_; clear n0_; (try clear hb); (try clear hb2); (try clear hk); (try clear hi)))
 go_ret
 exact ⟨zw, zb⟩
def spec_l01Rises.l0 : Nat → List Int → Int → Int → Option (Bool)
 | 0, _, _, _ => none
 | k + 1, x0, x1, x5 => if x5 < (x0.length : Int) then (if 0 ≤ x5 then ((spec_l01In.f (rd x0 x5) 0 (wrap64 (x1 - 1))).bind fun t977 => (if t977 = true then (if x5 > 0 then (if 0 ≤ (wrap64 (x5 - 1)) then (if (wrap64 (x5 - 1)) < (x0.length : Int) then (if (rd x0 x5) ≤ (rd x0 (wrap64 (x5 - 1))) then (some false) else (spec_l01Rises.l0 k x0 x1 (wrap64 (x5 + 1)))) else (none)) else (none)) else (spec_l01Rises.l0 k x0 x1 (wrap64 (x5 + 1)))) else (some false))) else (none)) else (some true)
def spec_l01Rises.f (k : Nat) (l0 : List Int) (a1 : Int) : Option (Bool) := spec_l01Rises.l0 k l0 a1 0
theorem spec_l01Rises.calls (k : Nat) (A0 : Option Addr) (c0 : Nat) (l0 : List Int) (a1 : Int) (r : Bool) (w : World) (hr0 : Kd.C (Kd.int .i64) w A0 l0.length l0) (hc0 : l0.length ≤ c0) (h : spec_l01Rises.f k l0 a1 = some r) :
  Calls Try.prog 117 #[.slice A0 l0.length c0, .int .i64 a1] w fun e w' => e = .returned (.bool r) ∧ Drawn0 w w' := by
 have HR0 := aM hr0
 have HC0 := aM hc0
 clear hr0 hc0
 have H : (spec_l01Rises.l0 k l0 a1 0) = some r := h
 clear h
 have H' := aM H
 clear H
 go_enter Try.func117, Try.ntmps117
 go_wp2
 repeat (go_quiet (fail); try go_wp2)
 go_loopg [5] k (fun kq v5 w' => ∃ (x5_1 : Int), v5 = .int .i64 x5_1 ∧ Aside0 (spec_l01Rises.l0 kq l0 a1 x5_1 = some r) ∧ Aside0 (kq ≤ k) ∧ Drawn0 w w')
 case atStart => exact ⟨(0), zr, H', ⟨Nat.le_refl _⟩, by repeat (first | exact Drawn0.refl _ | apply Drawn0.step)⟩
 case round =>
  clear H'
  try clear c1
  try clear p2
  obtain ⟨x5_1, rfl, HA, HK1, ⟨m1, rfl⟩⟩ := hrel
  cases gk with
  | zero => exact absurd HA.out (by simp [spec_l01Rises.l0])
  | succ k1 =>
   have H := HA.out
   clear HA
   simp only [spec_l01Rises.l0] at H
   by_cases c3 : x5_1 < (l0.length : Int)
   rotate_left
   ·rw [if_neg c3] at H
    have c3b0 : decide (x5_1 < (l0.length : Int)) = false := decide_eq_false c3
    clear c3
    obtain rfl := Option.some.inj H
    go_wp2
    repeat (go_quiet (fail); try go_wp2)
    go_ret
    exact ⟨by first | rfl | (simp; done) | (simp [*]; done), by repeat (first | exact Drawn0.refl _ | apply Drawn0.step)⟩
   rw [if_pos c3] at H
   have c3b0 : decide (x5_1 < (l0.length : Int)) = true := decide_eq_true c3
   clear c3
   by_cases c4 : 0 ≤ x5_1
   rotate_left
   ·rw [if_neg c4] at H
    exact absurd H (by simp)
   rw [if_pos c4] at H
   have c4b0 : decide (0 ≤ x5_1) = true := decide_eq_true c4
   clear c4
   replace H := Option.bind_eq_some_iff.mp H
   obtain ⟨t977, A50, H⟩ := H
   replace H : (if t977 = true then (if x5_1 > 0 then (if 0 ≤ (wrap64 (x5_1 - 1)) then (if (wrap64 (x5_1 - 1)) < (l0.length : Int) then (if (rd l0 x5_1) ≤ (rd l0 (wrap64 (x5_1 - 1))) then (some false) else (spec_l01Rises.l0 k1 l0 a1 (wrap64 (x5_1 + 1)))) else (none)) else (none)) else (spec_l01Rises.l0 k1 l0 a1 (wrap64 (x5_1 + 1)))) else (some false)) = some r := H
   have A5 := aM A50
   clear A50
   by_cases c6 : t977 = true
   rotate_left
   ·replace c6 := Bool.eq_false_iff.mpr c6
    subst c6
    have H1 : (some false) = some r := by rw [if_neg (show ¬ (false = true) by decide)] at H; exact H
    clear H
    have H := H1
    clear H1
    obtain rfl := Option.some.inj H
    have p976 : 0 ≤ (x5_1 : Int) := of_decide_eq_true za
    have q976 : x5_1 < (l0.length : Int) := of_decide_eq_true za
    obtain ⟨ad976, e976, hx976_0⟩ := Kd.at_int HR0.out x5_1 p976 q976
    cases e976
    replace p976 := eq_true p976
    replace q976 := eq_true q976
    go_wp2_with (first | (go_at_call 129; (with_reducible refine (spec_l01In.calls (rd l0 x5_1) 0 (wrap64 (a1 - 1)) false _ A5.out).mono ?_); rintro e w' ⟨rfl, ⟨nd, rfl⟩⟩; (try first | exact ⟨rfl, _, World.drewN_drewN _ _ _⟩ | exact ⟨rfl, _, Eq.trans (World.drewN_drewN _ _ _) (congrArg (World.drewN _) (Nat.add_assoc _ _ _))⟩)))
    repeat (go_quiet (first | (go_at_call 129; (try simp only [i64_w]); (with_reducible refine (spec_l01In.calls (rd l0 x5_1) 0 (wrap64 (a1 - 1)) false _ A5.out).mono ?_); rintro e w' ⟨rfl, ⟨nd, rfl⟩⟩; (try first | exact ⟨rfl, _, World.drewN_drewN _ _ _⟩ | exact ⟨rfl, _, Eq.trans (World.drewN_drewN _ _ _) (congrArg (World.drewN _) (Nat.add_assoc _ _ _))⟩))); try go_wp2_with (first | (go_at_call 129; (try simp only [i64_w]); (with_reducible refine (spec_l01In.calls (rd l0 x5_1) 0 (wrap64 (a1 - 1)) false _ A5.out).mono ?_); rintro e w' ⟨rfl, ⟨nd, rfl⟩⟩; (try first | exact ⟨rfl, _, World.drewN_drewN _ _ _⟩ | exact ⟨rfl, _, Eq.trans (World.drewN_drewN _ _ _) (congrArg (World.drewN _) (Nat.add_assoc _ _ _))⟩))))
    go_ret
    exact ⟨by first | rfl | (simp; done) | (simp [*]; done), by repeat (first | exact Drawn0.refl _ | apply Drawn0.step)⟩
   subst c6
   have H1 : (if x5_1 > 0 then (if 0 ≤ (wrap64 (x5_1 - 1)) then (if (wrap64 (x5_1 - 1)) < (l0.length : Int) then (if (rd l0 x5_1) ≤ (rd l0 (wrap64 (x5_1 - 1))) then (some false) else (spec_l01Rises.l0 k1 l0 a1 (wrap64 (x5_1 + 1)))) else (none)) else (none)) else (spec_l01Rises.l0 k1 l0 a1 (wrap64 (x5_1 + 1)))) = some r := by rw [if_pos rfl] at H; exact H
   clear H
   have H := H1
   clear H1
   by_cases c7 : x5_1 > 0
   rotate_left
   ·rw [if_neg c7] at H
    have c7b0 : decide (0 < x5_1) = false := decide_eq_false c7
    clear c7
    have H' := aM H
    clear H
    have p976 : 0 ≤ (x5_1 : Int) := of_decide_eq_true za
    have q976 : x5_1 < (l0.length : Int) := of_decide_eq_true za
    obtain ⟨ad976, e976, hx976_0⟩ := Kd.at_int HR0.out x5_1 p976 q976
    cases e976
    replace p976 := eq_true p976
    replace q976 := eq_true q976
    go_wp2_with (first | (go_at_call 129; (with_reducible refine (spec_l01In.calls (rd l0 x5_1) 0 (wrap64 (a1 - 1)) true _ A5.out).mono ?_); rintro e w' ⟨rfl, ⟨nd, rfl⟩⟩; (try first | exact ⟨rfl, _, World.drewN_drewN _ _ _⟩ | exact ⟨rfl, _, Eq.trans (World.drewN_drewN _ _ _) (congrArg (World.drewN _) (Nat.add_assoc _ _ _))⟩)))
    repeat (go_quiet (first | (go_at_call 129; (try simp only [i64_w]); (with_reducible refine (spec_l01In.calls (rd l0 x5_1) 0 (wrap64 (a1 - 1)) true _ A5.out).mono ?_); rintro e w' ⟨rfl, ⟨nd, rfl⟩⟩; (try first | exact ⟨rfl, _, World.drewN_drewN _ _ _⟩ | exact ⟨rfl, _, Eq.trans (World.drewN_drewN _ _ _) (congrArg (World.drewN _) (Nat.add_assoc _ _ _))⟩))); try go_wp2_with (first | (go_at_call 129; (try simp only [i64_w]); (with_reducible refine (spec_l01In.calls (rd l0 x5_1) 0 (wrap64 (a1 - 1)) true _ A5.out).mono ?_); rintro e w' ⟨rfl, ⟨nd, rfl⟩⟩; (try first | exact ⟨rfl, _, World.drewN_drewN _ _ _⟩ | exact ⟨rfl, _, Eq.trans (World.drewN_drewN _ _ _) (congrArg (World.drewN _) (Nat.add_assoc _ _ _))⟩))))
    go_roundg k1
    case measure => have := HK1.out; omega
    case rel => exact ⟨(wrap64 (x5_1 + 1)), zr, H', ⟨by have := HK1.out; omega⟩, by repeat (first | exact Drawn0.refl _ | apply Drawn0.step)⟩
   rw [if_pos c7] at H
   have c7b0 : decide (0 < x5_1) = true := decide_eq_true c7
   clear c7
   obtain ⟨ji8, hji8⟩ : ∃ j_ : Int, (wrap64 (x5_1 - 1)) = j_ := ⟨_, rfl⟩
   replace H : (if 0 ≤ (ji8) then (if (ji8) < (l0.length : Int) then (if (rd l0 x5_1) ≤ (rd l0 (ji8)) then (some false) else (spec_l01Rises.l0 k1 l0 a1 (wrap64 (x5_1 + 1)))) else (none)) else (none)) = some r := by first | (rw [hji8] at H; exact H) | (simp only [hji8] at H ⊢; exact H)
   (try rw [hji8] at A5)
   have hji8w : (IntKind.i64.wrap (x5_1 - 1)) = ji8 := (i64_w _).trans hji8
   by_cases c9 : 0 ≤ (ji8)
   rotate_left
   ·rw [if_neg c9] at H
    exact absurd H (by simp)
   rw [if_pos c9] at H
   have c9b0 : decide (0 ≤ (ji8)) = true := decide_eq_true c9
   clear c9
   by_cases c10 : (ji8) < (l0.length : Int)
   rotate_left
   ·rw [if_neg c10] at H
    exact absurd H (by simp)
   rw [if_pos c10] at H
   have c10b0 : decide ((ji8) < (l0.length : Int)) = true := decide_eq_true c10
   clear c10
   by_cases c11 : (rd l0 x5_1) ≤ (rd l0 (ji8))
   ·rw [if_pos c11] at H
    have c11b0 : decide ((rd l0 x5_1) ≤ (rd l0 (ji8))) = true := decide_eq_true c11
    clear c11
    obtain rfl := Option.some.inj H
    have p976 : 0 ≤ (x5_1 : Int) := of_decide_eq_true za
    have q976 : x5_1 < (l0.length : Int) := of_decide_eq_true za
    obtain ⟨ad976, e976, hx976_0⟩ := Kd.at_int HR0.out x5_1 p976 q976
    cases e976
    replace p976 := eq_true p976
    replace q976 := eq_true q976
    go_wp2_with (first | (go_at_call 129; (with_reducible refine (spec_l01In.calls (rd l0 x5_1) 0 (wrap64 (a1 - 1)) true _ A5.out).mono ?_); rintro e w' ⟨rfl, ⟨nd, rfl⟩⟩; (try first | exact ⟨rfl, _, World.drewN_drewN _ _ _⟩ | exact ⟨rfl, _, Eq.trans (World.drewN_drewN _ _ _) (congrArg (World.drewN _) (Nat.add_assoc _ _ _))⟩); have p978 : 0 ≤ (x5_1 : Int) := of_decide_eq_true za; have q978 : x5_1 < (l0.length : Int) := of_decide_eq_true za; obtain ⟨ad978, e978, hx978_0⟩ := Kd.at_int HR0.out x5_1 p978 q978; obtain rfl : ad976 = ad978 := (by injection e978); replace p978 := eq_true p978; replace q978 := eq_true q978; have p979 : 0 ≤ ((ji8) : Int) := of_decide_eq_true za; have q979 : (ji8) < (l0.length : Int) := of_decide_eq_true za; obtain ⟨ad979, e979, hx979_0⟩ := Kd.at_int HR0.out (ji8) p979 q979; obtain rfl : ad976 = ad979 := (by injection e979); replace p979 := eq_true p979; replace q979 := eq_true q979))
    repeat (go_quiet (first | (go_at_call 129; (try simp only [i64_w]); (with_reducible refine (spec_l01In.calls (rd l0 x5_1) 0 (wrap64 (a1 - 1)) true _ A5.out).mono ?_); rintro e w' ⟨rfl, ⟨nd, rfl⟩⟩; (try first | exact ⟨rfl, _, World.drewN_drewN _ _ _⟩ | exact ⟨rfl, _, Eq.trans (World.drewN_drewN _ _ _) (congrArg (World.drewN _) (Nat.add_assoc _ _ _))⟩); have p978 : 0 ≤ (x5_1 : Int) := of_decide_eq_true za; have q978 : x5_1 < (l0.length : Int) := of_decide_eq_true za; obtain ⟨ad978, e978, hx978_0⟩ := Kd.at_int HR0.out x5_1 p978 q978; obtain rfl : ad976 = ad978 := (by injection e978); replace p978 := eq_true p978; replace q978 := eq_true q978; have p979 : 0 ≤ ((ji8) : Int) := of_decide_eq_true za; have q979 : (ji8) < (l0.length : Int) := of_decide_eq_true za; obtain ⟨ad979, e979, hx979_0⟩ := Kd.at_int HR0.out (ji8) p979 q979; obtain rfl : ad976 = ad979 := (by injection e979); replace p979 := eq_true p979; replace q979 := eq_true q979)); try go_wp2_with (first | (go_at_call 129; (try simp only [i64_w]); (with_reducible refine (spec_l01In.calls (rd l0 x5_1) 0 (wrap64 (a1 - 1)) true _ A5.out).mono ?_); rintro e w' ⟨rfl, ⟨nd, rfl⟩⟩; (try first | exact ⟨rfl, _, World.drewN_drewN _ _ _⟩ | exact ⟨rfl, _, Eq.trans (World.drewN_drewN _ _ _) (congrArg (World.drewN _) (Nat.add_assoc _ _ _))⟩); have p978 : 0 ≤ (x5_1 : Int) := of_decide_eq_true za; have q978 : x5_1 < (l0.length : Int) := of_decide_eq_true za; obtain ⟨ad978, e978, hx978_0⟩ := Kd.at_int HR0.out x5_1 p978 q978; obtain rfl : ad976 = ad978 := (by injection e978); replace p978 := eq_true p978; replace q978 := eq_true q978; have p979 : 0 ≤ ((ji8) : Int) := of_decide_eq_true za; have q979 : (ji8) < (l0.length : Int) := of_decide_eq_true za; obtain ⟨ad979, e979, hx979_0⟩ := Kd.at_int HR0.out (ji8) p979 q979; obtain rfl : ad976 = ad979 := (by injection e979); replace p979 := eq_true p979; replace q979 := eq_true q979)))
    go_ret
    exact ⟨by first | rfl | (simp; done) | (simp only [← hji8] <;> (first | rfl | simp)) | (simp [*]; done), by repeat (first | exact Drawn0.refl _ | apply Drawn0.step)⟩
   rw [if_neg c11] at H
   have c11b0 : decide ((rd l0 x5_1) ≤ (rd l0 (ji8))) = false := decide_eq_false c11
   clear c11
   have H' := aM H
   clear H
   have p976 : 0 ≤ (x5_1 : Int) := of_decide_eq_true za
   have q976 : x5_1 < (l0.length : Int) := of_decide_eq_true za
   obtain ⟨ad976, e976, hx976_0⟩ := Kd.at_int HR0.out x5_1 p976 q976
   cases e976
   replace p976 := eq_true p976
   replace q976 := eq_true q976
   go_wp2_with (first | (go_at_call 129; (with_reducible refine (spec_l01In.calls (rd l0 x5_1) 0 (wrap64 (a1 - 1)) true _ A5.out).mono ?_); rintro e w' ⟨rfl, ⟨nd, rfl⟩⟩; (try first | exact ⟨rfl, _, World.drewN_drewN _ _ _⟩ | exact ⟨rfl, _, Eq.trans (World.drewN_drewN _ _ _) (congrArg (World.drewN _) (Nat.add_assoc _ _ _))⟩); have p978 : 0 ≤ (x5_1 : Int) := of_decide_eq_true za; have q978 : x5_1 < (l0.length : Int) := of_decide_eq_true za; obtain ⟨ad978, e978, hx978_0⟩ := Kd.at_int HR0.out x5_1 p978 q978; obtain rfl : ad976 = ad978 := (by injection e978); replace p978 := eq_true p978; replace q978 := eq_true q978; have p979 : 0 ≤ ((ji8) : Int) := of_decide_eq_true za; have q979 : (ji8) < (l0.length : Int) := of_decide_eq_true za; obtain ⟨ad979, e979, hx979_0⟩ := Kd.at_int HR0.out (ji8) p979 q979; obtain rfl : ad976 = ad979 := (by injection e979); replace p979 := eq_true p979; replace q979 := eq_true q979))
   repeat (go_quiet (first | (go_at_call 129; (try simp only [i64_w]); (with_reducible refine (spec_l01In.calls (rd l0 x5_1) 0 (wrap64 (a1 - 1)) true _ A5.out).mono ?_); rintro e w' ⟨rfl, ⟨nd, rfl⟩⟩; (try first | exact ⟨rfl, _, World.drewN_drewN _ _ _⟩ | exact ⟨rfl, _, Eq.trans (World.drewN_drewN _ _ _) (congrArg (World.drewN _) (Nat.add_assoc _ _ _))⟩); have p978 : 0 ≤ (x5_1 : Int) := of_decide_eq_true za; have q978 : x5_1 < (l0.length : Int) := of_decide_eq_true za; obtain ⟨ad978, e978, hx978_0⟩ := Kd.at_int HR0.out x5_1 p978 q978; obtain rfl : ad976 = ad978 := (by injection e978); replace p978 := eq_true p978; replace q978 := eq_true q978; have p979 : 0 ≤ ((ji8) : Int) := of_decide_eq_true za; have q979 : (ji8) < (l0.length : Int) := of_decide_eq_true za; obtain ⟨ad979, e979, hx979_0⟩ := Kd.at_int HR0.out (ji8) p979 q979; obtain rfl : ad976 = ad979 := (by injection e979); replace p979 := eq_true p979; replace q979 := eq_true q979)); try go_wp2_with (first | (go_at_call 129; (try simp only [i64_w]); (with_reducible refine (spec_l01In.calls (rd l0 x5_1) 0 (wrap64 (a1 - 1)) true _ A5.out).mono ?_); rintro e w' ⟨rfl, ⟨nd, rfl⟩⟩; (try first | exact ⟨rfl, _, World.drewN_drewN _ _ _⟩ | exact ⟨rfl, _, Eq.trans (World.drewN_drewN _ _ _) (congrArg (World.drewN _) (Nat.add_assoc _ _ _))⟩); have p978 : 0 ≤ (x5_1 : Int) := of_decide_eq_true za; have q978 : x5_1 < (l0.length : Int) := of_decide_eq_true za; obtain ⟨ad978, e978, hx978_0⟩ := Kd.at_int HR0.out x5_1 p978 q978; obtain rfl : ad976 = ad978 := (by injection e978); replace p978 := eq_true p978; replace q978 := eq_true q978; have p979 : 0 ≤ ((ji8) : Int) := of_decide_eq_true za; have q979 : (ji8) < (l0.length : Int) := of_decide_eq_true za; obtain ⟨ad979, e979, hx979_0⟩ := Kd.at_int HR0.out (ji8) p979 q979; obtain rfl : ad976 = ad979 := (by injection e979); replace p979 := eq_true p979; replace q979 := eq_true q979)))
   go_roundg k1
   case measure => have := HK1.out; omega
   case rel => exact ⟨(wrap64 (x5_1 + 1)), zr, H', ⟨by have := HK1.out; omega⟩, by repeat (first | exact Drawn0.refl _ | apply Drawn0.step)⟩
def spec_l10Code.f (k : Nat) (l0 : List (S59)) (l1 : List Int) : Option (Int) := (spec_IsRegion.f k l0).bind fun t980 => (if t980 = true then ((spec_l01Rises.f k l1 (l0.length : Int)).bind fun t981 => (if t981 = true then (some 0) else (some 2))) else (some 1))
theorem spec_l10Code.calls (k : Nat) (A0 : Option Addr) (c0 : Nat) (l0 : List (S59)) (A1 : Option Addr) (c1 : Nat) (l1 : List Int) (r : Int) (w : World) (hr0 : Kd.C k59 w A0 l0.length l0) (hc0 : l0.length ≤ c0) (hr1 : Kd.C (Kd.int .i64) w A1 l1.length l1) (hc1 : l1.length ≤ c1) (h : spec_l10Code.f k l0 l1 = some r) :
  Calls Try.prog 104 #[.slice A0 l0.length c0, .slice A1 l1.length c1] w fun e w' => e = .returned (.int .i64 r) ∧ Below w.heap.size w w' := by
 have HR0 := aM hr0
 have HC0 := aM hc0
 clear hr0 hc0
 have HR1 := aM hr1
 have HC1 := aM hc1
 clear hr1 hc1
 have HB := aM (Below.refl w.heap.size w)
 have H : ((spec_IsRegion.f k l0).bind fun t980 => (if t980 = true then ((spec_l01Rises.f k l1 (l0.length : Int)).bind fun t981 => (if t981 = true then (some 0) else (some 2))) else (some 1))) = some r := h
 clear h
 replace H := Option.bind_eq_some_iff.mp H
 obtain ⟨t980, A30, H⟩ := H
 replace H : (if t980 = true then ((spec_l01Rises.f k l1 (l0.length : Int)).bind fun t981 => (if t981 = true then (some 0) else (some 2))) else (some 1)) = some r := H
 have A3 := aM A30
 clear A30
 by_cases c4 : t980 = true
 rotate_left
 ·replace c4 := Bool.eq_false_iff.mpr c4
  subst c4
  have H1 : (some 1) = some r := by rw [if_neg (show ¬ (false = true) by decide)] at H; exact H
  clear H
  have H := H1
  clear H1
  obtain rfl := Option.some.inj H
  go_enter Try.func104, Try.ntmps104
  go_wp2_with (first | ((with_reducible refine gate_callee (f := 63) rfl ?_); refine goesL_ (some 6) rfl rfl Try.func63 (by kernel_rfl) rfl #[.slice A0 l0.length c0] rfl zm ?_; (with_reducible refine (spec_IsRegion.calls k _ _ l0 false _ ?side1 ?side2 A3.out).mono ?_); (case side1 => repeat (first | exact HR0.out | (with_reducible refine Kd.C_alloc ?_ _) | (with_reducible refine Kd.C_drewN ?_ _) | (with_reducible refine Kd.C_drew ?_))); (case side2 => exact HC0.out); rintro e w9 ⟨rfl, hb⟩; refine ⟨_, rfl, ?_⟩; have n0_ := aM (below_step zb hb); clear HB; have HB := n0_; clear n0_; (try clear hb); (try clear hb2); (try clear hk); (try clear hi)))
  go_ret
  exact ⟨zw, zb⟩
 subst c4
 have H1 : ((spec_l01Rises.f k l1 (l0.length : Int)).bind fun t981 => (if t981 = true then (some 0) else (some 2))) = some r := by rw [if_pos rfl] at H; exact H
 clear H
 have H := H1
 clear H1
 replace H := Option.bind_eq_some_iff.mp H
 obtain ⟨t981, A50, H⟩ := H
 replace H : (if t981 = true then (some 0) else (some 2)) = some r := H
 have A5 := aM A50
 clear A50
 by_cases c6 : t981 = true
 ·subst c6
  have H1 : (some 0) = some r := by rw [if_pos rfl] at H; exact H
  clear H
  have H := H1
  clear H1
  obtain rfl := Option.some.inj H
  go_enter Try.func104, Try.ntmps104
  go_wp2_with (first | ((with_reducible refine gate_callee (f := 63) rfl ?_); refine goesL_ (some 6) rfl rfl Try.func63 (by kernel_rfl) rfl #[.slice A0 l0.length c0] rfl zm ?_; (with_reducible refine (spec_IsRegion.calls k _ _ l0 true _ ?side1 ?side2 A3.out).mono ?_); (case side1 => repeat (first | exact HR0.out | (with_reducible refine Kd.C_alloc ?_ _) | (with_reducible refine Kd.C_drewN ?_ _) | (with_reducible refine Kd.C_drew ?_))); (case side2 => exact HC0.out); rintro e w7 ⟨rfl, hb⟩; refine ⟨_, rfl, ?_⟩; have n0_ := aM (below_step zb hb); clear HB; have HB := n0_; clear n0_; (try clear hb); (try clear hb2); (try clear hk); (try clear hi)) | ((with_reducible refine gate_callee (f := 117) rfl ?_); refine goesL_ (some 11) rfl rfl Try.func117 (by kernel_rfl) rfl #[.slice A1 l1.length c1, .int .i64 (l0.length : Int)] rfl zm ?_; (with_reducible refine (spec_l01Rises.calls k _ _ l1 (l0.length : Int) true _ ?side1 ?side2 A5.out).mono ?_); (case side1 => repeat (first | exact (Kd.C_below HR1.out HB.out) | (with_reducible refine Kd.C_alloc ?_ _) | (with_reducible refine Kd.C_drewN ?_ _) | (with_reducible refine Kd.C_drew ?_))); (case side2 => exact HC1.out); rintro e w' ⟨rfl, ⟨nd, rfl⟩⟩; refine ⟨_, rfl, ?_⟩))
  go_ret
  exact ⟨zw, zb⟩
 replace c6 := Bool.eq_false_iff.mpr c6
 subst c6
 have H1 : (some 2) = some r := by rw [if_neg (show ¬ (false = true) by decide)] at H; exact H
 clear H
 have H := H1
 clear H1
 obtain rfl := Option.some.inj H
 go_enter Try.func104, Try.ntmps104
 go_wp2_with (first | ((with_reducible refine gate_callee (f := 63) rfl ?_); refine goesL_ (some 6) rfl rfl Try.func63 (by kernel_rfl) rfl #[.slice A0 l0.length c0] rfl zm ?_; (with_reducible refine (spec_IsRegion.calls k _ _ l0 true _ ?side1 ?side2 A3.out).mono ?_); (case side1 => repeat (first | exact HR0.out | (with_reducible refine Kd.C_alloc ?_ _) | (with_reducible refine Kd.C_drewN ?_ _) | (with_reducible refine Kd.C_drew ?_))); (case side2 => exact HC0.out); rintro e w8 ⟨rfl, hb⟩; refine ⟨_, rfl, ?_⟩; have n0_ := aM (below_step zb hb); clear HB; have HB := n0_; clear n0_; (try clear hb); (try clear hb2); (try clear hk); (try clear hi)) | ((with_reducible refine gate_callee (f := 117) rfl ?_); refine goesL_ (some 11) rfl rfl Try.func117 (by kernel_rfl) rfl #[.slice A1 l1.length c1, .int .i64 (l0.length : Int)] rfl zm ?_; (with_reducible refine (spec_l01Rises.calls k _ _ l1 (l0.length : Int) false _ ?side1 ?side2 A5.out).mono ?_); (case side1 => repeat (first | exact (Kd.C_below HR1.out HB.out) | (with_reducible refine Kd.C_alloc ?_ _) | (with_reducible refine Kd.C_drewN ?_ _) | (with_reducible refine Kd.C_drew ?_))); (case side2 => exact HC1.out); rintro e w' ⟨rfl, ⟨nd, rfl⟩⟩; refine ⟨_, rfl, ?_⟩))
 go_ret
 exact ⟨zw, zb⟩
def spec_l10Rest.l0 : Nat → List (S59) → List Int → List (S59) → Int → Option ((List (S59)))
 | 0, _, _, _, _ => none
 | k + 1, x0, x1, x5, x6 => if x6 < (x0.length : Int) then ((spec_l01Has.f k x1 x6).bind fun t996 => (if t996 = true then (spec_l10Rest.l0 k x0 x1 x5 (wrap64 (x6 + 1))) else (if 0 ≤ x6 then (if x5.length < 8796093022208 then (spec_l10Rest.l0 k x0 x1 (x5 ++ [(⟨(rd_T59 x0 x6).f0, (rd_T59 x0 x6).f1⟩ : S59)]) (wrap64 (x6 + 1))) else (none)) else (none)))) else (some x5)
def spec_l10Rest.f (k : Nat) (l0 : List (S59)) (l1 : List Int) : Option ((List (S59))) := spec_l10Rest.l0 k l0 l1 (([] : List (S59))) 0
theorem spec_l10Rest.calls (k : Nat) (A0 : Option Addr) (c0 : Nat) (l0 : List (S59)) (A1 : Option Addr) (c1 : Nat) (l1 : List Int) (r : List (S59)) (w : World) (hr0 : Kd.C k59 w A0 l0.length l0) (hc0 : l0.length ≤ c0) (hr1 : Kd.C (Kd.int .i64) w A1 l1.length l1) (hc1 : l1.length ≤ c1) (h : spec_l10Rest.f k l0 l1 = some r) :
  Calls Try.prog 106 #[.slice A0 l0.length c0, .slice A1 l1.length c1] w fun e w' => ∃ v0_ : Value, e = .returned (v0_) ∧ Kd.R k59 59 w' w.heap.size (fun _ => True) v0_ r ∧ Below w.heap.size w w' := by
 have hu59 := Try.underlying59
 have HR0 := aM hr0
 have HC0 := aM hc0
 clear hr0 hc0
 have HR1 := aM hr1
 have HC1 := aM hc1
 clear hr1 hc1
 have HB := aM (Below.refl w.heap.size w)
 have H : (spec_l10Rest.l0 k l0 l1 (([] : List (S59))) 0) = some r := h
 clear h
 obtain ⟨y993, hy993⟩ : ∃ y_ : List (S59), y_ = (([] : List (S59))) := ⟨_, rfl⟩
 replace H : (spec_l10Rest.l0 k l0 l1 y993 0) = some r := zy H hy993
 have Ny993 := aM hy993
 clear hy993
 have H' := aM H
 clear H
 go_enter Try.func106, Try.ntmps106
 go_wp2_with (first | ((with_reducible refine gate_dst (N := 7) rfl ?_); refine Kd.R_lit k59 _ 59 ?hg (N := 7) ?hd (xs := ([] : List (S59))) (inner := []) (ok := fun _ => True) (okp := fun _ => True) ?hr ?hp (fun _ hk => hk) trivial (Below.refl _ _) (Nat.le_refl _) (by simp) ?_; (case hd => rfl); (case hg => rfl); (case hr => first | (go_simp; done) | (go_simp; rfl)); (case hp => exact (Reps.none _ _)); intro v994 w3 ho4 hb hg_ hnew_; clear hg_ hnew_; (first | rw [← Ny993.out] at ho4 | (simp only [Int.reduceToNat] at ho4; rw [← Ny993.out] at ho4)); have n0_ := aM (Kd.R_lower ho4 (below_size zb)); have n1_ := aM (below_step zb hb); clear HB; have HO995 := n0_; have HB := n1_; clear n0_ n1_; clear hb ho4))
 go_loopg [5, 6] k (fun kq v5 v6 w' => ∃ (x5_1 : List (S59)) (x6_1 : Int), v6 = .int .i64 x6_1 ∧ Aside0 (spec_l10Rest.l0 kq l0 l1 x5_1 x6_1 = some r) ∧ Aside0 (kq ≤ k) ∧ Aside0 (Kd.R k59 59 w' w.heap.size (fun _ => True) v5 x5_1) ∧ Aside0 (Below w.heap.size w w'))
 case atStart => exact ⟨(y993), (0), zr, H', ⟨Nat.le_refl _⟩, ⟨mR_ HO995.out⟩, ⟨zb⟩⟩
 case round =>
  clear H'
  try clear c1
  try clear p2
  obtain ⟨x5_1, x6_1, rfl, HA, HK1, HO_5, HB⟩ := hrel
  cases gk with
  | zero => exact absurd HA.out (by simp [spec_l10Rest.l0])
  | succ k1 =>
   have H := HA.out
   clear HA
   simp only [spec_l10Rest.l0] at H
   by_cases c5 : x6_1 < (l0.length : Int)
   rotate_left
   ·rw [if_neg c5] at H
    have c5b0 : decide (x6_1 < (l0.length : Int)) = false := decide_eq_false c5
    clear c5
    obtain rfl := Option.some.inj H
    go_wp2
    go_ret
    exact ⟨_, zw, mR_ HO_5.out, zb⟩
   rw [if_pos c5] at H
   have c5b0 : decide (x6_1 < (l0.length : Int)) = true := decide_eq_true c5
   clear c5
   replace H := Option.bind_eq_some_iff.mp H
   obtain ⟨t996, A60, H⟩ := H
   replace H : (if t996 = true then (spec_l10Rest.l0 k1 l0 l1 x5_1 (wrap64 (x6_1 + 1))) else (if 0 ≤ x6_1 then (if x5_1.length < 8796093022208 then (spec_l10Rest.l0 k1 l0 l1 (x5_1 ++ [(⟨(rd_T59 l0 x6_1).f0, (rd_T59 l0 x6_1).f1⟩ : S59)]) (wrap64 (x6_1 + 1))) else (none)) else (none))) = some r := H
   have A6 := aM A60
   clear A60
   by_cases c7 : t996 = true
   ·subst c7
    have H1 : (spec_l10Rest.l0 k1 l0 l1 x5_1 (wrap64 (x6_1 + 1))) = some r := by rw [if_pos rfl] at H; exact H
    clear H
    have H := H1
    clear H1
    have H' := aM H
    clear H
    go_wp2_with (first | ((with_reducible refine gate_callee (f := 132) rfl ?_); refine goesL_ (some 16) rfl rfl Try.func132 (by kernel_rfl) rfl #[.slice A1 l1.length c1, .int .i64 x6_1] rfl zm ?_; (with_reducible refine (spec_l01Has.calls k1 _ _ l1 x6_1 true _ ?side1 ?side2 A6.out).mono ?_); (case side1 => repeat (first | exact (Kd.C_below HR1.out HB.out) | (with_reducible refine Kd.C_alloc ?_ _) | (with_reducible refine Kd.C_drewN ?_ _) | (with_reducible refine Kd.C_drew ?_))); (case side2 => exact HC1.out); rintro e w' ⟨rfl, ⟨nd, rfl⟩⟩; refine ⟨_, rfl, ?_⟩))
    go_roundg k1
    case measure => have := HK1.out; omega
    case rel => exact ⟨(x5_1), (wrap64 (x6_1 + 1)), zr, H', ⟨by have := HK1.out; omega⟩, ⟨mR_ HO_5.out⟩, ⟨zb⟩⟩
   replace c7 := Bool.eq_false_iff.mpr c7
   subst c7
   have H1 : (if 0 ≤ x6_1 then (if x5_1.length < 8796093022208 then (spec_l10Rest.l0 k1 l0 l1 (x5_1 ++ [(⟨(rd_T59 l0 x6_1).f0, (rd_T59 l0 x6_1).f1⟩ : S59)]) (wrap64 (x6_1 + 1))) else (none)) else (none)) = some r := by rw [if_neg (show ¬ (false = true) by decide)] at H; exact H
   clear H
   have H := H1
   clear H1
   by_cases c8 : 0 ≤ x6_1
   rotate_left
   ·rw [if_neg c8] at H
    exact absurd H (by simp)
   rw [if_pos c8] at H
   have c8b0 : decide (0 ≤ x6_1) = true := decide_eq_true c8
   clear c8
   by_cases c9 : x5_1.length < 8796093022208
   rotate_left
   ·rw [if_neg c9] at H
    exact absurd H (by simp)
   rw [if_pos c9] at H
   have LMc9 := aM c9
   clear c9
   obtain ⟨y998, hy998⟩ : ∃ y_ : List (S59), y_ = (x5_1 ++ [(⟨(rd_T59 l0 x6_1).f0, (rd_T59 l0 x6_1).f1⟩ : S59)]) := ⟨_, rfl⟩
   replace H : (spec_l10Rest.l0 k1 l0 l1 y998 (wrap64 (x6_1 + 1))) = some r := zy H hy998
   have Ny998 := aM hy998
   clear hy998
   have H' := aM H
   clear H
   go_wp2_with (first | ((with_reducible refine gate_callee (f := 132) rfl ?_); refine goesL_ (some 16) rfl rfl Try.func132 (by kernel_rfl) rfl #[.slice A1 l1.length c1, .int .i64 x6_1] rfl zm ?_; (with_reducible refine (spec_l01Has.calls k1 _ _ l1 x6_1 false _ ?side1 ?side2 A6.out).mono ?_); (case side1 => repeat (first | exact (Kd.C_below HR1.out HB.out) | (with_reducible refine Kd.C_alloc ?_ _) | (with_reducible refine Kd.C_drewN ?_ _) | (with_reducible refine Kd.C_drew ?_))); (case side2 => exact HC1.out); rintro e w' ⟨rfl, ⟨nd, rfl⟩⟩; refine ⟨_, rfl, ?_⟩; have p997 : 0 ≤ (x6_1 : Int) := of_decide_eq_true za; have q997 : x6_1 < (l0.length : Int) := of_decide_eq_true za; obtain ⟨ad997, e997, hx997_0, hx997_1⟩ := at_T59 HR0.out x6_1 p997 q997; cases e997; replace hx997_0 := (HB.out.cell (World.block_lt_of_cell? w _ hx997_0)).trans hx997_0; replace hx997_1 := (HB.out.cell (World.block_lt_of_cell? w _ hx997_1)).trans hx997_1; replace p997 := eq_true p997; replace q997 := eq_true q997) | ((with_reducible refine gate_builtin (b := .append) (xs := #[.tmp 18, .tmp 23]) rfl ?_); at_builtin; refine Kd.R_append k59 (w0 := w) w.heap.size rfl (.tmp 18) (.tmp 23) 43 59 (.agg #[(.int .i64 0), (.int .i64 0)]) 16 rfl Try.underlying43 info59 rfl (by decide) (by omega) u5 x5_1 (⟨(rd_T59 l0 x6_1).f0, (rd_T59 l0 x6_1).f1⟩ : S59) [.int .i64 ((rd_T59 l0 x6_1).f0), .int .i64 ((rd_T59 l0 x6_1).f1)] (fun _ => True) (fun _ => False) rfl rfl ?aP (fun _ hk => hk.elim) ?aF ?aO ?aB ?aS ?aL ?_; (case aP => exact k59_mkM _ _ _ (⟨(rd_T59 l0 x6_1).f0, (rd_T59 l0 x6_1).f1⟩ : S59)); (case aB => exact zb); (case aF => exact (fun _ _ => trivial)); (case aO => exact (mR_ HO_5.out)); (case aS => exact (below_size zb)); (case aL => have := LMc9.out; omega); intro v999 w10 ho hb hg hat; rw [← Ny998.out] at ho; have n0_ := aM (hb); have n1_ := aM (ho); clear HB; clear HO_5; have HB := n0_; have HO1000 := n1_; clear n0_ n1_; clear ho hb hg hat))
   go_roundg k1
   case measure => have := HK1.out; omega
   case rel => exact ⟨(y998), (wrap64 (x6_1 + 1)), zr, H', ⟨by have := HK1.out; omega⟩, ⟨mR_ HO1000.out⟩, ⟨zb⟩⟩
def impl_IsRegion.f (k : Nat) (l0 : List (S59)) : Option (Bool) := (impl_IsShape.f k l0).bind fun t1008 => (if t1008 = true then ((impl_corner.f k l0).bind fun bt1009 => (if (!(bt1009.1 == 0) || (!(bt1009.2 == 0))) = true then (some false) else ((impl_reach.f k l0).bind fun bt1011 => (if bt1011.1 < 20 then (some (decide (bt1011.2 < 20))) else (some false))))) else (some false))
theorem impl_IsRegion.calls (k : Nat) (A0 : Option Addr) (c0 : Nat) (l0 : List (S59)) (r : Bool) (w : World) (hr0 : Kd.C k59 w A0 l0.length l0) (hc0 : l0.length ≤ c0) (h : impl_IsRegion.f k l0 = some r) :
  Calls Try.prog 62 #[.slice A0 l0.length c0] w fun e w' => e = .returned (.bool r) ∧ Below w.heap.size w w' := by
 have hu59 := Try.underlying59
 have HR0 := aM hr0
 have HC0 := aM hc0
 clear hr0 hc0
 have HB := aM (Below.refl w.heap.size w)
 have H : ((impl_IsShape.f k l0).bind fun t1008 => (if t1008 = true then ((impl_corner.f k l0).bind fun bt1009 => (if (!(bt1009.1 == 0) || (!(bt1009.2 == 0))) = true then (some false) else ((impl_reach.f k l0).bind fun bt1011 => (if bt1011.1 < 20 then (some (decide (bt1011.2 < 20))) else (some false))))) else (some false))) = some r := h
 clear h
 replace H := Option.bind_eq_some_iff.mp H
 obtain ⟨t1008, A20, H⟩ := H
 replace H : (if t1008 = true then ((impl_corner.f k l0).bind fun bt1009 => (if (!(bt1009.1 == 0) || (!(bt1009.2 == 0))) = true then (some false) else ((impl_reach.f k l0).bind fun bt1011 => (if bt1011.1 < 20 then (some (decide (bt1011.2 < 20))) else (some false))))) else (some false)) = some r := H
 have A2 := aM A20
 clear A20
 by_cases c3 : t1008 = true
 rotate_left
 ·replace c3 := Bool.eq_false_iff.mpr c3
  subst c3
  have H1 : (some false) = some r := by rw [if_neg (show ¬ (false = true) by decide)] at H; exact H
  clear H
  have H := H1
  clear H1
  obtain rfl := Option.some.inj H
  go_enter Try.func62, Try.ntmps62
  go_wp2_with (first | ((with_reducible refine gate_callee (f := 90) rfl ?_); refine goesL_ (some 5) rfl rfl Try.func90 (by kernel_rfl) rfl #[.slice A0 l0.length c0] rfl zm ?_; (with_reducible refine (impl_IsShape.calls k _ _ l0 false _ ?side1 ?side2 A2.out).mono ?_); (case side1 => repeat (first | exact HR0.out | (with_reducible refine Kd.C_alloc ?_ _) | (with_reducible refine Kd.C_drewN ?_ _) | (with_reducible refine Kd.C_drew ?_))); (case side2 => exact HC0.out); rintro e w20 ⟨rfl, hb⟩; refine ⟨_, rfl, ?_⟩; have n0_ := aM (below_step zb hb); clear HB; have HB := n0_; clear n0_; (try clear hb); (try clear hb2); (try clear hk); (try clear hi)))
  go_ret
  exact ⟨zw, zb⟩
 subst c3
 have H1 : ((impl_corner.f k l0).bind fun bt1009 => (if (!(bt1009.1 == 0) || (!(bt1009.2 == 0))) = true then (some false) else ((impl_reach.f k l0).bind fun bt1011 => (if bt1011.1 < 20 then (some (decide (bt1011.2 < 20))) else (some false))))) = some r := by rw [if_pos rfl] at H; exact H
 clear H
 have H := H1
 clear H1
 replace H := Option.bind_eq_some_iff.mp H
 obtain ⟨⟨t1009, t1010⟩, A40, H⟩ := H
 replace H : (if (!(t1009 == 0) || (!(t1010 == 0))) = true then (some false) else ((impl_reach.f k l0).bind fun bt1011 => (if bt1011.1 < 20 then (some (decide (bt1011.2 < 20))) else (some false)))) = some r := H
 have A4 := aM A40
 clear A40
 by_cases c5 : (!(t1009 == 0) || (!(t1010 == 0))) = true
 ·rw [if_pos c5] at H
  have c5b0 : (!(t1009 == 0) || (!(t1010 == 0))) = true := c5
  clear c5
  obtain rfl := Option.some.inj H
  go_enter Try.func62, Try.ntmps62
  go_wp2_with (first | ((with_reducible refine gate_callee (f := 90) rfl ?_); refine goesL_ (some 5) rfl rfl Try.func90 (by kernel_rfl) rfl #[.slice A0 l0.length c0] rfl zm ?_; (with_reducible refine (impl_IsShape.calls k _ _ l0 true _ ?side1 ?side2 A2.out).mono ?_); (case side1 => repeat (first | exact HR0.out | (with_reducible refine Kd.C_alloc ?_ _) | (with_reducible refine Kd.C_drewN ?_ _) | (with_reducible refine Kd.C_drew ?_))); (case side2 => exact HC0.out); rintro e w6 ⟨rfl, hb⟩; refine ⟨_, rfl, ?_⟩; have n0_ := aM (below_step zb hb); clear HB; have HB := n0_; clear n0_; (try clear hb); (try clear hb2); (try clear hk); (try clear hi)) | (go_at_call 123; (with_reducible refine (impl_corner.calls k _ _ l0 t1009 t1010 _ ?side1 ?side2 A4.out).mono ?_); (case side1 => repeat (first | exact (Kd.C_below HR0.out HB.out) | (with_reducible refine Kd.C_alloc ?_ _) | (with_reducible refine Kd.C_drewN ?_ _) | (with_reducible refine Kd.C_drew ?_))); (case side2 => exact HC0.out); rintro e w7 ⟨rfl, hb⟩; have n0_ := aM (below_step zb hb); clear HB; have HB := n0_; clear n0_; (try clear hb); (try clear hb2); (try clear hk); (try clear hi)))
  go_ret
  exact ⟨zw, zb⟩
 rw [if_neg c5] at H
 have c5b0 : (!(t1009 == 0) || (!(t1010 == 0))) = false := by simpa using c5
 clear c5
 replace H := Option.bind_eq_some_iff.mp H
 obtain ⟨⟨t1011, t1012⟩, A80, H⟩ := H
 replace H : (if t1011 < 20 then (some (decide (t1012 < 20))) else (some false)) = some r := H
 have A8 := aM A80
 clear A80
 by_cases c9 : t1011 < 20
 ·rw [if_pos c9] at H
  have c9b0 : decide (t1011 < 20) = true := decide_eq_true c9
  clear c9
  obtain rfl := Option.some.inj H
  go_enter Try.func62, Try.ntmps62
  go_wp2_with (first | ((with_reducible refine gate_callee (f := 90) rfl ?_); refine goesL_ (some 5) rfl rfl Try.func90 (by kernel_rfl) rfl #[.slice A0 l0.length c0] rfl zm ?_; (with_reducible refine (impl_IsShape.calls k _ _ l0 true _ ?side1 ?side2 A2.out).mono ?_); (case side1 => repeat (first | exact HR0.out | (with_reducible refine Kd.C_alloc ?_ _) | (with_reducible refine Kd.C_drewN ?_ _) | (with_reducible refine Kd.C_drew ?_))); (case side2 => exact HC0.out); rintro e w10 ⟨rfl, hb⟩; refine ⟨_, rfl, ?_⟩; have n0_ := aM (below_step zb hb); clear HB; have HB := n0_; clear n0_; (try clear hb); (try clear hb2); (try clear hk); (try clear hi)) | (go_at_call 123; (with_reducible refine (impl_corner.calls k _ _ l0 t1009 t1010 _ ?side1 ?side2 A4.out).mono ?_); (case side1 => repeat (first | exact (Kd.C_below HR0.out HB.out) | (with_reducible refine Kd.C_alloc ?_ _) | (with_reducible refine Kd.C_drewN ?_ _) | (with_reducible refine Kd.C_drew ?_))); (case side2 => exact HC0.out); rintro e w11 ⟨rfl, hb⟩; have n0_ := aM (below_step zb hb); clear HB; have HB := n0_; clear n0_; (try clear hb); (try clear hb2); (try clear hk); (try clear hi)) | ((with_reducible refine gate_callee (f := 124) rfl ?_); refine goesL_ (some 14) rfl rfl Try.func124 (by kernel_rfl) rfl #[.slice A0 l0.length c0] rfl zm ?_; (with_reducible refine (impl_reach.calls k _ _ l0 t1011 t1012 _ ?side1 ?side2 A8.out).mono ?_); (case side1 => repeat (first | exact (Kd.C_below HR0.out HB.out) | (with_reducible refine Kd.C_alloc ?_ _) | (with_reducible refine Kd.C_drewN ?_ _) | (with_reducible refine Kd.C_drew ?_))); (case side2 => exact HC0.out); rintro e w12 ⟨rfl, hb⟩; refine ⟨_, rfl, ?_⟩; have n0_ := aM (below_step zb hb); clear HB; have HB := n0_; clear n0_; (try clear hb); (try clear hb2); (try clear hk); (try clear hi)) | ((with_reducible refine gate_dst (N := 3) rfl ?_); refine box_event ?hg (N := 3) ?hd (cs := #[.int .i64 0, .int .i64 0]) (t := 59) ?hr ?_; (case hd => rfl); (case hg => rfl); (case hr => first | (go_simp; done) | (go_simp; rfl)); intro gb1013 hg w13 hbox hb; have n0_ := aM (below_step zb hb); have n1_ := aM (hbox); have n2_ := aM ((ze : w.heap.size ≤ gb1013)); have n3_ := aM ((ze : w.heap.size ≤ gb1013)); clear HB; have HB := n0_; have BK1013 := n1_; have GW1013 := n2_; have GE1013 := n3_; clear n0_ n1_ n2_ n3_; clear hb hbox hg; have hcz14_0 : w13.cell? ⟨gb1013, 0, none⟩ = some (.int .i64 0) := (blk_cell BK1013.out 0).trans rfl; have hcz14_1 : w13.cell? ⟨gb1013, 1, none⟩ = some (.int .i64 0) := (blk_cell BK1013.out 1).trans rfl; have hfz14_0 := blk_frozen BK1013.out 0; have hfz14_1 := blk_frozen BK1013.out 1))
  go_ret
  exact ⟨zw, zs GE1013.out⟩
 rw [if_neg c9] at H
 have c9b0 : decide (t1011 < 20) = false := decide_eq_false c9
 clear c9
 obtain rfl := Option.some.inj H
 go_enter Try.func62, Try.ntmps62
 go_wp2_with (first | ((with_reducible refine gate_callee (f := 90) rfl ?_); refine goesL_ (some 5) rfl rfl Try.func90 (by kernel_rfl) rfl #[.slice A0 l0.length c0] rfl zm ?_; (with_reducible refine (impl_IsShape.calls k _ _ l0 true _ ?side1 ?side2 A2.out).mono ?_); (case side1 => repeat (first | exact HR0.out | (with_reducible refine Kd.C_alloc ?_ _) | (with_reducible refine Kd.C_drewN ?_ _) | (with_reducible refine Kd.C_drew ?_))); (case side2 => exact HC0.out); rintro e w15 ⟨rfl, hb⟩; refine ⟨_, rfl, ?_⟩; have n0_ := aM (below_step zb hb); clear HB; have HB := n0_; clear n0_; (try clear hb); (try clear hb2); (try clear hk); (try clear hi)) | (go_at_call 123; (with_reducible refine (impl_corner.calls k _ _ l0 t1009 t1010 _ ?side1 ?side2 A4.out).mono ?_); (case side1 => repeat (first | exact (Kd.C_below HR0.out HB.out) | (with_reducible refine Kd.C_alloc ?_ _) | (with_reducible refine Kd.C_drewN ?_ _) | (with_reducible refine Kd.C_drew ?_))); (case side2 => exact HC0.out); rintro e w16 ⟨rfl, hb⟩; have n0_ := aM (below_step zb hb); clear HB; have HB := n0_; clear n0_; (try clear hb); (try clear hb2); (try clear hk); (try clear hi)) | ((with_reducible refine gate_callee (f := 124) rfl ?_); refine goesL_ (some 14) rfl rfl Try.func124 (by kernel_rfl) rfl #[.slice A0 l0.length c0] rfl zm ?_; (with_reducible refine (impl_reach.calls k _ _ l0 t1011 t1012 _ ?side1 ?side2 A8.out).mono ?_); (case side1 => repeat (first | exact (Kd.C_below HR0.out HB.out) | (with_reducible refine Kd.C_alloc ?_ _) | (with_reducible refine Kd.C_drewN ?_ _) | (with_reducible refine Kd.C_drew ?_))); (case side2 => exact HC0.out); rintro e w17 ⟨rfl, hb⟩; refine ⟨_, rfl, ?_⟩; have n0_ := aM (below_step zb hb); clear HB; have HB := n0_; clear n0_; (try clear hb); (try clear hb2); (try clear hk); (try clear hi)) | ((with_reducible refine gate_dst (N := 3) rfl ?_); refine box_event ?hg (N := 3) ?hd (cs := #[.int .i64 0, .int .i64 0]) (t := 59) ?hr ?_; (case hd => rfl); (case hg => rfl); (case hr => first | (go_simp; done) | (go_simp; rfl)); intro gb1013 hg w18 hbox hb; have n0_ := aM (below_step zb hb); have n1_ := aM (hbox); have n2_ := aM ((ze : w.heap.size ≤ gb1013)); have n3_ := aM ((ze : w.heap.size ≤ gb1013)); clear HB; have HB := n0_; have BK1013 := n1_; have GW1013 := n2_; have GE1013 := n3_; clear n0_ n1_ n2_ n3_; clear hb hbox hg; have hcz19_0 : w18.cell? ⟨gb1013, 0, none⟩ = some (.int .i64 0) := (blk_cell BK1013.out 0).trans rfl; have hcz19_1 : w18.cell? ⟨gb1013, 1, none⟩ = some (.int .i64 0) := (blk_cell BK1013.out 1).trans rfl; have hfz19_0 := blk_frozen BK1013.out 0; have hfz19_1 := blk_frozen BK1013.out 1))
 go_ret
 exact ⟨zw, zs GE1013.out⟩
def impl_isIncreasing.l0 : Nat → List Int → Int → List Int → Int → Int → Option (Bool)
 | 0, _, _, _, _, _ => none
 | k + 1, x0, x1, x7, x8, x9 => if x9 < x8 then (if 0 ≤ x9 then (if x9 < (x7.length : Int) then ((impl_within.f (rd x7 x9) 0 (wrap64 (x1 - 1))).bind fun t1015 => (if t1015 = true then (if x9 > 0 then (if 0 ≤ (wrap64 (x9 - 1)) then (if (wrap64 (x9 - 1)) < (x0.length : Int) then (if (rd x7 x9) ≤ (rd x0 (wrap64 (x9 - 1))) then (some false) else (impl_isIncreasing.l0 k x0 x1 x7 x8 (wrap64 (x9 + 1)))) else (none)) else (none)) else (impl_isIncreasing.l0 k x0 x1 x7 x8 (wrap64 (x9 + 1)))) else (some false))) else (none)) else (none)) else (some true)
def impl_isIncreasing.f (k : Nat) (l0 : List Int) (a1 : Int) : Option (Bool) := impl_isIncreasing.l0 k l0 a1 l0 (l0.length : Int) 0
theorem impl_isIncreasing.calls (k : Nat) (A0 : Option Addr) (c0 : Nat) (l0 : List Int) (a1 : Int) (r : Bool) (w : World) (hr0 : Kd.C (Kd.int .i64) w A0 l0.length l0) (hc0 : l0.length ≤ c0) (h : impl_isIncreasing.f k l0 a1 = some r) :
  Calls Try.prog 148 #[.slice A0 l0.length c0, .int .i64 a1] w fun e w' => e = .returned (.bool r) ∧ Drawn0 w w' := by
 have HR0 := aM hr0
 have HC0 := aM hc0
 clear hr0 hc0
 have H : (impl_isIncreasing.l0 k l0 a1 l0 (l0.length : Int) 0) = some r := h
 clear h
 have H' := aM H
 clear H
 go_enter Try.func148, Try.ntmps148
 go_wp2
 go_loopg [9] k (fun kq v9 w' => ∃ (x9_1 : Int), v9 = .int .i64 x9_1 ∧ Aside0 (impl_isIncreasing.l0 kq l0 a1 l0 (l0.length : Int) x9_1 = some r) ∧ Aside0 (kq ≤ k) ∧ Drawn0 w w')
 case atStart => exact ⟨(0), zr, H', ⟨Nat.le_refl _⟩, by repeat (first | exact Drawn0.refl _ | apply Drawn0.step)⟩
 case round =>
  clear H'
  try clear c1
  try clear p2
  obtain ⟨x9_1, rfl, HA, HK1, ⟨m1, rfl⟩⟩ := hrel
  cases gk with
  | zero => exact absurd HA.out (by simp [impl_isIncreasing.l0])
  | succ k1 =>
   have H := HA.out
   clear HA
   simp only [impl_isIncreasing.l0] at H
   by_cases c3 : x9_1 < (l0.length : Int)
   rotate_left
   ·rw [if_neg c3] at H
    have c3b0 : decide (x9_1 < (l0.length : Int)) = false := decide_eq_false c3
    clear c3
    obtain rfl := Option.some.inj H
    go_wp2
    go_ret
    exact ⟨by first | rfl | (simp; done) | (simp [*]; done), by repeat (first | exact Drawn0.refl _ | apply Drawn0.step)⟩
   rw [if_pos c3] at H
   have c3b0 : decide (x9_1 < (l0.length : Int)) = true := decide_eq_true c3
   clear c3
   by_cases c4 : 0 ≤ x9_1
   rotate_left
   ·rw [if_neg c4] at H
    exact absurd H (by simp)
   rw [if_pos c4] at H
   have c4b0 : decide (0 ≤ x9_1) = true := decide_eq_true c4
   clear c4
   by_cases c5 : x9_1 < (l0.length : Int)
   rotate_left
   ·rw [if_neg c5] at H
    exact absurd H (by simp)
   rw [if_pos c5] at H
   have c5b0 : decide (x9_1 < (l0.length : Int)) = true := decide_eq_true c5
   clear c5
   replace H := Option.bind_eq_some_iff.mp H
   obtain ⟨t1015, A60, H⟩ := H
   replace H : (if t1015 = true then (if x9_1 > 0 then (if 0 ≤ (wrap64 (x9_1 - 1)) then (if (wrap64 (x9_1 - 1)) < (l0.length : Int) then (if (rd l0 x9_1) ≤ (rd l0 (wrap64 (x9_1 - 1))) then (some false) else (impl_isIncreasing.l0 k1 l0 a1 l0 (l0.length : Int) (wrap64 (x9_1 + 1)))) else (none)) else (none)) else (impl_isIncreasing.l0 k1 l0 a1 l0 (l0.length : Int) (wrap64 (x9_1 + 1)))) else (some false)) = some r := H
   have A6 := aM A60
   clear A60
   by_cases c7 : t1015 = true
   rotate_left
   ·replace c7 := Bool.eq_false_iff.mpr c7
    subst c7
    have H1 : (some false) = some r := by rw [if_neg (show ¬ (false = true) by decide)] at H; exact H
    clear H
    have H := H1
    clear H1
    obtain rfl := Option.some.inj H
    have p1014 : 0 ≤ (x9_1 : Int) := of_decide_eq_true za
    have q1014 : x9_1 < (l0.length : Int) := of_decide_eq_true za
    obtain ⟨ad1014, e1014, hx1014_0⟩ := Kd.at_int HR0.out x9_1 p1014 q1014
    cases e1014
    replace p1014 := eq_true p1014
    replace q1014 := eq_true q1014
    go_wp2_with (first | ((with_reducible refine gate_callee (f := 128) rfl ?_); refine goesL_ (some 17) rfl rfl Try.func128 (by kernel_rfl) rfl #[.int .i64 (rd l0 x9_1), .int .i64 0, .int .i64 (wrap64 (a1 - 1))] rfl zm ?_; (with_reducible refine (impl_within.calls (rd l0 x9_1) 0 (wrap64 (a1 - 1)) false _ A6.out).mono ?_); rintro e w' ⟨rfl, ⟨nd, rfl⟩⟩; refine ⟨_, rfl, ?_⟩))
    go_ret
    exact ⟨by first | rfl | (simp; done) | (simp [*]; done), by repeat (first | exact Drawn0.refl _ | apply Drawn0.step)⟩
   subst c7
   have H1 : (if x9_1 > 0 then (if 0 ≤ (wrap64 (x9_1 - 1)) then (if (wrap64 (x9_1 - 1)) < (l0.length : Int) then (if (rd l0 x9_1) ≤ (rd l0 (wrap64 (x9_1 - 1))) then (some false) else (impl_isIncreasing.l0 k1 l0 a1 l0 (l0.length : Int) (wrap64 (x9_1 + 1)))) else (none)) else (none)) else (impl_isIncreasing.l0 k1 l0 a1 l0 (l0.length : Int) (wrap64 (x9_1 + 1)))) = some r := by rw [if_pos rfl] at H; exact H
   clear H
   have H := H1
   clear H1
   by_cases c8 : x9_1 > 0
   rotate_left
   ·rw [if_neg c8] at H
    have c8b0 : decide (0 < x9_1) = false := decide_eq_false c8
    clear c8
    have H' := aM H
    clear H
    have p1014 : 0 ≤ (x9_1 : Int) := of_decide_eq_true za
    have q1014 : x9_1 < (l0.length : Int) := of_decide_eq_true za
    obtain ⟨ad1014, e1014, hx1014_0⟩ := Kd.at_int HR0.out x9_1 p1014 q1014
    cases e1014
    replace p1014 := eq_true p1014
    replace q1014 := eq_true q1014
    go_wp2_with (first | ((with_reducible refine gate_callee (f := 128) rfl ?_); refine goesL_ (some 17) rfl rfl Try.func128 (by kernel_rfl) rfl #[.int .i64 (rd l0 x9_1), .int .i64 0, .int .i64 (wrap64 (a1 - 1))] rfl zm ?_; (with_reducible refine (impl_within.calls (rd l0 x9_1) 0 (wrap64 (a1 - 1)) true _ A6.out).mono ?_); rintro e w' ⟨rfl, ⟨nd, rfl⟩⟩; refine ⟨_, rfl, ?_⟩))
    go_roundg k1
    case measure => have := HK1.out; omega
    case rel => exact ⟨(wrap64 (x9_1 + 1)), zr, H', ⟨by have := HK1.out; omega⟩, by repeat (first | exact Drawn0.refl _ | apply Drawn0.step)⟩
   rw [if_pos c8] at H
   have c8b0 : decide (0 < x9_1) = true := decide_eq_true c8
   clear c8
   obtain ⟨ji9, hji9⟩ : ∃ j_ : Int, (wrap64 (x9_1 - 1)) = j_ := ⟨_, rfl⟩
   replace H : (if 0 ≤ (ji9) then (if (ji9) < (l0.length : Int) then (if (rd l0 x9_1) ≤ (rd l0 (ji9)) then (some false) else (impl_isIncreasing.l0 k1 l0 a1 l0 (l0.length : Int) (wrap64 (x9_1 + 1)))) else (none)) else (none)) = some r := by first | (rw [hji9] at H; exact H) | (simp only [hji9] at H ⊢; exact H)
   (try rw [hji9] at A6)
   have hji9w : (IntKind.i64.wrap (x9_1 - 1)) = ji9 := (i64_w _).trans hji9
   by_cases c10 : 0 ≤ (ji9)
   rotate_left
   ·rw [if_neg c10] at H
    exact absurd H (by simp)
   rw [if_pos c10] at H
   have c10b0 : decide (0 ≤ (ji9)) = true := decide_eq_true c10
   clear c10
   by_cases c11 : (ji9) < (l0.length : Int)
   rotate_left
   ·rw [if_neg c11] at H
    exact absurd H (by simp)
   rw [if_pos c11] at H
   have c11b0 : decide ((ji9) < (l0.length : Int)) = true := decide_eq_true c11
   clear c11
   by_cases c12 : (rd l0 x9_1) ≤ (rd l0 (ji9))
   ·rw [if_pos c12] at H
    have c12b0 : decide ((rd l0 x9_1) ≤ (rd l0 (ji9))) = true := decide_eq_true c12
    clear c12
    obtain rfl := Option.some.inj H
    have p1014 : 0 ≤ (x9_1 : Int) := of_decide_eq_true za
    have q1014 : x9_1 < (l0.length : Int) := of_decide_eq_true za
    obtain ⟨ad1014, e1014, hx1014_0⟩ := Kd.at_int HR0.out x9_1 p1014 q1014
    cases e1014
    replace p1014 := eq_true p1014
    replace q1014 := eq_true q1014
    go_wp2_with (first | ((with_reducible refine gate_callee (f := 128) rfl ?_); refine goesL_ (some 17) rfl rfl Try.func128 (by kernel_rfl) rfl #[.int .i64 (rd l0 x9_1), .int .i64 0, .int .i64 (wrap64 (a1 - 1))] rfl zm ?_; (with_reducible refine (impl_within.calls (rd l0 x9_1) 0 (wrap64 (a1 - 1)) true _ A6.out).mono ?_); rintro e w' ⟨rfl, ⟨nd, rfl⟩⟩; refine ⟨_, rfl, ?_⟩; have p1016 : 0 ≤ ((ji9) : Int) := of_decide_eq_true za; have q1016 : (ji9) < (l0.length : Int) := of_decide_eq_true za; obtain ⟨ad1016, e1016, hx1016_0⟩ := Kd.at_int HR0.out (ji9) p1016 q1016; obtain rfl : ad1014 = ad1016 := (by injection e1016); replace p1016 := eq_true p1016; replace q1016 := eq_true q1016))
    go_ret
    exact ⟨by first | rfl | (simp; done) | (simp only [← hji9] <;> (first | rfl | simp)) | (simp [*]; done), by repeat (first | exact Drawn0.refl _ | apply Drawn0.step)⟩
   rw [if_neg c12] at H
   have c12b0 : decide ((rd l0 x9_1) ≤ (rd l0 (ji9))) = false := decide_eq_false c12
   clear c12
   have H' := aM H
   clear H
   have p1014 : 0 ≤ (x9_1 : Int) := of_decide_eq_true za
   have q1014 : x9_1 < (l0.length : Int) := of_decide_eq_true za
   obtain ⟨ad1014, e1014, hx1014_0⟩ := Kd.at_int HR0.out x9_1 p1014 q1014
   cases e1014
   replace p1014 := eq_true p1014
   replace q1014 := eq_true q1014
   go_wp2_with (first | ((with_reducible refine gate_callee (f := 128) rfl ?_); refine goesL_ (some 17) rfl rfl Try.func128 (by kernel_rfl) rfl #[.int .i64 (rd l0 x9_1), .int .i64 0, .int .i64 (wrap64 (a1 - 1))] rfl zm ?_; (with_reducible refine (impl_within.calls (rd l0 x9_1) 0 (wrap64 (a1 - 1)) true _ A6.out).mono ?_); rintro e w' ⟨rfl, ⟨nd, rfl⟩⟩; refine ⟨_, rfl, ?_⟩; have p1016 : 0 ≤ ((ji9) : Int) := of_decide_eq_true za; have q1016 : (ji9) < (l0.length : Int) := of_decide_eq_true za; obtain ⟨ad1016, e1016, hx1016_0⟩ := Kd.at_int HR0.out (ji9) p1016 q1016; obtain rfl : ad1014 = ad1016 := (by injection e1016); replace p1016 := eq_true p1016; replace q1016 := eq_true q1016))
   go_roundg k1
   case measure => have := HK1.out; omega
   case rel => exact ⟨(wrap64 (x9_1 + 1)), zr, H', ⟨by have := HK1.out; omega⟩, by repeat (first | exact Drawn0.refl _ | apply Drawn0.step)⟩
def impl_setCode.f (k : Nat) (l0 : List (S59)) (l1 : List Int) : Option (Int) := (impl_IsRegion.f k l0).bind fun t1017 => (if t1017 = true then ((impl_isIncreasing.f k l1 (l0.length : Int)).bind fun t1018 => (if t1018 = true then (some 0) else (some 2))) else (some 1))
theorem impl_setCode.calls (k : Nat) (A0 : Option Addr) (c0 : Nat) (l0 : List (S59)) (A1 : Option Addr) (c1 : Nat) (l1 : List Int) (r : Int) (w : World) (hr0 : Kd.C k59 w A0 l0.length l0) (hc0 : l0.length ≤ c0) (hr1 : Kd.C (Kd.int .i64) w A1 l1.length l1) (hc1 : l1.length ≤ c1) (h : impl_setCode.f k l0 l1 = some r) :
  Calls Try.prog 107 #[.slice A0 l0.length c0, .slice A1 l1.length c1] w fun e w' => e = .returned (.int .i64 r) ∧ Below w.heap.size w w' := by
 have HR0 := aM hr0
 have HC0 := aM hc0
 clear hr0 hc0
 have HR1 := aM hr1
 have HC1 := aM hc1
 clear hr1 hc1
 have HB := aM (Below.refl w.heap.size w)
 have H : ((impl_IsRegion.f k l0).bind fun t1017 => (if t1017 = true then ((impl_isIncreasing.f k l1 (l0.length : Int)).bind fun t1018 => (if t1018 = true then (some 0) else (some 2))) else (some 1))) = some r := h
 clear h
 replace H := Option.bind_eq_some_iff.mp H
 obtain ⟨t1017, A30, H⟩ := H
 replace H : (if t1017 = true then ((impl_isIncreasing.f k l1 (l0.length : Int)).bind fun t1018 => (if t1018 = true then (some 0) else (some 2))) else (some 1)) = some r := H
 have A3 := aM A30
 clear A30
 by_cases c4 : t1017 = true
 rotate_left
 ·replace c4 := Bool.eq_false_iff.mpr c4
  subst c4
  have H1 : (some 1) = some r := by rw [if_neg (show ¬ (false = true) by decide)] at H; exact H
  clear H
  have H := H1
  clear H1
  obtain rfl := Option.some.inj H
  go_enter Try.func107, Try.ntmps107
  go_wp2_with (first | ((with_reducible refine gate_callee (f := 62) rfl ?_); refine goesL_ (some 6) rfl rfl Try.func62 (by kernel_rfl) rfl #[.slice A0 l0.length c0] rfl zm ?_; (with_reducible refine (impl_IsRegion.calls k _ _ l0 false _ ?side1 ?side2 A3.out).mono ?_); (case side1 => repeat (first | exact HR0.out | (with_reducible refine Kd.C_alloc ?_ _) | (with_reducible refine Kd.C_drewN ?_ _) | (with_reducible refine Kd.C_drew ?_))); (case side2 => exact HC0.out); rintro e w9 ⟨rfl, hb⟩; refine ⟨_, rfl, ?_⟩; have n0_ := aM (below_step zb hb); clear HB; have HB := n0_; clear n0_; (try clear hb); (try clear hb2); (try clear hk); (try clear hi)))
  go_ret
  exact ⟨zw, zb⟩
 subst c4
 have H1 : ((impl_isIncreasing.f k l1 (l0.length : Int)).bind fun t1018 => (if t1018 = true then (some 0) else (some 2))) = some r := by rw [if_pos rfl] at H; exact H
 clear H
 have H := H1
 clear H1
 replace H := Option.bind_eq_some_iff.mp H
 obtain ⟨t1018, A50, H⟩ := H
 replace H : (if t1018 = true then (some 0) else (some 2)) = some r := H
 have A5 := aM A50
 clear A50
 by_cases c6 : t1018 = true
 ·subst c6
  have H1 : (some 0) = some r := by rw [if_pos rfl] at H; exact H
  clear H
  have H := H1
  clear H1
  obtain rfl := Option.some.inj H
  go_enter Try.func107, Try.ntmps107
  go_wp2_with (first | ((with_reducible refine gate_callee (f := 62) rfl ?_); refine goesL_ (some 6) rfl rfl Try.func62 (by kernel_rfl) rfl #[.slice A0 l0.length c0] rfl zm ?_; (with_reducible refine (impl_IsRegion.calls k _ _ l0 true _ ?side1 ?side2 A3.out).mono ?_); (case side1 => repeat (first | exact HR0.out | (with_reducible refine Kd.C_alloc ?_ _) | (with_reducible refine Kd.C_drewN ?_ _) | (with_reducible refine Kd.C_drew ?_))); (case side2 => exact HC0.out); rintro e w7 ⟨rfl, hb⟩; refine ⟨_, rfl, ?_⟩; have n0_ := aM (below_step zb hb); clear HB; have HB := n0_; clear n0_; (try clear hb); (try clear hb2); (try clear hk); (try clear hi)) | ((with_reducible refine gate_callee (f := 148) rfl ?_); refine goesL_ (some 11) rfl rfl Try.func148 (by kernel_rfl) rfl #[.slice A1 l1.length c1, .int .i64 (l0.length : Int)] rfl zm ?_; (with_reducible refine (impl_isIncreasing.calls k _ _ l1 (l0.length : Int) true _ ?side1 ?side2 A5.out).mono ?_); (case side1 => repeat (first | exact (Kd.C_below HR1.out HB.out) | (with_reducible refine Kd.C_alloc ?_ _) | (with_reducible refine Kd.C_drewN ?_ _) | (with_reducible refine Kd.C_drew ?_))); (case side2 => exact HC1.out); rintro e w' ⟨rfl, ⟨nd, rfl⟩⟩; refine ⟨_, rfl, ?_⟩))
  go_ret
  exact ⟨zw, zb⟩
 replace c6 := Bool.eq_false_iff.mpr c6
 subst c6
 have H1 : (some 2) = some r := by rw [if_neg (show ¬ (false = true) by decide)] at H; exact H
 clear H
 have H := H1
 clear H1
 obtain rfl := Option.some.inj H
 go_enter Try.func107, Try.ntmps107
 go_wp2_with (first | ((with_reducible refine gate_callee (f := 62) rfl ?_); refine goesL_ (some 6) rfl rfl Try.func62 (by kernel_rfl) rfl #[.slice A0 l0.length c0] rfl zm ?_; (with_reducible refine (impl_IsRegion.calls k _ _ l0 true _ ?side1 ?side2 A3.out).mono ?_); (case side1 => repeat (first | exact HR0.out | (with_reducible refine Kd.C_alloc ?_ _) | (with_reducible refine Kd.C_drewN ?_ _) | (with_reducible refine Kd.C_drew ?_))); (case side2 => exact HC0.out); rintro e w8 ⟨rfl, hb⟩; refine ⟨_, rfl, ?_⟩; have n0_ := aM (below_step zb hb); clear HB; have HB := n0_; clear n0_; (try clear hb); (try clear hb2); (try clear hk); (try clear hi)) | ((with_reducible refine gate_callee (f := 148) rfl ?_); refine goesL_ (some 11) rfl rfl Try.func148 (by kernel_rfl) rfl #[.slice A1 l1.length c1, .int .i64 (l0.length : Int)] rfl zm ?_; (with_reducible refine (impl_isIncreasing.calls k _ _ l1 (l0.length : Int) false _ ?side1 ?side2 A5.out).mono ?_); (case side1 => repeat (first | exact (Kd.C_below HR1.out HB.out) | (with_reducible refine Kd.C_alloc ?_ _) | (with_reducible refine Kd.C_drewN ?_ _) | (with_reducible refine Kd.C_drew ?_))); (case side2 => exact HC1.out); rintro e w' ⟨rfl, ⟨nd, rfl⟩⟩; refine ⟨_, rfl, ?_⟩))
 go_ret
 exact ⟨zw, zb⟩
def impl_without.l0 : Nat → List Int → List (S59) → List (S59) → Int → Int → Option ((List (S59)))
 | 0, _, _, _, _, _ => none
 | k + 1, x1, x5, x9, x10, x11 => if x11 < x10 then (if 0 ≤ x11 then (if x11 < (x9.length : Int) then ((slices_Contains_int64_int64.f k x1 x11).bind fun t1024 => (if t1024 = true then (impl_without.l0 k x1 x5 x9 x10 (wrap64 (x11 + 1))) else (if x5.length < 8796093022208 then (impl_without.l0 k x1 (x5 ++ [(⟨(rd_T59 x9 x11).f0, (rd_T59 x9 x11).f1⟩ : S59)]) x9 x10 (wrap64 (x11 + 1))) else (none)))) else (none)) else (none)) else (some x5)
def impl_without.f (k : Nat) (l0 : List (S59)) (l1 : List Int) : Option ((List (S59))) := impl_without.l0 k l1 (([] : List (S59))) l0 (l0.length : Int) 0
theorem impl_without.calls (k : Nat) (A0 : Option Addr) (c0 : Nat) (l0 : List (S59)) (A1 : Option Addr) (c1 : Nat) (l1 : List Int) (r : List (S59)) (w : World) (hr0 : Kd.C k59 w A0 l0.length l0) (hc0 : l0.length ≤ c0) (hr1 : Kd.C (Kd.int .i64) w A1 l1.length l1) (hc1 : l1.length ≤ c1) (h : impl_without.f k l0 l1 = some r) :
  Calls Try.prog 108 #[.slice A0 l0.length c0, .slice A1 l1.length c1] w fun e w' => ∃ v0_ : Value, e = .returned (v0_) ∧ Kd.R k59 59 w' w.heap.size (fun _ => True) v0_ r ∧ Below w.heap.size w w' := by
 have hu59 := Try.underlying59
 have HR0 := aM hr0
 have HC0 := aM hc0
 clear hr0 hc0
 have HR1 := aM hr1
 have HC1 := aM hc1
 clear hr1 hc1
 have HB := aM (Below.refl w.heap.size w)
 have H : (impl_without.l0 k l1 (([] : List (S59))) l0 (l0.length : Int) 0) = some r := h
 clear h
 obtain ⟨y1019, hy1019⟩ : ∃ y_ : List (S59), y_ = (([] : List (S59))) := ⟨_, rfl⟩
 replace H : (impl_without.l0 k l1 y1019 l0 (l0.length : Int) 0) = some r := zy H hy1019
 have Ny1019 := aM hy1019
 clear hy1019
 have H' := aM H
 clear H
 go_enter Try.func108, Try.ntmps108
 go_wp2_with (first | ((with_reducible refine gate_dst (N := 8) rfl ?_); refine Kd.R_lit k59 _ 59 ?hg (N := 8) ?hd (xs := ([] : List (S59))) (inner := []) (ok := fun _ => True) (okp := fun _ => True) ?hr ?hp (fun _ hk => hk) trivial (Below.refl _ _) (Nat.le_refl _) (by simp) ?_; (case hd => rfl); (case hg => rfl); (case hr => first | (go_simp; done) | (go_simp; rfl)); (case hp => exact (Reps.none _ _)); intro v1020 w3 ho4 hb hg_ hnew_; clear hg_ hnew_; (first | rw [← Ny1019.out] at ho4 | (simp only [Int.reduceToNat] at ho4; rw [← Ny1019.out] at ho4)); have n0_ := aM (Kd.R_lower ho4 (below_size zb)); have n1_ := aM (below_step zb hb); clear HB; have HO1021 := n0_; have HB := n1_; clear n0_ n1_; clear hb ho4))
 go_loopg [5, 11] k (fun kq v5 v11 w' => ∃ (x5_1 : List (S59)) (x11_1 : Int), v11 = .int .i64 x11_1 ∧ Aside0 (impl_without.l0 kq l1 x5_1 l0 (l0.length : Int) x11_1 = some r) ∧ Aside0 (kq ≤ k) ∧ Aside0 (Kd.R k59 59 w' w.heap.size (fun _ => True) v5 x5_1) ∧ Aside0 (Below w.heap.size w w'))
 case atStart => exact ⟨(y1019), (0), zr, H', ⟨Nat.le_refl _⟩, ⟨mR_ HO1021.out⟩, ⟨zb⟩⟩
 case round =>
  clear H'
  try clear c1
  try clear p2
  obtain ⟨x5_1, x11_1, rfl, HA, HK1, HO_5, HB⟩ := hrel
  cases gk with
  | zero => exact absurd HA.out (by simp [impl_without.l0])
  | succ k1 =>
   have H := HA.out
   clear HA
   simp only [impl_without.l0] at H
   by_cases c5 : x11_1 < (l0.length : Int)
   rotate_left
   ·rw [if_neg c5] at H
    have c5b0 : decide (x11_1 < (l0.length : Int)) = false := decide_eq_false c5
    clear c5
    obtain rfl := Option.some.inj H
    go_wp2
    go_ret
    exact ⟨_, zw, mR_ HO_5.out, zb⟩
   rw [if_pos c5] at H
   have c5b0 : decide (x11_1 < (l0.length : Int)) = true := decide_eq_true c5
   clear c5
   by_cases c6 : 0 ≤ x11_1
   rotate_left
   ·rw [if_neg c6] at H
    exact absurd H (by simp)
   rw [if_pos c6] at H
   have c6b0 : decide (0 ≤ x11_1) = true := decide_eq_true c6
   clear c6
   by_cases c7 : x11_1 < (l0.length : Int)
   rotate_left
   ·rw [if_neg c7] at H
    exact absurd H (by simp)
   rw [if_pos c7] at H
   have c7b0 : decide (x11_1 < (l0.length : Int)) = true := decide_eq_true c7
   clear c7
   replace H := Option.bind_eq_some_iff.mp H
   obtain ⟨t1024, A80, H⟩ := H
   replace H : (if t1024 = true then (impl_without.l0 k1 l1 x5_1 l0 (l0.length : Int) (wrap64 (x11_1 + 1))) else (if x5_1.length < 8796093022208 then (impl_without.l0 k1 l1 (x5_1 ++ [(⟨(rd_T59 l0 x11_1).f0, (rd_T59 l0 x11_1).f1⟩ : S59)]) l0 (l0.length : Int) (wrap64 (x11_1 + 1))) else (none))) = some r := H
   have A8 := aM A80
   clear A80
   by_cases c9 : t1024 = true
   ·subst c9
    have H1 : (impl_without.l0 k1 l1 x5_1 l0 (l0.length : Int) (wrap64 (x11_1 + 1))) = some r := by rw [if_pos rfl] at H; exact H
    clear H
    have H := H1
    clear H1
    have H' := aM H
    clear H
    have p1022 : 0 ≤ (x11_1 : Int) := of_decide_eq_true za
    have q1022 : x11_1 < (l0.length : Int) := of_decide_eq_true za
    obtain ⟨ad1022, e1022, hx1022_0, hx1022_1⟩ := at_T59 HR0.out x11_1 p1022 q1022
    cases e1022
    replace hx1022_0 := (HB.out.cell (World.block_lt_of_cell? w _ hx1022_0)).trans hx1022_0
    replace hx1022_1 := (HB.out.cell (World.block_lt_of_cell? w _ hx1022_1)).trans hx1022_1
    replace p1022 := eq_true p1022
    replace q1022 := eq_true q1022
    go_wp2_with (first | ((with_reducible refine gate_dst (N := 7) rfl ?_); refine box_event ?hg (N := 7) ?hd (cs := #[.int .i64 0, .int .i64 0]) (t := 59) ?hr ?_; (case hd => rfl); (case hg => rfl); (case hr => first | (go_simp; done) | (go_simp; rfl)); intro gb1023 hg w10 hbox hb; have n0_ := aM (Kd.R_below (Kd.R_elderB (mR_ HO_5.out) gb1023 (Nat.le_of_eq hg.symm)) hb); have n1_ := aM (below_step zb hb); have n2_ := aM (hbox); have n3_ := aM ((ze : w.heap.size ≤ gb1023)); have n4_ := aM ((ze : w.heap.size ≤ gb1023)); clear HO_5; clear HB; have HO_5 := n0_; have HB := n1_; have BK1023 := n2_; have GW1023 := n3_; have GE1023 := n4_; clear n0_ n1_ n2_ n3_ n4_; clear hb hbox hg; have hcz11_0 : w10.cell? ⟨gb1023, 0, none⟩ = some (.int .i64 0) := (blk_cell BK1023.out 0).trans rfl; have hcz11_1 : w10.cell? ⟨gb1023, 1, none⟩ = some (.int .i64 0) := (blk_cell BK1023.out 1).trans rfl; have hfz11_0 := blk_frozen BK1023.out 0; have hfz11_1 := blk_frozen BK1023.out 1) | ((with_reducible refine gate_callee (f := 75) rfl ?_); refine goesL_ (some 18) rfl rfl Try.func75 (by kernel_rfl) rfl #[.slice A1 l1.length c1, .int .i64 x11_1] rfl zm ?_; (with_reducible refine (slices_Contains_int64_int64.calls k1 _ _ l1 x11_1 true _ ?side1 ?side2 A8.out).mono ?_); (case side1 => exact Kd.C_below HR1.out (zs GE1023.out)); (case side2 => exact HC1.out); rintro e w' ⟨rfl, ⟨nd, rfl⟩⟩; refine ⟨_, rfl, ?_⟩))
    go_roundg k1
    case measure => have := HK1.out; omega
    case rel => exact ⟨(x5_1), (wrap64 (x11_1 + 1)), zr, H', ⟨by have := HK1.out; omega⟩, ⟨by (with_reducible repeat (first | apply Kd.R_alloc | apply Kd.R_drewN | apply Kd.R_drew)); exact Kd.R_mono (Kd.R_far (p := ⟨gb1023, 1, none⟩) (Kd.R_far (p := ⟨gb1023, 0, none⟩) (Kd.R_mono HO_5.out (fun k_ hk => (⟨hk, hk.2⟩ : _ ∧ k_ ≠ gb1023))) (fun _ hk => hk.2) (.int .i64 ((rd_T59 l0 x11_1).f0))) (fun _ hk => hk.2) (.int .i64 ((rd_T59 l0 x11_1).f1))) (fun _ hk => trivial)⟩, ⟨zs GE1023.out⟩⟩
   replace c9 := Bool.eq_false_iff.mpr c9
   subst c9
   have H1 : (if x5_1.length < 8796093022208 then (impl_without.l0 k1 l1 (x5_1 ++ [(⟨(rd_T59 l0 x11_1).f0, (rd_T59 l0 x11_1).f1⟩ : S59)]) l0 (l0.length : Int) (wrap64 (x11_1 + 1))) else (none)) = some r := by rw [if_neg (show ¬ (false = true) by decide)] at H; exact H
   clear H
   have H := H1
   clear H1
   by_cases c12 : x5_1.length < 8796093022208
   rotate_left
   ·rw [if_neg c12] at H
    exact absurd H (by simp)
   rw [if_pos c12] at H
   have LMc12 := aM c12
   clear c12
   obtain ⟨y1025, hy1025⟩ : ∃ y_ : List (S59), y_ = (x5_1 ++ [(⟨(rd_T59 l0 x11_1).f0, (rd_T59 l0 x11_1).f1⟩ : S59)]) := ⟨_, rfl⟩
   replace H : (impl_without.l0 k1 l1 y1025 l0 (l0.length : Int) (wrap64 (x11_1 + 1))) = some r := zy H hy1025
   have Ny1025 := aM hy1025
   clear hy1025
   have H' := aM H
   clear H
   have p1022 : 0 ≤ (x11_1 : Int) := of_decide_eq_true za
   have q1022 : x11_1 < (l0.length : Int) := of_decide_eq_true za
   obtain ⟨ad1022, e1022, hx1022_0, hx1022_1⟩ := at_T59 HR0.out x11_1 p1022 q1022
   cases e1022
   replace hx1022_0 := (HB.out.cell (World.block_lt_of_cell? w _ hx1022_0)).trans hx1022_0
   replace hx1022_1 := (HB.out.cell (World.block_lt_of_cell? w _ hx1022_1)).trans hx1022_1
   replace p1022 := eq_true p1022
   replace q1022 := eq_true q1022
   go_wp2_with (first | ((with_reducible refine gate_dst (N := 7) rfl ?_); refine box_event ?hg (N := 7) ?hd (cs := #[.int .i64 0, .int .i64 0]) (t := 59) ?hr ?_; (case hd => rfl); (case hg => rfl); (case hr => first | (go_simp; done) | (go_simp; rfl)); intro gb1023 hg w13 hbox hb; have n0_ := aM (Kd.R_below (Kd.R_elderB (mR_ HO_5.out) gb1023 (Nat.le_of_eq hg.symm)) hb); have n1_ := aM (below_step zb hb); have n2_ := aM (hbox); have n3_ := aM ((ze : w.heap.size ≤ gb1023)); have n4_ := aM ((ze : w.heap.size ≤ gb1023)); clear HO_5; clear HB; have HO_5 := n0_; have HB := n1_; have BK1023 := n2_; have GW1023 := n3_; have GE1023 := n4_; clear n0_ n1_ n2_ n3_ n4_; clear hb hbox hg; have hcz14_0 : w13.cell? ⟨gb1023, 0, none⟩ = some (.int .i64 0) := (blk_cell BK1023.out 0).trans rfl; have hcz14_1 : w13.cell? ⟨gb1023, 1, none⟩ = some (.int .i64 0) := (blk_cell BK1023.out 1).trans rfl; have hfz14_0 := blk_frozen BK1023.out 0; have hfz14_1 := blk_frozen BK1023.out 1) | ((with_reducible refine gate_callee (f := 75) rfl ?_); refine goesL_ (some 18) rfl rfl Try.func75 (by kernel_rfl) rfl #[.slice A1 l1.length c1, .int .i64 x11_1] rfl zm ?_; (with_reducible refine (slices_Contains_int64_int64.calls k1 _ _ l1 x11_1 false _ ?side1 ?side2 A8.out).mono ?_); (case side1 => exact Kd.C_below HR1.out (zs GE1023.out)); (case side2 => exact HC1.out); rintro e w' ⟨rfl, ⟨nd, rfl⟩⟩; refine ⟨_, rfl, ?_⟩) | ((with_reducible refine gate_builtin (b := .append) (xs := #[.tmp 20, .tmp 22]) rfl ?_); at_builtin; refine Kd.R_append k59 (w0 := w) w.heap.size rfl (.tmp 20) (.tmp 22) 43 59 (.agg #[(.int .i64 0), (.int .i64 0)]) 16 rfl Try.underlying43 info59 rfl (by decide) (by omega) u5 x5_1 (⟨(rd_T59 l0 x11_1).f0, (rd_T59 l0 x11_1).f1⟩ : S59) [.int .i64 ((rd_T59 l0 x11_1).f0), .int .i64 ((rd_T59 l0 x11_1).f1)] (fun k_ => k_ ≠ gb1023) (fun _ => False) rfl (by first | (go_simp; done) | (go_simp; rfl)) ?aP (fun _ hk => hk.elim) ?aF ?aO ?aB ?aS ?aL ?_; (case aP => exact k59_mkM _ _ _ (⟨(rd_T59 l0 x11_1).f0, (rd_T59 l0 x11_1).f1⟩ : S59)); (case aB => exact (zs GE1023.out)); (case aF => exact (fun k_ hk => Kd.freshB (g := gb1023) (o := .cells #[.int .i64 ((rd_T59 l0 x11_1).f0), .int .i64 ((rd_T59 l0 x11_1).f1)] 59 (0, 0)) (by (with_reducible repeat (first | refine blk_drewN ?_ _ | refine blk_drew ?_ | refine blk_alloc ?_ _)); refine blk_put (cs := #[.int .i64 ((rd_T59 l0 x11_1).f0), .int .i64 0]) ?_ 1 _ rfl; (with_reducible repeat (first | refine blk_drewN ?_ _ | refine blk_drew ?_ | refine blk_alloc ?_ _)); refine blk_put (cs := #[.int .i64 0, .int .i64 0]) ?_ 0 _ rfl; (with_reducible repeat (first | refine blk_drewN ?_ _ | refine blk_drew ?_ | refine blk_alloc ?_ _)); exact BK1023.out) k_ hk)); (case aO => exact (by (with_reducible repeat (first | apply Kd.R_alloc | apply Kd.R_drewN | apply Kd.R_drew)); exact Kd.R_mono (Kd.R_far (p := ⟨gb1023, 1, none⟩) (Kd.R_far (p := ⟨gb1023, 0, none⟩) (Kd.R_mono HO_5.out (fun k_ hk => (⟨hk, hk.2⟩ : _ ∧ k_ ≠ gb1023))) (fun _ hk => hk.2) (.int .i64 ((rd_T59 l0 x11_1).f0))) (fun _ hk => hk.2) (.int .i64 ((rd_T59 l0 x11_1).f1))) (fun _ hk => hk.1.2))); (case aS => exact (below_size (zs GE1023.out))); (case aL => have := LMc12.out; omega); intro v1026 w15 ho hb hg hat; rw [← Ny1025.out] at ho; have n0_ := aM (blk_grown (g := gb1023) (o := .cells #[.int .i64 ((rd_T59 l0 x11_1).f0), .int .i64 ((rd_T59 l0 x11_1).f1)] 59 (0, 0)) (by (with_reducible repeat (first | refine blk_drewN ?_ _ | refine blk_drew ?_ | refine blk_alloc ?_ _)); refine blk_put (cs := #[.int .i64 ((rd_T59 l0 x11_1).f0), .int .i64 0]) ?_ 1 _ rfl; (with_reducible repeat (first | refine blk_drewN ?_ _ | refine blk_drew ?_ | refine blk_alloc ?_ _)); refine blk_put (cs := #[.int .i64 0, .int .i64 0]) ?_ 0 _ rfl; (with_reducible repeat (first | refine blk_drewN ?_ _ | refine blk_drew ?_ | refine blk_alloc ?_ _)); exact BK1023.out) hg (Kd.R_away HO_5.out (fun _ hk => hk.2))); have n1_ := aM (hb); have n2_ := aM (ho); clear BK1023; clear HB; clear HO_5; have BK1023 := n0_; have HB := n1_; have HO1027 := n2_; clear n0_ n1_ n2_; clear ho hb hg hat))
   go_roundg k1
   case measure => have := HK1.out; omega
   case rel => exact ⟨(y1025), (wrap64 (x11_1 + 1)), zr, H', ⟨by have := HK1.out; omega⟩, ⟨by (with_reducible repeat (first | apply Kd.R_alloc | apply Kd.R_drewN | apply Kd.R_drew)); exact Kd.R_mono HO1027.out (fun _ hk => trivial)⟩, ⟨zs GE1023.out⟩⟩
end Go.Proofs.Ytabdmdkoffpppaa.F
end
section
namespace Go.Proofs.Ytabdmdkoffpppaa.F
open Go.RowKit Go.Proofs.YtabdmdkoffpppaaW.PrintWords Go.Proofs.YtabdmdkoffpppaaW.PrintLast Go.Proofs.YtabdmdkoffpppaaW.PrintMore
attribute [local go_sem] max2_int min2_int max_two min_two max_three min_three max_four min_four
set_option linter.unusedVariables false
set_option linter.unusedSimpArgs false
mutual
def spec_l10Parts.l0 : Nat → List Int → List Int → Int → Option (List Int)
 | 0, _, _, _ => none
 | k + 1, x3, x4, x5 => if x5 < (x3.length : Int) then (if 0 ≤ x5 then (if (rd x3 x5) = x5 then (spec_l10Parts.l1 k x3 x4 x5 0 0) else (spec_l10Parts.l0 k x3 x4 (wrap64 (x5 + 1)))) else (none)) else (some x4)
def spec_l10Parts.l1 : Nat → List Int → List Int → Int → Int → Int → Option (List Int)
 | 0, _, _, _, _, _ => none
 | k + 1, x3, x4, x5, x6, x7 => if x7 < (x3.length : Int) then (if 0 ≤ x7 then (if (rd x3 x7) = x5 then (spec_l10Parts.l1 k x3 x4 x5 (wrap64 (x6 + 1)) (wrap64 (x7 + 1))) else (spec_l10Parts.l1 k x3 x4 x5 x6 (wrap64 (x7 + 1)))) else (none)) else (if x4.length < 17592186044416 then (spec_l10Parts.l0 k x3 (x4 ++ [x6]) (wrap64 (x5 + 1))) else (none))
end
def spec_l10Parts.f (k : Nat) (l0 : List (S59)) : Option (List Int) := (spec_l02Parts.f k l0).bind fun t982 => (spec_l10Parts.l0 k t982 (([] : List Int)) 0)
theorem spec_l10Parts.calls (k : Nat) (A0 : Option Addr) (c0 : Nat) (l0 : List (S59)) (r : List Int) (w : World) (hr0 : Kd.C k59 w A0 l0.length l0) (hc0 : l0.length ≤ c0) (h : spec_l10Parts.f k l0 = some r) :
  Calls Try.prog 105 #[.slice A0 l0.length c0] w fun e w' => ∃ v0_ : Value, e = .returned (v0_) ∧ Kd.R (Kd.int .i64) 2 w' w.heap.size (fun _ => True) v0_ r ∧ Below w.heap.size w w' := by
 have HR0 := aM hr0
 have HC0 := aM hc0
 clear hr0 hc0
 have HB := aM (Below.refl w.heap.size w)
 have H : ((spec_l02Parts.f k l0).bind fun t982 => (spec_l10Parts.l0 k t982 (([] : List Int)) 0)) = some r := h
 clear h
 replace H := Option.bind_eq_some_iff.mp H
 obtain ⟨t982, A20, H⟩ := H
 replace H : (spec_l10Parts.l0 k t982 (([] : List Int)) 0) = some r := H
 have A2 := aM A20
 clear A20
 obtain ⟨y985, hy985⟩ : ∃ y_ : List Int, y_ = (([] : List Int)) := ⟨_, rfl⟩
 replace H : (spec_l10Parts.l0 k t982 y985 0) = some r := zy H hy985
 have Ny985 := aM hy985
 clear hy985
 have H' := aM H
 clear H
 go_enter Try.func105, Try.ntmps105
 go_wp2_with (first | ((with_reducible refine gate_callee (f := 147) rfl ?_); refine goesL_ (some 9) rfl rfl Try.func147 (by kernel_rfl) rfl #[.slice A0 l0.length c0] rfl zm ?_; (with_reducible refine (spec_l02Parts.calls k _ _ l0 t982 _ ?side1 ?side2 A2.out).mono ?_); (case side1 => repeat (first | exact HR0.out | (with_reducible refine Kd.C_alloc ?_ _) | (with_reducible refine Kd.C_drewN ?_ _) | (with_reducible refine Kd.C_drew ?_))); (case side2 => exact HC0.out); rintro e w3 ⟨v983, rfl, ho0, hb⟩; refine ⟨_, rfl, ?_⟩; have n0_ := aM (Kd.R_lower ho0 (below_size zb)); have n1_ := aM (below_step zb hb); clear HB; have HO984 := n0_; have HB := n1_; clear n0_ n1_; (try clear hb); (try clear hb2); (try clear hk); (try clear hi); (try clear ho0)) | ((with_reducible refine gate_dst (N := 10) rfl ?_); refine Kd.R_lit (Kd.int .i64) _ 2 ?hg (N := 10) ?hd (xs := ([] : List Int)) (inner := []) (ok := fun _ => True) (okp := fun _ => True) ?hr ?hp (fun _ hk => hk) trivial (Below.refl _ _) (Nat.le_refl _) (by simp) ?_; (case hd => rfl); (case hg => rfl); (case hr => first | (go_simp; done) | (go_simp; rfl)); (case hp => exact (Reps.none _ _)); intro v986 w4 ho5 hb hg_ hnew_; clear hg_ hnew_; (first | rw [← Ny985.out] at ho5 | (simp only [Int.reduceToNat] at ho5; rw [← Ny985.out] at ho5)); have n0_ := aM (Kd.R_elder' (mR_ HO984.out) (Kd.R_base ho5) hb); have n1_ := aM (Kd.R_lower (Kd.R_new' ho5 (Kd.R_lt (mR_ HO984.out))) (below_size zb)); have n2_ := aM (below_step zb hb); clear HO984; clear HB; have HO984 := n0_; have HO987 := n1_; have HB := n2_; clear n0_ n1_ n2_; clear hb ho5))
 go_loopg [4, 5] k (fun kq v4 v5 w' => ∃ (x4_1 : List Int) (x5_1 : Int), v5 = .int .i64 x5_1 ∧ Aside0 (spec_l10Parts.l0 kq t982 x4_1 x5_1 = some r) ∧ Aside0 (kq ≤ k) ∧ Aside0 (Kd.R (Kd.int .i64) 2 w' w.heap.size (fun k_ => some k_ ≠ (v4 : Value).ownBlock) v983 t982) ∧ Aside0 (Kd.R (Kd.int .i64) 2 w' w.heap.size (fun k_ => some k_ ≠ (v983 : Value).ownBlock) v4 x4_1) ∧ Aside0 (Below w.heap.size w w'))
 case atStart => exact ⟨(y985), (0), zr, H', ⟨Nat.le_refl _⟩, ⟨by (with_reducible repeat (first | apply Kd.R_alloc | apply Kd.R_drewN | apply Kd.R_drew)); exact Kd.R_mono HO984.out (fun _ hk => hk.2)⟩, ⟨by (with_reducible repeat (first | apply Kd.R_alloc | apply Kd.R_drewN | apply Kd.R_drew)); exact Kd.R_mono HO987.out (fun _ hk => hk.2)⟩, ⟨zb⟩⟩
 case round =>
  clear H'
  try clear c1
  try clear p2
  obtain ⟨x4_1, x5_1, rfl, HA, HK1, HO_3, HO_4, HB⟩ := hrel
  cases gk with
  | zero => exact absurd HA.out (by simp [spec_l10Parts.l0])
  | succ k1 =>
   have H := HA.out
   clear HA
   simp only [spec_l10Parts.l0] at H
   by_cases c6 : x5_1 < (t982.length : Int)
   rotate_left
   ·rw [if_neg c6] at H
    have c6b0 : decide (x5_1 < (t982.length : Int)) = false := decide_eq_false c6
    clear c6
    obtain rfl := Option.some.inj H
    obtain ⟨Ao16, co16, eo16⟩ := Kd.R_slice HO_3.out
    subst eo16
    go_wp2
    go_ret
    exact ⟨_, zw, by (with_reducible repeat (first | apply Kd.R_alloc | apply Kd.R_drewN | apply Kd.R_drew)); exact Kd.R_mono HO_4.out (fun _ hk => trivial), zb⟩
   rw [if_pos c6] at H
   have c6b0 : decide (x5_1 < (t982.length : Int)) = true := decide_eq_true c6
   clear c6
   by_cases c7 : 0 ≤ x5_1
   rotate_left
   ·rw [if_neg c7] at H
    exact absurd H (by simp)
   rw [if_pos c7] at H
   have c7b0 : decide (0 ≤ x5_1) = true := decide_eq_true c7
   clear c7
   by_cases c8 : (rd t982 x5_1) = x5_1
   rotate_left
   ·rw [if_neg c8] at H
    have c8b0 : ((rd t982 x5_1) == x5_1) = false := beq_eq_false_iff_ne.mpr c8
    have c8b1 : ((rd t982 x5_1) != x5_1) = true := bne_iff_ne.mpr c8
    have H' := aM H
    clear H
    obtain ⟨Ao15, co15, eo15⟩ := Kd.R_slice HO_3.out
    subst eo15
    have p988 : 0 ≤ (x5_1 : Int) := of_decide_eq_true za
    have q988 : x5_1 < (t982.length : Int) := of_decide_eq_true za
    obtain ⟨ad988, e988, hx988_0⟩ := Kd.at_int (Kd.R_reads' HO_3.out).2.2 x5_1 p988 q988
    cases e988
    replace p988 := eq_true p988
    replace q988 := eq_true q988
    go_wp2
    go_roundg k1
    case measure => have := HK1.out; omega
    case rel => exact ⟨(x4_1), (wrap64 (x5_1 + 1)), zr, H', ⟨by have := HK1.out; omega⟩, ⟨mR_ HO_3.out⟩, ⟨mR_ HO_4.out⟩, ⟨zb⟩⟩
   rw [if_pos c8] at H
   have c8b0 : ((rd t982 x5_1) == x5_1) = true := beq_iff_eq.mpr c8
   have c8b1 : ((rd t982 x5_1) != x5_1) = false := bne_eq_false_iff_eq.mpr c8
   clear c8
   have H' := aM H
   clear H
   obtain ⟨Ao9, co9, eo9⟩ := Kd.R_slice HO_3.out
   subst eo9
   have p988 : 0 ≤ (x5_1 : Int) := of_decide_eq_true za
   have q988 : x5_1 < (t982.length : Int) := of_decide_eq_true za
   obtain ⟨ad988, e988, hx988_0⟩ := Kd.at_int (Kd.R_reads' HO_3.out).2.2 x5_1 p988 q988
   cases e988
   replace p988 := eq_true p988
   replace q988 := eq_true q988
   go_wp2
   go_loopg [6, 7] k1 (fun kq v6 v7 w' => ∃ (x6_2 : Int) (x7_2 : Int), v6 = .int .i64 x6_2 ∧ v7 = .int .i64 x7_2 ∧ Aside0 (spec_l10Parts.l1 kq t982 x4_1 x5_1 x6_2 x7_2 = some r) ∧ Aside0 (kq ≤ k1) ∧ Aside0 (Kd.R (Kd.int .i64) 2 w' w.heap.size (fun k_ => some k_ ≠ (u4 : Value).ownBlock) (.slice (some ad988) t982.length co9) t982) ∧ Aside0 (Kd.R (Kd.int .i64) 2 w' w.heap.size (fun k_ => some k_ ≠ ((.slice (some ad988) t982.length co9) : Value).ownBlock) u4 x4_1) ∧ Aside0 (Below w.heap.size w w'))
   case atStart => exact ⟨(0), (0), zr, zr, H', ⟨Nat.le_refl _⟩, ⟨mR_ HO_3.out⟩, ⟨mR_ HO_4.out⟩, ⟨zb⟩⟩
   case round =>
    clear H'
    try clear c1
    try clear p2
    try clear c6
    try clear c6b0
    try clear c7
    try clear c7b0
    try clear c8
    try clear c8b0
    try clear c8b1
    try clear p9
    try clear q9
    try clear hx9
    try clear hx988_0
    try clear p2
    try clear p988
    try clear q988
    obtain ⟨x6_2, x7_2, rfl, rfl, HA, HK2, HO_3, HO_4, HB⟩ := hrel
    cases gk with
    | zero => exact absurd HA.out (by simp [spec_l10Parts.l1])
    | succ k2 =>
     have H := HA.out
     clear HA
     simp only [spec_l10Parts.l1] at H
     by_cases c10 : x7_2 < (t982.length : Int)
     rotate_left
     ·rw [if_neg c10] at H
      have c10b0 : decide (x7_2 < (t982.length : Int)) = false := decide_eq_false c10
      clear c10
      by_cases c13 : x4_1.length < 17592186044416
      rotate_left
      ·rw [if_neg c13] at H
       exact absurd H (by simp)
      rw [if_pos c13] at H
      have LMc13 := aM c13
      clear c13
      obtain ⟨y990, hy990⟩ : ∃ y_ : List Int, y_ = (x4_1 ++ [x6_2]) := ⟨_, rfl⟩
      replace H : (spec_l10Parts.l0 k2 t982 y990 (wrap64 (x5_1 + 1))) = some r := zy H hy990
      have Ny990 := aM hy990
      clear hy990
      have H' := aM H
      clear H
      go_wp2_with (first | ((with_reducible refine gate_builtin (b := .append) (xs := #[.tmp 37, .tmp 39]) rfl ?_); at_builtin; refine Kd.R_append (Kd.int .i64) (w0 := w) w.heap.size rfl (.tmp 37) (.tmp 39) 22 2 (.int .i64 0) 8 rfl Try.underlying22 info2 rfl (by decide) (by omega) u4 x4_1 x6_2 [.int .i64 x6_2] (fun k_ => some k_ ≠ (.slice (some ad988) t982.length co9 : Value).ownBlock) (fun _ => False) rfl rfl ?aP (fun _ hk => hk.elim) ?aF ?aO ?aB ?aS ?aL ?_; (case aP => exact rfl); (case aB => exact zb); (case aF => exact (fun k_ hk => Kd.fresh' (Kd.R_lt (mR_ HO_3.out)) k_ hk)); (case aO => exact (mR_ HO_4.out)); (case aS => exact (below_size zb)); (case aL => have := LMc13.out; omega); intro v991 w14 ho hb hg hat; rw [← Ny990.out] at ho; have n0_ := aM (Kd.R_after (ok := (fun _ => True)) (by (with_reducible repeat (first | apply Kd.R_alloc | apply Kd.R_drewN | apply Kd.R_drew)); exact Kd.R_mono HO_3.out (fun _ hk => ⟨trivial, hk⟩)) hg hat); have n1_ := aM (hb); have n2_ := aM (ho); clear HO_3; clear HB; clear HO_4; have HO_3 := n0_; have HB := n1_; have HO992 := n2_; clear n0_ n1_ n2_; clear ho hb hg hat))
      go_roundg k2
      case measure => have := HK1.out; have := HK2.out; omega
      case rel => exact ⟨(y990), (wrap64 (x5_1 + 1)), zr, H', ⟨by have := HK1.out; have := HK2.out; omega⟩, ⟨by (with_reducible repeat (first | apply Kd.R_alloc | apply Kd.R_drewN | apply Kd.R_drew)); exact Kd.R_mono HO_3.out (fun _ hk => hk.2)⟩, ⟨mR_ HO992.out⟩, ⟨zb⟩⟩
     rw [if_pos c10] at H
     have c10b0 : decide (x7_2 < (t982.length : Int)) = true := decide_eq_true c10
     clear c10
     by_cases c11 : 0 ≤ x7_2
     rotate_left
     ·rw [if_neg c11] at H
      exact absurd H (by simp)
     rw [if_pos c11] at H
     have c11b0 : decide (0 ≤ x7_2) = true := decide_eq_true c11
     clear c11
     by_cases c12 : (rd t982 x7_2) = x5_1
     rotate_left
     ·rw [if_neg c12] at H
      have c12b0 : ((rd t982 x7_2) == x5_1) = false := beq_eq_false_iff_ne.mpr c12
      have c12b1 : ((rd t982 x7_2) != x5_1) = true := bne_iff_ne.mpr c12
      have H' := aM H
      clear H
      have p989 : 0 ≤ (x7_2 : Int) := of_decide_eq_true za
      have q989 : x7_2 < (t982.length : Int) := of_decide_eq_true za
      obtain ⟨ad989, e989, hx989_0⟩ := Kd.at_int (Kd.R_reads' HO_3.out).2.2 x7_2 p989 q989
      obtain rfl : ad988 = ad989 := (by injection e989)
      replace p989 := eq_true p989
      replace q989 := eq_true q989
      go_wp2
      go_roundg k2
      case measure => have := HK1.out; have := HK2.out; omega
      case rel => exact ⟨(x6_2), (wrap64 (x7_2 + 1)), zr, zr, H', ⟨by have := HK1.out; have := HK2.out; omega⟩, ⟨mR_ HO_3.out⟩, ⟨mR_ HO_4.out⟩, ⟨zb⟩⟩
     rw [if_pos c12] at H
     have c12b0 : ((rd t982 x7_2) == x5_1) = true := beq_iff_eq.mpr c12
     have c12b1 : ((rd t982 x7_2) != x5_1) = false := bne_eq_false_iff_eq.mpr c12
     clear c12
     have H' := aM H
     clear H
     have p989 : 0 ≤ (x7_2 : Int) := of_decide_eq_true za
     have q989 : x7_2 < (t982.length : Int) := of_decide_eq_true za
     obtain ⟨ad989, e989, hx989_0⟩ := Kd.at_int (Kd.R_reads' HO_3.out).2.2 x7_2 p989 q989
     obtain rfl : ad988 = ad989 := (by injection e989)
     replace p989 := eq_true p989
     replace q989 := eq_true q989
     go_wp2
     go_roundg k2
     case measure => have := HK1.out; have := HK2.out; omega
     case rel => exact ⟨(wrap64 (x6_2 + 1)), (wrap64 (x7_2 + 1)), zr, zr, H', ⟨by have := HK1.out; have := HK2.out; omega⟩, ⟨mR_ HO_3.out⟩, ⟨mR_ HO_4.out⟩, ⟨zb⟩⟩
def spec_RestParts.f (k : Nat) (l0 : List (S59)) (l1 : List Int) : Option (List Int × Int) := (spec_l10Code.f k l0 l1).bind fun t1001 => (if t1001 = 0 then ((spec_l10Rest.f k l0 l1).bind fun t1002 => ((spec_l10Parts.f k t1002).bind fun t1005 => (some (t1005, 0)))) else (some (([] : List Int), t1001)))
theorem spec_RestParts.calls (k : Nat) (A0 : Option Addr) (c0 : Nat) (l0 : List (S59)) (A1 : Option Addr) (c1 : Nat) (l1 : List Int) (r1 : List Int) (r2 : Int) (w : World) (hr0 : Kd.C k59 w A0 l0.length l0) (hc0 : l0.length ≤ c0) (hr1 : Kd.C (Kd.int .i64) w A1 l1.length l1) (hc1 : l1.length ≤ c1) (h : spec_RestParts.f k l0 l1 = some (r1, r2)) :
  Calls Try.prog 51 #[.slice A0 l0.length c0, .slice A1 l1.length c1] w fun e w' => ∃ v0_ : Value, e = .returned (.tuple #[v0_, .int .i64 r2]) ∧ Kd.R (Kd.int .i64) 2 w' w.heap.size (fun _ => True) v0_ r1 ∧ Below w.heap.size w w' := by
 have HR0 := aM hr0
 have HC0 := aM hc0
 clear hr0 hc0
 have HR1 := aM hr1
 have HC1 := aM hc1
 clear hr1 hc1
 have HB := aM (Below.refl w.heap.size w)
 have H : ((spec_l10Code.f k l0 l1).bind fun t1001 => (if t1001 = 0 then ((spec_l10Rest.f k l0 l1).bind fun t1002 => ((spec_l10Parts.f k t1002).bind fun t1005 => (some (t1005, 0)))) else (some (([] : List Int), t1001)))) = some (r1, r2) := h
 clear h
 replace H := Option.bind_eq_some_iff.mp H
 obtain ⟨t1001, A30, H⟩ := H
 replace H : (if t1001 = 0 then ((spec_l10Rest.f k l0 l1).bind fun t1002 => ((spec_l10Parts.f k t1002).bind fun t1005 => (some (t1005, 0)))) else (some (([] : List Int), t1001))) = some (r1, r2) := H
 have A3 := aM A30
 clear A30
 by_cases c4 : t1001 = 0
 rotate_left
 ·rw [if_neg c4] at H
  have c4b0 : (t1001 == 0) = false := beq_eq_false_iff_ne.mpr c4
  have c4b1 : (t1001 != 0) = true := bne_iff_ne.mpr c4
  simp only [Option.some.injEq, Prod.mk.injEq] at H
  obtain ⟨rfl, rfl⟩ := H
  go_enter Try.func51, Try.ntmps51
  go_wp2_with (first | ((with_reducible refine gate_callee (f := 104) rfl ?_); refine goesL_ (some 9) rfl rfl Try.func104 (by kernel_rfl) rfl #[.slice A0 l0.length c0, .slice A1 l1.length c1] rfl zm ?_; (with_reducible refine (spec_l10Code.calls k _ _ l0 _ _ l1 t1001 _ ?side1 ?side2 ?side3 ?side4 A3.out).mono ?_); (case side1 => repeat (first | exact HR0.out | (with_reducible refine Kd.C_alloc ?_ _) | (with_reducible refine Kd.C_drewN ?_ _) | (with_reducible refine Kd.C_drew ?_))); (case side2 => exact HC0.out); (case side3 => repeat (first | exact HR1.out | (with_reducible refine Kd.C_alloc ?_ _) | (with_reducible refine Kd.C_drewN ?_ _) | (with_reducible refine Kd.C_drew ?_))); (case side4 => exact HC1.out); rintro e w11 ⟨rfl, hb⟩; refine ⟨_, rfl, ?_⟩; have n0_ := aM (below_step zb hb); clear HB; have HB := n0_; clear n0_; (try clear hb); (try clear hb2); (try clear hk); (try clear hi)))
  go_ret2
  exact ⟨_, zw, by first | exact Kd.R_nil _ _ _ _ _ | exact Kd.N_nil _ _ _ _ _ | exact Kd.V_nil _ _ _ _ _ | exact Kd.Q_nil _ _ _ _ _ | exact Kd.S_nil _ _ _ _ _, zb⟩
 rw [if_pos c4] at H
 have c4b0 : (t1001 == 0) = true := beq_iff_eq.mpr c4
 have c4b1 : (t1001 != 0) = false := bne_eq_false_iff_eq.mpr c4
 clear c4
 replace H := Option.bind_eq_some_iff.mp H
 obtain ⟨t1002, A50, H⟩ := H
 replace H : ((spec_l10Parts.f k t1002).bind fun t1005 => (some (t1005, 0))) = some (r1, r2) := H
 have A5 := aM A50
 clear A50
 replace H := Option.bind_eq_some_iff.mp H
 obtain ⟨t1005, A60, H⟩ := H
 replace H : (some (t1005, 0)) = some (r1, r2) := H
 have A6 := aM A60
 clear A60
 simp only [Option.some.injEq, Prod.mk.injEq] at H
 obtain ⟨rfl, rfl⟩ := H
 go_enter Try.func51, Try.ntmps51
 go_wp2_with (first | ((with_reducible refine gate_callee (f := 104) rfl ?_); refine goesL_ (some 9) rfl rfl Try.func104 (by kernel_rfl) rfl #[.slice A0 l0.length c0, .slice A1 l1.length c1] rfl zm ?_; (with_reducible refine (spec_l10Code.calls k _ _ l0 _ _ l1 t1001 _ ?side1 ?side2 ?side3 ?side4 A3.out).mono ?_); (case side1 => repeat (first | exact HR0.out | (with_reducible refine Kd.C_alloc ?_ _) | (with_reducible refine Kd.C_drewN ?_ _) | (with_reducible refine Kd.C_drew ?_))); (case side2 => exact HC0.out); (case side3 => repeat (first | exact HR1.out | (with_reducible refine Kd.C_alloc ?_ _) | (with_reducible refine Kd.C_drewN ?_ _) | (with_reducible refine Kd.C_drew ?_))); (case side4 => exact HC1.out); rintro e w7 ⟨rfl, hb⟩; refine ⟨_, rfl, ?_⟩; have n0_ := aM (below_step zb hb); clear HB; have HB := n0_; clear n0_; (try clear hb); (try clear hb2); (try clear hk); (try clear hi)) | ((with_reducible refine gate_callee (f := 106) rfl ?_); refine goesL_ (some 15) rfl rfl Try.func106 (by kernel_rfl) rfl #[.slice A0 l0.length c0, .slice A1 l1.length c1] rfl zm ?_; (with_reducible refine (spec_l10Rest.calls k _ _ l0 _ _ l1 t1002 _ ?side1 ?side2 ?side3 ?side4 A5.out).mono ?_); (case side1 => repeat (first | exact (Kd.C_below HR0.out HB.out) | (with_reducible refine Kd.C_alloc ?_ _) | (with_reducible refine Kd.C_drewN ?_ _) | (with_reducible refine Kd.C_drew ?_))); (case side2 => exact HC0.out); (case side3 => repeat (first | exact (Kd.C_below HR1.out HB.out) | (with_reducible refine Kd.C_alloc ?_ _) | (with_reducible refine Kd.C_drewN ?_ _) | (with_reducible refine Kd.C_drew ?_))); (case side4 => exact HC1.out); rintro e w8 ⟨v1003, rfl, ho0, hb⟩; refine ⟨_, rfl, ?_⟩; have n0_ := aM (Kd.R_lower ho0 (below_size zb)); have n1_ := aM (below_step zb hb); clear HB; have HO1004 := n0_; have HB := n1_; clear n0_ n1_; (try clear hb); (try clear hb2); (try clear hk); (try clear hi); (try clear ho0); obtain ⟨Ao9, co9, eo9⟩ := Kd.R_slice HO1004.out; subst eo9) | ((with_reducible refine gate_callee (f := 105) rfl ?_); refine goesL_ (some 16) rfl rfl Try.func105 (by kernel_rfl) rfl #[.slice Ao9 t1002.length co9] rfl zm ?_; (with_reducible refine (spec_l10Parts.calls k _ _ t1002 t1005 _ ?side1 ?side2 A6.out).mono ?_); (case side1 => repeat (first | exact (Kd.R_reads' HO1004.out).2.2 | (with_reducible refine Kd.C_alloc ?_ _) | (with_reducible refine Kd.C_drewN ?_ _) | (with_reducible refine Kd.C_drew ?_))); (case side2 => exact (Kd.R_reads' HO1004.out).2.1); rintro e w10 ⟨v1006, rfl, ho0, hb⟩; refine ⟨_, rfl, ?_⟩; have n0_ := aM (Kd.R_below (mR_ HO1004.out) hb); have n1_ := aM (Kd.R_lower ho0 (below_size zb)); have n2_ := aM (below_step zb hb); clear HO1004; clear HB; have HO1004 := n0_; have HO1007 := n1_; have HB := n2_; clear n0_ n1_ n2_; (try clear hb); (try clear hb2); (try clear hk); (try clear hi); (try clear ho0)))
 go_ret2
 exact ⟨_, zw, mR_ HO1007.out, zb⟩
def delI_lays_ren : Go.Shelf.Ren := ⟨fun | 10 => 111 | 6 => 133 | n => n, fun | 22 => 22 | 23 => 2 | 25 => 82 | 3 => 3 | 4 => 4 | 0 => 0 | n => n, fun n => n⟩
theorem delI_lays : SlLaysH.n10 Try.prog delI_lays_ren where
  mixed := by kernel_rfl
  f6 := ⟨Try.f133.name, by kernel_rfl, Try.func133.trans (congrArg some (by kernel_rfl))⟩
  f10 := ⟨Try.f111.name, by kernel_rfl, Try.func111.trans (congrArg some (by kernel_rfl))⟩
  t0 := Try.underlying0
  a0 := Try.isAgg0
  z0 := Try.sizeOf0
  v0 := Try.zeroValue0
  t3 := Try.underlying3
  a3 := Try.isAgg3
  z3 := Try.sizeOf3
  v3 := Try.zeroValue3
  t4 := Try.underlying4
  a4 := Try.isAgg4
  z4 := Try.sizeOf4
  v4 := Try.zeroValue4
  t22 := Try.underlying22
  a22 := Try.isAgg22
  z22 := Try.sizeOf22
  v22 := Try.zeroValue22
  a23 := Try.isAgg2
  z23 := Try.sizeOf2
  t25 := Try.underlying82
  a25 := Try.isAgg82
  z25 := Try.sizeOf82
  v25 := Try.zeroValue82
open Go.Sort
theorem R_openI {w : World} {base g cap n : Nat} {ok : Nat → Prop} {xs : List Int} (h : Kd.R (Kd.int .i64) 2 w base ok (.slice (some ⟨g, 0, none⟩) n cap) xs) : ok g ∧ n = xs.length ∧ base ≤ g ∧ n ≤ cap ∧ cap ≤ maxLen ∧ ∃ cur, w.heap[g]? = some (.cells cur 2 (0, 0)) ∧ cur.size = cap ∧ cur.toList.take n = xs.map (Value.int .i64) := by
  obtain ⟨h1, inner, ⟨h2, h3⟩, h4, h5⟩ := h
  rcases h3 with ⟨h3, _⟩ | ⟨g', cap', cur, h3, h6, h7, h8, h9, h10, h11⟩
  · cases h3
  injection h3 with h3 h13 h12
  injection h3 with h3
  injection h3 with h3
  subst h3 h12
  refine ⟨h1 g rfl, h13, h6, by omega, h9, cur, h7, by rw [h10]; show cap * 1 = cap; omega, ?_⟩
  have e1 : cur.toList.take n = inner := by rw [← h11, h13]; congr 1; show xs.length = xs.length * 1; omega
  rw [e1]
  have hs : (Kd.int IntKind.i64).sz = 1 := rfl
  have hl : inner.length = xs.length := by rw [h4, hs]; omega
  apply List.ext_getElem?
  intro t
  by_cases ht : t < xs.length
  · have hj := h5 t xs[t] (List.getElem?_eq_getElem ht)
    rw [hs, Nat.mul_one] at hj
    have e2 : (inner.drop t).take 1 = [.int .i64 xs[t]] := hj
    have e3 : inner[t]? = ((inner.drop t).take 1)[0]? := by rw [List.getElem?_take_of_lt (by omega), List.getElem?_drop]; rfl
    rw [e3, e2, List.getElem?_map, List.getElem?_eq_getElem ht]
    rfl
  · rw [List.getElem?_eq_none (by omega), List.getElem?_eq_none (by simp; omega)]
theorem R_closeI {w : World} {base g cap : Nat} {ok : Nat → Prop} {cur : Array Value} {xs : List Int} (hok : ok g) (hb : base ≤ g) (hm : cap ≤ maxLen) (hg : w.heap[g]? = some (.cells cur 2 (0, 0))) (hc : cur.size = cap) (hl : xs.length ≤ cap) (ht : cur.toList.take xs.length = xs.map (Value.int .i64)) : Kd.R (Kd.int .i64) 2 w base ok (.slice (some ⟨g, 0, none⟩) xs.length cap) xs := by
  have hs : (Kd.int IntKind.i64).sz = 1 := rfl
  refine ⟨fun k hk => ?_, xs.map (Value.int .i64), ⟨?_, .inr ⟨g, cap, cur, rfl, hb, hg, hl, hm, ?_, ?_⟩⟩, ?_, fun j p hp => ?_⟩
  · simp [Value.ownBlock] at hk
    exact hk ▸ hok
  · rw [hs]; simp
  · rw [hs, hc]; omega
  · rw [hs, Nat.mul_one]; exact ht
  · rw [hs]; simp
  · rw [hs, Nat.mul_one, ← List.map_drop, ← List.map_take]
    have hj : j < xs.length := (List.getElem?_eq_some_iff.1 hp).1
    have e : (xs.drop j).take 1 = [p] := by
      rw [← List.getElem_cons_drop hj]
      have := (List.getElem?_eq_some_iff.1 hp).2
      simp [this]
    rw [e]
    rfl
theorem pred0 (W : World) (x : Int) : Calls Try.prog 112 #[.int .i64 x] W fun e w' => e = .returned (.bool (x == 0)) ∧ ∃ q, w' = W.drewN q := by
  go_enter Try.func112, Try.ntmps112
  go_wp2
  go_ret
  exact ⟨rfl, 0, rfl⟩
theorem putI_take (F cur : Array Value) (xs : List Int) (d : Array Int) (h : xs.length ≤ d.size) (hc : d.size ≤ cur.size) (ht : d.toList.take xs.length = xs) : (Go.Sort.putCells (Value.int .i64) 0 d cur).toList.take xs.length = xs.map (Value.int .i64) := by
  apply List.ext_getElem?
  intro t
  by_cases hl : t < xs.length
  · have h1 : t < cur.size := by omega
    have e : xs[t] = d[t]! := by
      have : (d.toList.take xs.length)[t]? = some xs[t] := by rw [ht, List.getElem?_eq_getElem hl]
      rw [List.getElem?_take_of_lt hl, Array.getElem?_toList, Array.getElem?_eq_getElem (by omega)] at this
      rw [getElem!_pos d t (by omega)]
      exact (Option.some.inj this).symm
    rw [List.getElem?_take_of_lt hl, Array.getElem?_toList, Go.Sort.putCells, Array.getElem?_mapIdx, Array.getElem?_eq_getElem h1, Option.map_some, if_pos ⟨Nat.zero_le _, by omega⟩, Nat.sub_zero, List.getElem?_map, List.getElem?_eq_getElem hl, Option.map_some, e]
  · rw [List.getElem?_eq_none (by simp; omega), List.getElem?_eq_none (by simp; omega)]
def slices_DeleteFunc_int64_int64__impl_RestParts_1.f (l0 : List Int) : Option (List Int) := if l0.length < 1000000000000 then some (l0.filter fun x => !(x == 0)) else none
set_option maxHeartbeats 4000000 in
theorem slices_DeleteFunc_int64_int64__impl_RestParts_1.calls (P0_ : Nat → Prop) (u9000_ : Value) (l0 : List Int) (r : List Int) (w0 w : World) (hB : Below w0.heap.size w0 w) (ho0 : Kd.R (Kd.int .i64) 2 w w0.heap.size P0_ u9000_ l0) (h : slices_DeleteFunc_int64_int64__impl_RestParts_1.f l0 = some r) :
    Calls Try.prog 111 #[u9000_, .func (.func 112) #[] #[]] w fun e w' => ∃ v0_ : Value, e = .returned (v0_) ∧ Kd.R (Kd.int .i64) 2 w' w0.heap.size (fun k_ => (P0_ k_ ∨ w.heap.size ≤ k_)) v0_ r ∧ Below w0.heap.size w0 w' ∧ Kept w w' (fun k_ => P0_ k_) := by
  unfold slices_DeleteFunc_int64_int64__impl_RestParts_1.f at h
  have eg : ∀ args w, (callFunc 112 args).run Try.prog w = .ok (.enter 112 args) w := enters_ Try.func112 (by kernel_rfl) rfl
  by_cases hl : l0.length < 1000000000000
  · rw [if_pos hl] at h
    obtain rfl := Option.some.inj h
    clear h
    by_cases h0 : l0 = []
    · subst h0
      obtain ⟨A, c, rfl, hc, hr⟩ := Kd.R_reads ho0
      have HX := aM (idxI_calls 112 #[] (fun x => x == 0) eg A c [] w hr (by simp) (fun x hx => by simp at hx))
      rw [show fI (fun x => x == 0) [] 0 = -1 from rfl] at HX
      have HO := aM ho0
      clear ho0 hr
      go_enter Try.func111, Try.ntmps111
      go_wp2_with (go_at_call 133; refine HX.out.mono ?_; rintro e w' ⟨rfl, q, rfl⟩)
      go_ret
      exact ⟨_, rfl, Kd.R_mono (Kd.R_drewN HO.out q) (fun _ hk => .inl hk), pw_below_drewN hB q, Kept.drewN (Kept.refl w _) q⟩
    · have hpos : 0 < l0.length := List.length_pos_iff.2 h0
      obtain ⟨g, cap, rfl, hbase, hlt, _⟩ := Kd.R_form ho0 hpos
      obtain ⟨hok, _, hb, hcap, hm, cur, hg, hc, ht⟩ := R_openI ho0
      have hH : Holds (Value.int .i64) w g 0 l0.toArray := fun j hj => by
        have hj' : j < l0.length := by simpa using hj
        rw [Nat.zero_add]
        refine ⟨?_, blk_frozen hg j⟩
        rw [blk_cell hg j, getElem!_pos _ j hj, List.getElem_toArray]
        have e : (cur.toList.take l0.length)[j]? = some (.int .i64 l0[j]) := by rw [ht, List.getElem?_map, List.getElem?_eq_getElem hj']; rfl
        rwa [List.getElem?_take_of_lt hj', Array.getElem?_toList] at e
      have hcon := AnyE.slices_DeleteFunc delI_lays (Value.int .i64) (fun _ => rfl) (fun x => x == 0) 112 #[] eg 0 Try.zeroValue2 g 0 cap l0.toArray w (fun W x _ => pred0 W x) (fun n os dk x _ => pred0 _ x) hH (by simp; omega) (by simpa using hcap)
      have hsz : l0.toArray.size = l0.length := by simp
      simp only [hsz] at hcon
      refine (show Calls Try.prog 111 #[.slice (some ⟨g, 0, none⟩) l0.length cap, .func (.func 112) #[] #[]] w _ from hcon).mono ?_
      rintro e w' ⟨rfl, q, hw⟩
      have hfl : (l0.filter fun x => !(x == 0)).length ≤ l0.length := List.length_filter_le _ _
      have hgw : w.grownBy w' (some g) := by
        rw [hw]
        refine ⟨rfl, rfl, rfl, ?_, fun k hk hne => ?_⟩
        · show w.heap.size ≤ (w.heap.modify g _).size
          simp
        · show (w.heap.modify g _)[k]? = w.heap[k]?
          rw [Array.getElem?_modify, if_neg]
          intro e
          exact hne (by rw [e])
      have hblk : w'.heap[g]? = some (.cells (Go.Sort.putCells (Value.int .i64) 0 ((l0.filter fun x => !(x == 0)) ++ List.replicate (l0.length - (l0.filter fun x => !(x == 0)).length) 0).toArray cur) 2 (0, 0)) := by
        rw [hw]
        show (w.heap.modify g _)[g]? = _
        rw [Array.getElem?_modify, if_pos rfl, hg]
        rfl
      have hcl := putI_take #[] cur (l0.filter fun x => !(x == 0)) ((l0.filter fun x => !(x == 0)) ++ List.replicate (l0.length - (l0.filter fun x => !(x == 0)).length) 0).toArray (by simp) (by rw [List.size_toArray, List.length_append, List.length_replicate]; omega) (by simp)
      refine ⟨_, rfl, ?_, pw_below_grown hB (some g) hB.size hgw (fun k hk => by injection hk with hk; exact hk ▸ hb), ?_⟩
      · exact Kd.R_mono (R_closeI hok hb hm hblk (by simpa [Go.Sort.putCells] using hc) (by omega) hcl) (fun _ hk => .inl hk)
      · refine ⟨hgw.size, fun i hi hn => hgw.block i hi ?_⟩
        intro e
        injection e with e
        exact hn (e ▸ hok)
  · rw [if_neg hl] at h
    exact absurd h (by simp)
def impl_RestParts.l0 : Nat → List Int → List Int → Int → Int → Option (List Int × Int)
 | 0, _, _, _, _ => none
 | k + 1, x8, x24, x25, x26 => if x26 < x25 then (if 0 ≤ x26 then (if x26 < (x24.length : Int) then (if 0 ≤ (rd x24 x26) then (if (rd x24 x26) < (x8.length : Int) then (impl_RestParts.l0 k (x8.set ((rd x24 x26) : Int).toNat (wrap64 ((rd x8 (rd x24 x26)) + 1))) x24 x25 (wrap64 (x26 + 1))) else (none)) else (none)) else (none)) else (none)) else ((slices_DeleteFunc_int64_int64__impl_RestParts_1.f x8).bind fun t1041 => (some (t1041, 0)))
def impl_RestParts.f (k : Nat) (l0 : List (S59)) (l1 : List Int) : Option (List Int × Int) := (impl_setCode.f k l0 l1).bind fun t1028 => (if t1028 = 0 then ((impl_without.f k l0 l1).bind fun t1029 => (if 0 ≤ (t1029.length : Int) then (if ((t1029.length : Int) : Int).toNat ≤ 35184372088832 then ((impl_parts__impl_around.f k t1029).bind fun t1035 => (impl_RestParts.l0 k (List.replicate ((t1029.length : Int) : Int).toNat 0) t1035 (t1035.length : Int) 0)) else (none)) else (none))) else (some (([] : List Int), t1028)))
end Go.Proofs.Ytabdmdkoffpppaa.F
end
