/- The row of FnHexForms, with what it needs: text 6 of 11. -/
import Derived.Test.YtlnliahadgmbcaaKHF4
set_option maxHeartbeats 8000000
set_option maxRecDepth 100000
section
namespace Go.Proofs.Ytlnliahadgmbcaa.F
open Go.RowKit Go.Proofs.YtlnliahadgmbcaaW.PrintWords Go.Proofs.YtlnliahadgmbcaaW.PrintLast Go.Proofs.YtlnliahadgmbcaaW.PrintMore
attribute [local go_sem] max2_int min2_int max_two min_two max_three min_three max_four min_four
set_option linter.unusedVariables false
set_option linter.unusedSimpArgs false
theorem impl_corner.calls (k : Nat) (A0 : Option Addr) (c0 : Nat) (l0 : List (S59)) (r1 : Int) (r2 : Int) (w : World) (hr0 : Kd.C k59 w A0 l0.length l0) (hc0 : l0.length ≤ c0) (h : impl_corner.f k l0 = some (r1, r2)) :
  Calls Try.prog 94 #[.slice A0 l0.length c0] w fun e w' => e = .returned (.agg #[.int .i64 r1, .int .i64 r2]) ∧ Below w.heap.size w w' := by
 have hu59 := Try.underlying59
 have HR0 := aM hr0
 have HC0 := aM hc0
 clear hr0 hc0
 have HB := aM (Below.refl w.heap.size w)
 have H : (if 0 < (l0.length : Int) then (impl_corner.l0 k l0 (l0.length : Int) 0 ((rd_T59 l0 0).f0) ((rd_T59 l0 0).f1)) else (none)) = some (r1, r2) := h
 clear h
 by_cases c2 : 0 < (l0.length : Int)
 rotate_left
 ·rw [if_neg c2] at H
  exact absurd H (by simp)
 rw [if_pos c2] at H
 have c2b0 : decide (0 < (l0.length : Int)) = true := decide_eq_true c2
 have c2b1 : decide (0 < l0.length) = true := decide_eq_true (by omega)
 clear c2
 have H' := aM H
 clear H
 go_enter Try.func94, Try.ntmps94
 go_wp2_with (first | ((with_reducible refine gate_dst (N := 2) rfl ?_); refine zx 2 #[.int .i64 0, .int .i64 0] 59 ?_; intro gb275 hg w3 hbox hb; have n0_ := aM (below_step zb hb); have n1_ := aM (hbox); have n2_ := aM ((ze : w.heap.size ≤ gb275)); have n3_ := aM ((ze : w.heap.size ≤ gb275)); clear HB; have HB := n0_; have BK275 := n1_; have GW275 := n2_; have GE275 := n3_; clear n0_ n1_ n2_ n3_ hb hbox hg; have p276 : 0 ≤ (0 : Int) := (by omega); have q276 : 0 < (l0.length : Int) := of_decide_eq_true za; obtain ⟨ad276, e276, hx276_0, hx276_1⟩ := at_T59 HR0.out 0 p276 q276; cases e276; have qi276 : (0 < l0.length) = True := eq_true (by omega); (try rw [show ((0 : Int)).toNat = 0 from rfl] at hx276_0); (try rw [show 0 * 2 = 0 from rfl] at hx276_0); (try rw [Addr.add_zero'] at hx276_0); (try rw [show ((0 : Int)).toNat = 0 from rfl] at hx276_1); (try rw [show 0 * 2 = 0 from rfl] at hx276_1); (try rw [Addr.add_zero'] at hx276_1); replace hx276_0 := zk HB.out hx276_0; replace hx276_1 := zk HB.out hx276_1; replace p276 := eq_true p276; replace q276 := eq_true q276) | ((with_reducible refine gate_dst (N := 3) rfl ?_); refine zx 3 #[.int .i64 0, .int .i64 0] 59 ?_; intro gb277 hg w4 hbox hb; have n0_ := aM (blk_below (g := gb275) (o := .cells #[.int .i64 0, .int .i64 0] 59 (0, 0)) (mB_ BK275.out) hb); have n1_ := aM (below_step (zs GE275.out) hb); have n2_ := aM (hbox); have n3_ := aM ((zf GE275.out : w.heap.size ≤ gb277)); have n4_ := aM ((zf GE275.out : w.heap.size ≤ gb277)); have n5_ := aM ((zl BK275.out : gb275 ≠ gb277)); have n6_ := aM ((zn BK275.out : gb277 ≠ gb275)); clear BK275 HB; have BK275 := n0_; have HB := n1_; have BK277 := n2_; have GW277 := n3_; have GE277 := n4_; have NB275_277 := n5_; have NB277_275 := n6_; clear n0_ n1_ n2_ n3_ n4_ n5_ n6_ hb hbox hg; have hnb5 := NB277_275.out; have hnc5 := NB275_277.out; have hcz6_0 : w4.cell? ⟨gb277, 0, none⟩ = some (.int .i64 0) := (blk_cell BK277.out 0).trans rfl; have hcz6_1 : w4.cell? ⟨gb277, 1, none⟩ = some (.int .i64 0) := (blk_cell BK277.out 1).trans rfl; have hfz6_0 := blk_frozen BK277.out 0; have hfz6_1 := blk_frozen BK277.out 1))
 go_loopg [11] k (fun kq v11 w' => ∃ (x11_1 : Int) (x278000_1 : Int) (x278001_1 : Int), v11 = .int .i64 x11_1 ∧ Aside0 (impl_corner.l0 kq l0 (l0.length : Int) x11_1 x278000_1 x278001_1 = some (r1, r2)) ∧ Aside0 (kq ≤ k) ∧ Aside0 (w'.heap[gb275]? = some (.cells #[.int .i64 0, .int .i64 0] 59 (0, 0))) ∧ Aside0 (w'.heap[gb277]? = some (.cells #[.int .i64 x278000_1, .int .i64 x278001_1] 59 (0, 0))) ∧ Aside0 (Below w.heap.size w w'))
 case atStart => exact ⟨(0), ((rd_T59 l0 0).f0), ((rd_T59 l0 0).f1), zr, H', ⟨Nat.le_refl _⟩, ⟨by (with_reducible repeat (first | refine blk_drewN ?_ _ | refine blk_drew ?_ | refine blk_alloc ?_ _)); refine blk_far ?_ NB275_277.out _; (with_reducible repeat (first | refine blk_drewN ?_ _ | refine blk_drew ?_ | refine blk_alloc ?_ _)); refine blk_far ?_ NB275_277.out _; (with_reducible repeat (first | refine blk_drewN ?_ _ | refine blk_drew ?_ | refine blk_alloc ?_ _)); exact BK275.out⟩, ⟨by (with_reducible repeat (first | refine blk_drewN ?_ _ | refine blk_drew ?_ | refine blk_alloc ?_ _)); refine blk_put (cs := #[.int .i64 ((rd_T59 l0 0).f0), .int .i64 0]) ?_ 1 _ rfl; (with_reducible repeat (first | refine blk_drewN ?_ _ | refine blk_drew ?_ | refine blk_alloc ?_ _)); refine blk_put (cs := #[.int .i64 0, .int .i64 0]) ?_ 0 _ rfl; (with_reducible repeat (first | refine blk_drewN ?_ _ | refine blk_drew ?_ | refine blk_alloc ?_ _)); exact BK277.out⟩, ⟨zt GE275.out GE277.out⟩⟩
 case round =>
  clear H'
  try clear c2
  try clear c2b0
  try clear c2b1
  try clear p2
  try clear q2
  try clear hx2
  try clear qi2
  try clear c5
  try clear hcz6_0
  try clear hcz6_1
  try clear hfz6_0
  try clear hfz6_1
  try clear hx276_0
  try clear hx276_1
  try clear p276
  try clear q276
  obtain ⟨x11_1, x278000_1, x278001_1, rfl, HA, HK1, BK275, BK277, HB⟩ := hrel
  cases gk with
  | zero => exact absurd HA.out (by simp [impl_corner.l0])
  | succ k1 =>
   have H := HA.out
   clear HA
   simp only [impl_corner.l0] at H
   by_cases c7 : x11_1 < (l0.length : Int)
   rotate_left
   ·rw [if_neg c7] at H
    have c7b0 : decide (x11_1 < (l0.length : Int)) = false := decide_eq_false c7
    clear c7
    simp only [Option.some.injEq, Prod.mk.injEq] at H
    obtain ⟨rfl, rfl⟩ := H
    have hnb18 := NB277_275.out
    have hnc18 := NB275_277.out
    have hcz19_0 : wr.cell? ⟨gb277, 0, none⟩ = some (.int .i64 x278000_1) := (blk_cell BK277.out 0).trans rfl
    have hcz19_1 : wr.cell? ⟨gb277, 1, none⟩ = some (.int .i64 x278001_1) := (blk_cell BK277.out 1).trans rfl
    have hfz19_0 := blk_frozen BK277.out 0
    have hfz19_1 := blk_frozen BK277.out 1
    have hcz20_0 : wr.cell? ⟨gb275, 0, none⟩ = some (.int .i64 0) := (blk_cell BK275.out 0).trans rfl
    have hcz20_1 : wr.cell? ⟨gb275, 1, none⟩ = some (.int .i64 0) := (blk_cell BK275.out 1).trans rfl
    have hfz20_0 := blk_frozen BK275.out 0
    have hfz20_1 := blk_frozen BK275.out 1
    go_wp2
    refine bodyPost_ret (results_cell_row rfl _ _ gb275 59 #[.int .i64 x278000_1, .int .i64 x278001_1] (0, 0) _ rfl (by (with_reducible repeat (first | refine blk_drewN ?_ _ | refine blk_drew ?_ | refine blk_alloc ?_ _)); refine blk_put (cs := #[.int .i64 x278000_1, .int .i64 0]) ?_ 1 _ rfl; (with_reducible repeat (first | refine blk_drewN ?_ _ | refine blk_drew ?_ | refine blk_alloc ?_ _)); refine blk_put (cs := #[.int .i64 0, .int .i64 0]) ?_ 0 _ rfl; (with_reducible repeat (first | refine blk_drewN ?_ _ | refine blk_drew ?_ | refine blk_alloc ?_ _)); exact BK275.out) Try.underlying59 rfl (by kernel_rfl)) rfl ?_
    exact ⟨zw, zt GE275.out GE277.out⟩
   rw [if_pos c7] at H
   have c7b0 : decide (x11_1 < (l0.length : Int)) = true := decide_eq_true c7
   clear c7
   by_cases c8 : 0 ≤ x11_1
   rotate_left
   ·rw [if_neg c8] at H
    exact absurd H (by simp)
   rw [if_pos c8] at H
   have c8b0 : decide (0 ≤ x11_1) = true := decide_eq_true c8
   clear c8
   by_cases c9 : x11_1 < (l0.length : Int)
   rotate_left
   ·rw [if_neg c9] at H
    exact absurd H (by simp)
   rw [if_pos c9] at H
   have c9b0 : decide (x11_1 < (l0.length : Int)) = true := decide_eq_true c9
   clear c9
   obtain ⟨ji10, hji10⟩ : ∃ j_ : Int, (mn x278000_1 ((rd_T59 l0 x11_1).f0)) = j_ := ⟨_, rfl⟩
   replace H : (impl_corner.l0 k1 l0 (l0.length : Int) (wrap64 (x11_1 + 1)) ji10 (mn x278001_1 ((rd_T59 l0 x11_1).f1))) = some (r1, r2) := by first | (rw [hji10] at H; exact H) | (simp only [hji10] at H ⊢; exact H)
   have hji10_ : (if ((rd_T59 l0 x11_1).f0) < x278000_1 then ((rd_T59 l0 x11_1).f0) else x278000_1) = ji10 := hji10
   obtain ⟨ji11, hji11⟩ : ∃ j_ : Int, (mn x278001_1 ((rd_T59 l0 x11_1).f1)) = j_ := ⟨_, rfl⟩
   replace H : (impl_corner.l0 k1 l0 (l0.length : Int) (wrap64 (x11_1 + 1)) ji10 ji11) = some (r1, r2) := by first | (rw [hji11] at H; exact H) | (simp only [hji11] at H ⊢; exact H)
   have hji11_ : (if ((rd_T59 l0 x11_1).f1) < x278001_1 then ((rd_T59 l0 x11_1).f1) else x278001_1) = ji11 := hji11
   have H' := aM H
   clear H
   have p278 : 0 ≤ (x11_1 : Int) := of_decide_eq_true za
   have q278 : x11_1 < (l0.length : Int) := of_decide_eq_true za
   obtain ⟨ad278, e278, hx278_0, hx278_1⟩ := at_T59 HR0.out x11_1 p278 q278
   obtain rfl : ad276 = ad278 := (by injection e278)
   replace hx278_0 := zk HB.out hx278_0
   replace hx278_1 := zk HB.out hx278_1
   replace p278 := eq_true p278
   replace q278 := eq_true q278
   go_wp2_with (first | ((with_reducible refine gate_dst (N := 5) rfl ?_); refine zx 5 #[.int .i64 0, .int .i64 0] 59 ?_; intro gb279 hg w12 hbox hb; have n0_ := aM (blk_below (g := gb275) (o := .cells #[.int .i64 0, .int .i64 0] 59 (0, 0)) (mB_ BK275.out) hb); have n1_ := aM (blk_below (g := gb277) (o := .cells #[.int .i64 x278000_1, .int .i64 x278001_1] 59 (0, 0)) (mB_ BK277.out) hb); have n2_ := aM (below_step (zt GE275.out GE277.out) hb); have n3_ := aM (hbox); have n4_ := aM ((by rw [hg]; exact (below_size (zt GE275.out GE277.out)) : w.heap.size ≤ gb279)); have n5_ := aM ((by rw [hg]; exact (below_size (zt GE275.out GE277.out)) : w.heap.size ≤ gb279)); have n6_ := aM ((zl BK275.out : gb275 ≠ gb279)); have n7_ := aM ((zn BK275.out : gb279 ≠ gb275)); have n8_ := aM ((zl BK277.out : gb277 ≠ gb279)); have n9_ := aM ((zn BK277.out : gb279 ≠ gb277)); clear BK275 BK277 HB; have BK275 := n0_; have BK277 := n1_; have HB := n2_; have BK279 := n3_; have GW279 := n4_; have GE279 := n5_; have NB275_279 := n6_; have NB279_275 := n7_; have NB277_279 := n8_; have NB279_277 := n9_; clear n0_ n1_ n2_ n3_ n4_ n5_ n6_ n7_ n8_ n9_ hb hbox hg; have hnb13 := NB279_275.out; have hnc13 := NB275_279.out; have hnb14 := NB279_277.out; have hnc14 := NB277_279.out; have hcz15_0 : w12.cell? ⟨gb279, 0, none⟩ = some (.int .i64 0) := (blk_cell BK279.out 0).trans rfl; have hcz15_1 : w12.cell? ⟨gb279, 1, none⟩ = some (.int .i64 0) := (blk_cell BK279.out 1).trans rfl; have hfz15_0 := blk_frozen BK279.out 0; have hfz15_1 := blk_frozen BK279.out 1; have hnb16 := NB277_275.out; have hnc16 := NB275_277.out; have hcz17_0 : w12.cell? ⟨gb277, 0, none⟩ = some (.int .i64 x278000_1) := (blk_cell BK277.out 0).trans rfl; have hcz17_1 : w12.cell? ⟨gb277, 1, none⟩ = some (.int .i64 x278001_1) := (blk_cell BK277.out 1).trans rfl; have hfz17_0 := blk_frozen BK277.out 0; have hfz17_1 := blk_frozen BK277.out 1))
   go_roundg k1
   case measure => have := HK1.out; omega
   case rel => exact ⟨(wrap64 (x11_1 + 1)), (ji10), (ji11), zr, H', ⟨by have := HK1.out; omega⟩, ⟨by (with_reducible repeat (first | refine blk_drewN ?_ _ | refine blk_drew ?_ | refine blk_alloc ?_ _)); refine blk_far ?_ NB275_277.out _; (with_reducible repeat (first | refine blk_drewN ?_ _ | refine blk_drew ?_ | refine blk_alloc ?_ _)); refine blk_far ?_ NB275_277.out _; (with_reducible repeat (first | refine blk_drewN ?_ _ | refine blk_drew ?_ | refine blk_alloc ?_ _)); refine blk_far ?_ NB275_279.out _; (with_reducible repeat (first | refine blk_drewN ?_ _ | refine blk_drew ?_ | refine blk_alloc ?_ _)); refine blk_far ?_ NB275_279.out _; (with_reducible repeat (first | refine blk_drewN ?_ _ | refine blk_drew ?_ | refine blk_alloc ?_ _)); exact BK275.out⟩, ⟨by (with_reducible repeat (first | refine blk_drewN ?_ _ | refine blk_drew ?_ | refine blk_alloc ?_ _)); refine blk_put (cs := #[.int .i64 ji10, .int .i64 x278001_1]) ?_ 1 _ rfl; (with_reducible repeat (first | refine blk_drewN ?_ _ | refine blk_drew ?_ | refine blk_alloc ?_ _)); refine blk_put (cs := #[.int .i64 x278000_1, .int .i64 x278001_1]) ?_ 0 _ rfl; (with_reducible repeat (first | refine blk_drewN ?_ _ | refine blk_drew ?_ | refine blk_alloc ?_ _)); refine blk_far ?_ NB277_279.out _; (with_reducible repeat (first | refine blk_drewN ?_ _ | refine blk_drew ?_ | refine blk_alloc ?_ _)); refine blk_far ?_ NB277_279.out _; (with_reducible repeat (first | refine blk_drewN ?_ _ | refine blk_drew ?_ | refine blk_alloc ?_ _)); exact BK277.out⟩, ⟨by repeat (first | (with_reducible first | exact HB.out | apply below_alloc | apply pw_below_drewN | apply below_drew1 | refine below_set ?_ GE275.out | refine below_set ?_ GE277.out | refine below_set ?_ GE279.out) | exact HB.out)⟩⟩
def impl_moved.l0 : Nat → Int → Int → List (S59) → List (S59) → Int → Int → Option ((List (S59)))
 | 0, _, _, _, _, _, _ => none
 | k + 1, x1, x2, x7, x13, x14, x15 => if x15 < x14 then (if 0 ≤ x15 then (if x15 < (x13.length : Int) then (if x7.length < 8796093022208 then (impl_moved.l0 k x1 x2 (x7 ++ [(⟨wrap64 (((rd_T59 x13 x15).f0) + x1), wrap64 (((rd_T59 x13 x15).f1) + x2)⟩ : S59)]) x13 x14 (wrap64 (x15 + 1))) else (none)) else (none)) else (none)) else (some x7)
def impl_moved.f (k : Nat) (l0 : List (S59)) (a1 : Int) (a2 : Int) : Option ((List (S59))) := if 0 ≤ (l0.length : Int) then (if ((l0.length : Int) : Int).toNat ≤ 17592186044416 then (impl_moved.l0 k a1 a2 (([] : List (S59))) l0 (l0.length : Int) 0) else (none)) else (none)
theorem impl_moved.calls (k : Nat) (A0 : Option Addr) (c0 : Nat) (l0 : List (S59)) (a1 : Int) (a2 : Int) (r : List (S59)) (w : World) (hr0 : Kd.C k59 w A0 l0.length l0) (hc0 : l0.length ≤ c0) (h : impl_moved.f k l0 a1 a2 = some r) :
  Calls Try.prog 95 #[.slice A0 l0.length c0, .int .i64 a1, .int .i64 a2] w fun e w' => ∃ v0_ : Value, e = .returned (v0_) ∧ Kd.R k59 59 w' w.heap.size (fun _ => True) v0_ r ∧ Below w.heap.size w w' := by
 have hu59 := Try.underlying59
 have HR0 := aM hr0
 have HC0 := aM hc0
 clear hr0 hc0
 have HB := aM (Below.refl w.heap.size w)
 have H : (if 0 ≤ (l0.length : Int) then (if ((l0.length : Int) : Int).toNat ≤ 17592186044416 then (impl_moved.l0 k a1 a2 (([] : List (S59))) l0 (l0.length : Int) 0) else (none)) else (none)) = some r := h
 clear h
 by_cases c4 : 0 ≤ (l0.length : Int)
 rotate_left
 ·rw [if_neg c4] at H
  exact absurd H (by simp)
 rw [if_pos c4] at H
 have c4b0 := eq_true c4
 have c4b1 : decide (0 ≤ (l0.length : Int)) = true := decide_eq_true c4
 clear c4
 by_cases c5 : ((l0.length : Int) : Int).toNat ≤ 17592186044416
 rotate_left
 ·rw [if_neg c5] at H
  exact absurd H (by simp)
 rw [if_pos c5] at H
 have c5b0 := eq_true c5
 have c5b1 : decide (((l0.length : Int) : Int).toNat ≤ 17592186044416) = true := decide_eq_true c5
 clear c5
 obtain ⟨y280, hy280⟩ : ∃ y_ : List (S59), y_ = (([] : List (S59))) := ⟨_, rfl⟩
 replace H : (impl_moved.l0 k a1 a2 y280 l0 (l0.length : Int) 0) = some r := zy H hy280
 have Ny280 := aM hy280
 clear hy280
 have H' := aM H
 clear H
 go_enter Try.func95, Try.ntmps95
 go_wp2_with (first | ((with_reducible refine gate_dst (N := 12) rfl ?_); refine Kd.R_make0 k59 _ 59 rfl (N := 12) rfl 24 _ _ rfl (l0.length : Int) rfl rfl Try.underlying24 (.agg #[(.int .i64 0), (.int .i64 0)]) 16 info59 rfl (by decide) (by omega) z59 (ok := fun _ => True) (okp := fun _ => True) (k59_mkM _ _ _ z59 ) (fun _ hk => hk) trivial (of_decide_eq_true za) (Nat.le_trans (Nat.mul_le_mul_right _ (of_decide_eq_true za : (l0.length : Int).toNat ≤ 17592186044416)) (by omega)) (Below.refl _ _) (Nat.le_refl _) ?_; intro v281 w6 ho7 hb hg_ hnew_; clear hg_ hnew_; (first | rw [← Ny280.out] at ho7 | (simp only [Int.reduceToNat] at ho7; rw [← Ny280.out] at ho7)); have n0_ := aM (Kd.R_lower ho7 (below_size zb)); have n1_ := aM (below_step zb hb); clear HB; have HO282 := n0_; have HB := n1_; clear n0_ n1_; clear hb ho7))
 go_loopg [7, 15] k (fun kq v7 v15 w' => ∃ (x7_1 : List (S59)) (x15_1 : Int), v15 = .int .i64 x15_1 ∧ Aside0 (impl_moved.l0 kq a1 a2 x7_1 l0 (l0.length : Int) x15_1 = some r) ∧ Aside0 (kq ≤ k) ∧ Aside0 (Kd.R k59 59 w' w.heap.size (fun _ => True) v7 x7_1) ∧ Aside0 (Below w.heap.size w w'))
 case atStart => exact ⟨(y280), (0), zr, H', ⟨Nat.le_refl _⟩, ⟨mR_ HO282.out⟩, ⟨zb⟩⟩
 case round =>
  clear H'
  try clear p2
  try clear c4
  try clear c4b0
  try clear c4b1
  try clear c5
  try clear c5b0
  try clear c5b1
  obtain ⟨x7_1, x15_1, rfl, HA, HK1, HO_7, HB⟩ := hrel
  cases gk with
  | zero => exact absurd HA.out (by simp [impl_moved.l0])
  | succ k1 =>
   have H := HA.out
   clear HA
   simp only [impl_moved.l0] at H
   by_cases c8 : x15_1 < (l0.length : Int)
   rotate_left
   ·rw [if_neg c8] at H
    have c8b0 : decide (x15_1 < (l0.length : Int)) = false := decide_eq_false c8
    clear c8
    obtain rfl := Option.some.inj H
    go_wp2
    go_ret
    exact ⟨_, zw, mR_ HO_7.out, zb⟩
   rw [if_pos c8] at H
   have c8b0 : decide (x15_1 < (l0.length : Int)) = true := decide_eq_true c8
   clear c8
   by_cases c9 : 0 ≤ x15_1
   rotate_left
   ·rw [if_neg c9] at H
    exact absurd H (by simp)
   rw [if_pos c9] at H
   have c9b0 : decide (0 ≤ x15_1) = true := decide_eq_true c9
   clear c9
   by_cases c10 : x15_1 < (l0.length : Int)
   rotate_left
   ·rw [if_neg c10] at H
    exact absurd H (by simp)
   rw [if_pos c10] at H
   have c10b0 : decide (x15_1 < (l0.length : Int)) = true := decide_eq_true c10
   clear c10
   by_cases c11 : x7_1.length < 8796093022208
   rotate_left
   ·rw [if_neg c11] at H
    exact absurd H (by simp)
   rw [if_pos c11] at H
   have LMc11 := aM c11
   clear c11
   obtain ⟨y285, hy285⟩ : ∃ y_ : List (S59), y_ = (x7_1 ++ [(⟨wrap64 (((rd_T59 l0 x15_1).f0) + a1), wrap64 (((rd_T59 l0 x15_1).f1) + a2)⟩ : S59)]) := ⟨_, rfl⟩
   replace H : (impl_moved.l0 k1 a1 a2 y285 l0 (l0.length : Int) (wrap64 (x15_1 + 1))) = some r := zy H hy285
   have Ny285 := aM hy285
   clear hy285
   have H' := aM H
   clear H
   have p283 : 0 ≤ (x15_1 : Int) := of_decide_eq_true za
   have q283 : x15_1 < (l0.length : Int) := of_decide_eq_true za
   obtain ⟨ad283, e283, hx283_0, hx283_1⟩ := at_T59 HR0.out x15_1 p283 q283
   cases e283
   replace hx283_0 := zk HB.out hx283_0
   replace hx283_1 := zk HB.out hx283_1
   replace p283 := eq_true p283
   replace q283 := eq_true q283
   go_wp2_with (first | ((with_reducible refine gate_dst (N := 9) rfl ?_); refine zx 9 #[.int .i64 0, .int .i64 0] 59 ?_; intro gb284 hg w12 hbox hb; have n0_ := aM (Kd.R_below (Kd.R_elderB (mR_ HO_7.out) gb284 (Nat.le_of_eq hg.symm)) hb); have n1_ := aM (below_step zb hb); have n2_ := aM (hbox); have n3_ := aM ((ze : w.heap.size ≤ gb284)); have n4_ := aM ((ze : w.heap.size ≤ gb284)); clear HO_7 HB; have HO_7 := n0_; have HB := n1_; have BK284 := n2_; have GW284 := n3_; have GE284 := n4_; clear n0_ n1_ n2_ n3_ n4_ hb hbox hg; have hcz13_0 : w12.cell? ⟨gb284, 0, none⟩ = some (.int .i64 0) := (blk_cell BK284.out 0).trans rfl; have hcz13_1 : w12.cell? ⟨gb284, 1, none⟩ = some (.int .i64 0) := (blk_cell BK284.out 1).trans rfl; have hfz13_0 := blk_frozen BK284.out 0; have hfz13_1 := blk_frozen BK284.out 1) | ((with_reducible refine gate_builtin (b := .append) (xs := #[.tmp 19, .tmp 29]) rfl ?_); at_builtin; refine Kd.R_append k59 (w0 := w) w.heap.size rfl (.tmp 19) (.tmp 29) 24 59 (.agg #[(.int .i64 0), (.int .i64 0)]) 16 rfl Try.underlying24 info59 rfl (by decide) (by omega) u7 x7_1 (⟨wrap64 (((rd_T59 l0 x15_1).f0) + a1), wrap64 (((rd_T59 l0 x15_1).f1) + a2)⟩ : S59) [.int .i64 (wrap64 (((rd_T59 l0 x15_1).f0) + a1)), .int .i64 (wrap64 (((rd_T59 l0 x15_1).f1) + a2))] (fun k_ => k_ ≠ gb284) (fun _ => False) rfl (by first | (go_simp; done) | (go_simp; rfl)) ?aP (fun _ hk => hk.elim) ?aF ?aO ?aB ?aS ?aL ?_; (case aP => exact k59_mkM _ _ _ (⟨wrap64 (((rd_T59 l0 x15_1).f0) + a1), wrap64 (((rd_T59 l0 x15_1).f1) + a2)⟩ : S59)); (case aB => exact (zs GE284.out)); (case aF => exact (fun k_ hk => Kd.freshB (g := gb284) (o := .cells #[.int .i64 ((rd_T59 l0 x15_1).f0), .int .i64 ((rd_T59 l0 x15_1).f1)] 59 (0, 0)) (by (with_reducible repeat (first | refine blk_drewN ?_ _ | refine blk_drew ?_ | refine blk_alloc ?_ _)); refine blk_put (cs := #[.int .i64 ((rd_T59 l0 x15_1).f0), .int .i64 0]) ?_ 1 _ rfl; (with_reducible repeat (first | refine blk_drewN ?_ _ | refine blk_drew ?_ | refine blk_alloc ?_ _)); refine blk_put (cs := #[.int .i64 0, .int .i64 0]) ?_ 0 _ rfl; (with_reducible repeat (first | refine blk_drewN ?_ _ | refine blk_drew ?_ | refine blk_alloc ?_ _)); exact BK284.out) k_ hk)); (case aO => exact (by (with_reducible repeat (first | apply Kd.R_alloc | apply Kd.R_drewN | apply Kd.R_drew)); exact Kd.R_mono (Kd.R_far (p := ⟨gb284, 1, none⟩) (Kd.R_far (p := ⟨gb284, 0, none⟩) (Kd.R_mono HO_7.out (fun k_ hk => (⟨hk, hk.2⟩ : _ ∧ k_ ≠ gb284))) (fun _ hk => hk.2) (.int .i64 ((rd_T59 l0 x15_1).f0))) (fun _ hk => hk.2) (.int .i64 ((rd_T59 l0 x15_1).f1))) (fun _ hk => hk.1.2))); (case aS => exact (below_size (zs GE284.out))); (case aL => have := LMc11.out; omega); intro v286 w14 ho hb hg hat; rw [← Ny285.out] at ho; have n0_ := aM (blk_grown (g := gb284) (o := .cells #[.int .i64 ((rd_T59 l0 x15_1).f0), .int .i64 ((rd_T59 l0 x15_1).f1)] 59 (0, 0)) (by (with_reducible repeat (first | refine blk_drewN ?_ _ | refine blk_drew ?_ | refine blk_alloc ?_ _)); refine blk_put (cs := #[.int .i64 ((rd_T59 l0 x15_1).f0), .int .i64 0]) ?_ 1 _ rfl; (with_reducible repeat (first | refine blk_drewN ?_ _ | refine blk_drew ?_ | refine blk_alloc ?_ _)); refine blk_put (cs := #[.int .i64 0, .int .i64 0]) ?_ 0 _ rfl; (with_reducible repeat (first | refine blk_drewN ?_ _ | refine blk_drew ?_ | refine blk_alloc ?_ _)); exact BK284.out) hg (Kd.R_away HO_7.out (fun _ hk => hk.2))); have n1_ := aM (hb); have n2_ := aM (ho); clear BK284 HB HO_7; have BK284 := n0_; have HB := n1_; have HO287 := n2_; clear n0_ n1_ n2_; clear ho hb hg hat))
   go_roundg k1
   case measure => have := HK1.out; omega
   case rel => exact ⟨(y285), (wrap64 (x15_1 + 1)), zr, H', ⟨by have := HK1.out; omega⟩, ⟨zd0 HO287.out⟩, ⟨zs GE284.out⟩⟩
def impl_Cell_101.f (l0 : List S59) : Option (List S59) := if l0.length ≤ 1000000000000 then some l0 else none
set_option maxHeartbeats 4000000 in
theorem impl_Cell_101.calls (A0 : Option Addr) (c0 : Nat) (l0 : List S59) (r : List S59) (w : World) (hr0 : Kd.C k59 w A0 l0.length l0) (hc0 : l0.length ≤ c0) (h : impl_Cell_101.f l0 = some r) :
    Calls Try.prog 101 #[.slice A0 l0.length c0] w fun e w' => ∃ v0_ : Value, e = .returned (v0_) ∧ Kd.R k59 59 w' w.heap.size (fun _ => True) v0_ r ∧ Below w.heap.size w w' := by
  unfold impl_Cell_101.f at h
  by_cases hl : l0.length ≤ 1000000000000
  · rw [if_pos hl] at h
    obtain rfl := Option.some.inj h
    have q22 : ∀ (w : World) (a : Option Addr) (n c n' c' : Nat), (binOp .eql 24 (.slice a n c) (.slice none n' c')).run Try.prog w = .ok (.bool a.isNone) w := fun w a n c n' c' => Lib.run_eql_slice_nil w _ _ a n c n' c' Try.underlying24
    have u22 : ∀ w, Sem.run Try.prog (underlying 24) w = .ok (TypeDesc.slice 59) w := run_underlying Try.underlying24
    cases A0 with
    | none =>
      have h0 : l0 = [] := by
        refine List.length_eq_zero_iff.1 (Nat.eq_zero_of_not_pos fun hp => ?_)
        obtain ⟨ad, he, _⟩ := hr0.2.2 hp
        cases he
      subst h0
      clear hr0
      go_enter Try.func101, Try.ntmps101
      go_wp2
      go_ret
      exact ⟨_, rfl, Kd.R_nil _ _ _ _ _, Below.refl _ _⟩
    | some ad =>
      obtain ⟨inner, hreps, hcell⟩ := ReadsRow.inner_ hr0
      obtain ⟨i0, hi, hzz⟩ := Option.map_eq_some_iff.1 info59
      simp only [Prod.mk.injEq] at hzz
      obtain ⟨hz0, hz1, hz2⟩ := hzz
      have hil : inner.length = l0.length * 2 := hreps.1
      have h1 : ∀ u ∈ inner, u.oneCell' = true := by
        intro u hu
        obtain ⟨j, hj, e⟩ := List.getElem_of_mem hu
        have hjl : j / 2 < l0.length := by omega
        have hk := hreps.2 (j / 2) l0[j / 2] (List.getElem?_eq_getElem hjl)
        refine k59.K_one hk u ?_
        refine List.mem_of_getElem? (i := j % 2) ?_
        rw [List.getElem?_take_of_lt (show j % 2 < k59.sz from Nat.mod_lt _ (by decide)), List.getElem?_drop]
        rw [show j / 2 * k59.sz + j % 2 = j from by show j / 2 * 2 + j % 2 = j; omega, List.getElem?_eq_getElem hj, e]
      have A := aM hcell
      have HR := aM hreps
      have H1 := aM h1
      clear hr0 hcell hreps h1
      go_enter Try.func101, Try.ntmps101
      go_wp2_with (at_builtin; refine wpList_append_own _ rfl _ _ 24 rfl w.heap.size 59 i0 _ 2 16 Try.underlying24 hi hz0 hz1 hz2 rfl (by decide) _ _ _ rfl (World.ownsRow_made w #[] 0 (Nat.le_refl _) (Nat.zero_le _) (by simp)) ad l0.length c0 inner rfl ?qc1 ?qc2 ?qc3 ?qc4 ?qc5 ?qc6 ?_)
      (try case qc1 => exact hil)
      case qc2 =>
        intro j u hj
        exact Lib.cell?_alloc_some _ (A.out j u hj)
      case qc3 => exact H1.out
      case qc4 => simp only [maxLen]; omega
      case qc5 => omega
      (try case qc6 => simp)
      intro v' w1 hown hgrow hnil
      go_wp2
      go_ret
      have hB : Below w.heap.size w w1 := ((Below.refl _ w).alloc (Nat.le_refl _) _).grown hgrow (by simp) (by intro k hk; simp [Value.ownBlock] at hk; omega)
      refine ⟨v', rfl, ⟨fun _ _ => trivial, inner, (show w1.ownsRow w.heap.size 59 2 v' l0.length inner by simpa using hown), HR.out.1, fun j p hp => ?_⟩, hB⟩
      obtain ⟨c1, c2, e, e1, e2⟩ := HR.out.2 j p hp
      exact ⟨c1, c2, e, e1, e2⟩
  · rw [if_neg hl] at h
    exact absurd h (by simp)
def sortC_lays_ren : Go.Shelf.Ren := ⟨fun | 6 => 102 | 15 => 109 | 14 => 108 | 28 => 122 | 29 => 123 | 20 => 114 | 21 => 115 | 22 => 116 | 23 => 117 | 24 => 118 | 25 => 119 | 26 => 120 | 27 => 121 | 46 => 127 | 47 => 128 | 48 => 129 | 49 => 130 | 50 => 131 | 57 => 141 | n => n, fun | 22 => 24 | 24 => 59 | 25 => 78 | 3 => 3 | 39 => 106 | 0 => 0 | 53 => 118 | 55 => 120 | 4 => 4 | 46 => 112 | 45 => 111 | 50 => 98 | 5 => 5 | 9 => 9 | 66 => 123 | 70 => 127 | 76 => 135 | 77 => 136 | n => n, fun n => n⟩
theorem sortC_lays : SlLaysF0.n6 Try.prog sortC_lays_ren where
  mixed := by kernel_rfl
  f6 := ⟨Try.f102.name, by kernel_rfl, Try.func102.trans (congrArg some (by kernel_rfl))⟩
  f14 := ⟨Try.f108.name, by kernel_rfl, Try.func108.trans (congrArg some (by kernel_rfl))⟩
  f15 := Try.func109.trans (congrArg some (by kernel_rfl))
  f20 := ⟨Try.f114.name, by kernel_rfl, Try.func114.trans (congrArg some (by kernel_rfl))⟩
  f21 := ⟨Try.f115.name, by kernel_rfl, Try.func115.trans (congrArg some (by kernel_rfl))⟩
  f22 := ⟨Try.f116.name, by kernel_rfl, Try.func116.trans (congrArg some (by kernel_rfl))⟩
  f23 := ⟨Try.f117.name, by kernel_rfl, Try.func117.trans (congrArg some (by kernel_rfl))⟩
  f24 := ⟨Try.f118.name, by kernel_rfl, Try.func118.trans (congrArg some (by kernel_rfl))⟩
  f25 := ⟨Try.f119.name, by kernel_rfl, Try.func119.trans (congrArg some (by kernel_rfl))⟩
  f26 := ⟨Try.f120.name, by kernel_rfl, Try.func120.trans (congrArg some (by kernel_rfl))⟩
  f27 := ⟨Try.f121.name, by kernel_rfl, Try.func121.trans (congrArg some (by kernel_rfl))⟩
  f28 := Try.func122.trans (congrArg some (by kernel_rfl))
  f29 := Try.func123.trans (congrArg some (by kernel_rfl))
  f46 := ⟨Try.f127.name, by kernel_rfl, Try.func127.trans (congrArg some (by kernel_rfl))⟩
  f47 := Try.func128.trans (congrArg some (by kernel_rfl))
  f48 := Try.func129.trans (congrArg some (by kernel_rfl))
  f49 := ⟨Try.f130.name, by kernel_rfl, Try.func130.trans (congrArg some (by kernel_rfl))⟩
  f50 := ⟨Try.f131.name, by kernel_rfl, Try.func131.trans (congrArg some (by kernel_rfl))⟩
  f57 := ⟨Try.f141.name, by kernel_rfl, Try.func141.trans (congrArg some (by kernel_rfl))⟩
  t0 := Try.underlying0
  a0 := Try.isAgg0
  z0 := Try.sizeOf0
  v0 := Try.zeroValue0
  t3 := Try.underlying3
  a3 := Try.isAgg3
  z3 := Try.sizeOf3
  v3 := Try.zeroValue3
  t4 := Try.underlying4
  a4 := Try.isAgg4
  z4 := Try.sizeOf4
  v4 := Try.zeroValue4
  t5 := Try.underlying5
  a5 := Try.isAgg5
  z5 := Try.sizeOf5
  v5 := Try.zeroValue5
  t9 := Try.underlying9
  a9 := Try.isAgg9
  z9 := Try.sizeOf9
  v9 := Try.zeroValue9
  t22 := Try.underlying24
  a22 := Try.isAgg24
  z22 := Try.sizeOf24
  v22 := Try.zeroValue24
  t25 := Try.underlying78
  a25 := Try.isAgg78
  z25 := Try.sizeOf78
  v25 := Try.zeroValue78
  t39 := Try.underlying106
  a39 := Try.isAgg106
  z39 := Try.sizeOf106
  v39 := Try.zeroValue106
  t45 := Try.underlying111
  a45 := Try.isAgg111
  z45 := Try.sizeOf111
  v45 := Try.zeroValue111
  t46 := Try.underlying112
  a46 := Try.isAgg112
  z46 := Try.sizeOf112
  v46 := Try.zeroValue112
  t50 := Try.underlying98
  a50 := Try.isAgg98
  z50 := Try.sizeOf98
  v50 := Try.zeroValue98
  t53 := Try.underlying118
  a53 := Try.isAgg118
  z53 := Try.sizeOf118
  v53 := Try.zeroValue118
  t55 := Try.underlying120
  a55 := Try.isAgg120
  z55 := Try.sizeOf120
  v55 := Try.zeroValue120
  t66 := Try.underlying123
  a66 := Try.isAgg123
  z66 := Try.sizeOf123
  v66 := Try.zeroValue123
  t70 := Try.underlying127
  a70 := Try.isAgg127
  z70 := Try.sizeOf127
  v70 := Try.zeroValue127
  t76 := Try.underlying135
  a76 := Try.isAgg135
  z76 := Try.sizeOf135
  v76 := Try.zeroValue135
  t77 := Try.underlying136
  a77 := Try.isAgg136
  z77 := Try.sizeOf136
  v77 := Try.zeroValue136
def cI (a b : Int) : Int := if a < b then -1 else if a > b then 1 else 0
def cmpV (x y : S59) : Int := if cI x.f1 y.f1 = 0 then cI x.f0 y.f0 else cI x.f1 y.f1
open Go.Sort
instance instSortC : Inhabited S59 := ⟨z59⟩
abbrev encC (x : S59) : List Value := [.int .i64 x.f0, .int .i64 x.f1]
theorem putRow_heap (w : World) (g : Nat) (F : Array Value) {cur : Array Value} {e : TypeId} {fr : Nat × Nat} (h : w.heap[g]? = some (.cells cur e fr)) : (Go.Sort.putRow id w g 0 F).heap[g]? = some (.cells (Go.Sort.putCells id 0 F cur) e fr) := by
  unfold Go.Sort.putRow Go.Sort.mapBlock
  rw [Array.getElem?_modify, if_pos rfl, h]
  rfl
theorem putCells_take (F cur : Array Value) (h : F.size ≤ cur.size) : (Go.Sort.putCells id 0 F cur).toList.take F.size = F.toList := by
  apply List.ext_getElem?
  intro i
  by_cases hi : i < F.size
  · rw [List.getElem?_take_of_lt hi]
    simp only [Go.Sort.putCells, Array.getElem?_toList, Array.getElem?_mapIdx]
    rw [Array.getElem?_eq_getElem (show i < cur.size by omega), Array.getElem?_eq_getElem hi, Option.map_some, if_pos (by omega)]
    simp [getElem!_pos F i hi]
  · rw [List.getElem?_eq_none (by simp; omega), List.getElem?_eq_none (by simp; omega)]
theorem own_put {w : World} {base g cap n size : Nat} {e : TypeId} {xs : List Value} (h : w.ownsRow base e size (.slice (some ⟨g, 0, none⟩) n cap) n xs) (F : Array Value) (hF : F.size = n * size) : (Go.Sort.putRow id w g 0 F).ownsRow base e size (.slice (some ⟨g, 0, none⟩) n cap) n F.toList := by
  obtain ⟨h1, h2⟩ := h
  refine ⟨by simpa using hF, ?_⟩
  rcases h2 with ⟨h2, _⟩ | ⟨g', cap', cur, h2, h3, h4, h5, h6, h7, h8⟩
  · cases h2
  · injection h2 with h2 _ h9
    injection h2 with h2
    injection h2 with h2
    subst h2 h9
    refine .inr ⟨g, cap, _, rfl, h3, putRow_heap w g F h4, h5, h6, by simpa [Go.Sort.putCells] using h7, ?_⟩
    rw [← hF]
    exact putCells_take F cur (by rw [hF, h7]; exact Nat.mul_le_mul_right _ h5)
theorem flat_get (d : Array S59) (t : Nat) (ht : t < d.size * 2) : (flatK encC 2 d).toList[t]? = (encC d[t / 2]!)[t % 2]? := by
  have hs : (flatK encC 2 d).size = d.size * 2 := size_flatK _ _ _
  have h := get_flatK encC 2 d t ht
  have ht' : t < (flatK encC 2 d).size := by rw [hs]; exact ht
  rw [Array.getElem?_toList, Array.getElem?_eq_getElem ht', ← getElem!_pos (flatK encC 2 d) t ht', h]
  have hm : t % 2 < (encC d[t / 2]!).length := Nat.mod_lt _ (by decide)
  rw [List.getElem?_eq_getElem hm, getElem!_pos (encC d[t / 2]!) (t % 2) hm]
theorem flat_reps (d : Array S59) (w : World) (base : Nat) (ok : Nat → Prop) : Reps (k59.M w base ok) 2 d.toList (flatK encC 2 d).toList := by
  refine ⟨by simp, fun j p hp => ?_⟩
  have hj : j < d.size := by
    have := List.getElem?_eq_some_iff.1 hp
    obtain ⟨h, _⟩ := this
    simpa using h
  have e : ((flatK encC 2 d).toList.drop (j * 2)).take 2 = encC p := by
    apply List.ext_getElem?
    intro i
    by_cases hi : i < 2
    · rw [List.getElem?_take_of_lt hi, List.getElem?_drop, flat_get d (j * 2 + i) (by omega)]
      have e1 : (j * 2 + i) / 2 = j := by omega
      have e2 : (j * 2 + i) % 2 = i := by omega
      rw [e1, e2]
      have e3 : d[j]! = p := by
        rw [getElem!_pos d j hj]
        rw [Array.getElem?_toList, Array.getElem?_eq_getElem hj] at hp
        exact Option.some.inj hp
      rw [e3]
    · rw [List.getElem?_eq_none (by simp; omega), List.getElem?_eq_none (by simp; omega)]
  rw [e]
  exact ⟨_, _, rfl, rfl, rfl⟩
theorem R_putK {w : World} {base g cap : Nat} {ok : Nat → Prop} {xs : List S59} (h : Kd.R k59 59 w base ok (.slice (some ⟨g, 0, none⟩) xs.length cap) xs) (d : Array S59) (hd : d.size = xs.length) : Kd.R k59 59 (putRowK encC 2 w g 0 d) base ok (.slice (some ⟨g, 0, none⟩) xs.length cap) d.toList := by
  obtain ⟨h1, inner, h2, h3⟩ := h
  have hl : d.toList.length = xs.length := by simpa using hd
  refine ⟨h1, (flatK encC 2 d).toList, ?_, flat_reps d _ _ _⟩
  rw [hl]
  exact own_put h2 _ (by rw [size_flatK, hd]; rfl)
theorem R_holds {w : World} {base g cap : Nat} {ok : Nat → Prop} {xs : List S59} (h : Kd.R k59 59 w base ok (.slice (some ⟨g, 0, none⟩) xs.length cap) xs) : HoldsK encC 2 w g 0 xs.toArray := by
  obtain ⟨h1, inner, ⟨h2, h3⟩, h4, h5⟩ := h
  rcases h3 with ⟨h3, _⟩ | ⟨g', cap', cur, h3, h6, h7, h8, h9, h10, h11⟩
  · cases h3
  · injection h3 with h3 _ h12
    injection h3 with h3
    injection h3 with h3
    subst h3 h12
    intro t ht
    rw [size_flatK] at ht
    have ht2 : t < xs.length * 2 := by simpa using ht
    refine ⟨?_, by rw [Nat.zero_add]; exact blk_frozen h7 t⟩
    rw [Nat.zero_add, blk_cell h7 t]
    have e1 : cur[t]? = inner[t]? := by
      rw [← h11, List.getElem?_take_of_lt (by exact ht2), Array.getElem?_toList]
    have hj : t / 2 < xs.length := by omega
    obtain ⟨c1, c2, hc, hc1, hc2⟩ := h5 (t / 2) xs[t / 2] (List.getElem?_eq_getElem hj)
    have e2 : inner[t]? = (encC xs[t / 2])[t % 2]? := by
      have e3 : ((inner.drop (t / 2 * 2)).take 2)[t % 2]? = inner[t]? := by
        rw [List.getElem?_take_of_lt (Nat.mod_lt _ (by decide)), List.getElem?_drop]
        congr 1
        omega
      rw [← e3]
      have : (inner.drop (t / 2 * 2)).take 2 = encC xs[t / 2] := by
        refine hc.trans ?_
        rw [show c1 = [.int .i64 (xs[t / 2]).f0] from hc1, show c2 = [.int .i64 (xs[t / 2]).f1] from hc2]
        rfl
      rw [this]
    have ht' : t < (flatK encC 2 xs.toArray).size := by rw [size_flatK]; exact ht
    have e4 := flat_get xs.toArray t ht
    rw [Array.getElem?_toList, Array.getElem?_eq_getElem ht'] at e4
    rw [e1, e2]
    have e5 : xs.toArray[t / 2]! = xs[t / 2] := by rw [getElem!_pos xs.toArray (t / 2) (by simpa using hj)]; simp
    rw [e5] at e4
    rw [← e4, getElem!_pos _ t ht']
    rfl
theorem cI_eq (a b : Int) : cmp_Compare_int64.f a b = some (cI a b) := by
  unfold cmp_Compare_int64.f cmp_isNaN_int64.f cI
  simp only [bne_self_eq_false, Option.bind_some, Bool.false_eq_true, if_false]
  split
  · rfl
  · split <;> rfl
theorem cmpV_eq (x y : S59) : impl_compareCells.f x.f0 x.f1 y.f0 y.f1 = some (cmpV x y) := by
  unfold impl_compareCells.f cmpV
  simp only [cI_eq, Option.bind_some]
  split <;> rfl
theorem ltV (x y : S59) : ltOf cmpV x y = decide (x.f1 < y.f1 ∨ x.f1 = y.f1 ∧ x.f0 < y.f0) := by
  unfold ltOf cmpV cI
  rw [Bool.eq_iff_iff]
  rw [decide_eq_true_eq (p := x.f1 < y.f1 ∨ x.f1 = y.f1 ∧ x.f0 < y.f0)]
  constructor
  · intro h
    rw [decide_eq_true_eq] at h
    repeat' split at h
    all_goals omega
  · intro h
    rw [decide_eq_true_eq]
    repeat' split
    all_goals omega
theorem swoV : SWO (ltOf cmpV) where
  irrefl x := by rw [ltV]; simp
  trans x y z h1 h2 := by
    rw [ltV] at *
    simp only [decide_eq_true_eq] at *
    omega
  ntrans x y z h1 h2 := by
    rw [ltV] at *
    simp only [decide_eq_false_iff_not] at *
    omega
theorem antiV (x y : S59) (h1 : ltOf cmpV x y = false) (h2 : ltOf cmpV y x = false) : x = y := by
  rw [ltV] at *
  simp only [decide_eq_false_iff_not] at *
  obtain ⟨a, b⟩ := x
  obtain ⟨c, d⟩ := y
  simp only [S59.mk.injEq]
  simp only at h1 h2
  omega
def sortC (l : List S59) : List S59 := l.mergeSort fun x y => !ltOf cmpV y x
theorem sortW_grown (w : World) (g n : Nat) (d : Array S59) (os : Array Obj) : w.grownBy (sortWorldK encC 2 w g 0 n d os) (some g) := by
  refine ⟨rfl, rfl, rfl, ?_, fun k hk hne => ?_⟩
  · show w.heap.size ≤ ((w.heap.modify g _) ++ os).size
    simp
  · show ((w.heap.modify g _) ++ os)[k]? = w.heap[k]?
    rw [Array.getElem?_append_left (by simpa using hk), Array.getElem?_modify, if_neg]
    intro e
    exact hne (by rw [e])
theorem R_growO {w : World} {base : Nat} {ok : Nat → Prop} {v : Value} {xs : List S59} (h : Kd.R k59 59 w base ok v xs) (os : Array Obj) : Kd.R k59 59 (grow w os) base ok v xs := by
  refine Kd.R_mono (Kd.R_move (Kd.R_bound h) (fun k hk => ?_)) (fun _ hk => hk.1)
  show (w.heap ++ os)[k]? = w.heap[k]?
  rw [Array.getElem?_append_left hk.2.2.1]
def impl_Cell_102__impl_compareCells.f (l0 : List S59) : Option (List S59) := if 0 < l0.length ∧ l0.length < 4611686018427387904 then some (sortC l0) else none
set_option maxHeartbeats 4000000 in
theorem impl_Cell_102__impl_compareCells.calls (P0_ : Nat → Prop) (u9000_ : Value) (l0 : List S59) (r : List S59) (w0 w : World) (hB : Below w0.heap.size w0 w) (ho0 : Kd.R k59 59 w w0.heap.size P0_ u9000_ l0) (h : impl_Cell_102__impl_compareCells.f l0 = some r) :
    Calls Try.prog 102 #[u9000_, .func (.func 78) #[] #[]] w fun e w' => e = .returned (.tuple #[]) ∧ Kd.R k59 59 w' w0.heap.size (fun k_ => (P0_ k_ ∨ w.heap.size ≤ k_)) u9000_ r ∧ Below w0.heap.size w0 w' ∧ Kept w w' (fun k_ => P0_ k_) := by
  unfold impl_Cell_102__impl_compareCells.f at h
  by_cases hl : 0 < l0.length ∧ l0.length < 4611686018427387904
  · rw [if_pos hl] at h
    obtain rfl := Option.some.inj h
    obtain ⟨g, cap, rfl, hbase, hlt, hcells⟩ := Kd.R_form ho0 hl.1
    have hH := R_holds ho0
    have eg : ∀ args w, (callFunc 78 args).run Try.prog w = .ok (.enter 78 args) w := enters_of Try.func78 (by kernel_rfl) rfl
    have hcmp : CmpLays Try.prog 78 #[] encC 2 cmpV g 0 l0.toArray.size w := fun m os dk hdk x y =>
      (impl_compareCells.callsG x.f0 x.f1 y.f0 y.f1 (cmpV x y) _ (cmpV_eq x y)).mono fun _ _ hh => ⟨hh.1, hh.2.gr⟩
    have hcon := AnyQ.slices_SortFunc sortC_lays 2 Try.isAgg59 Try.sizeOf59 encC (fun _ => rfl) (fun x v hv => by simp [encC] at hv; rcases hv with rfl | rfl <;> rfl) cmpV swoV 78 #[] g 0 cap l0.toArray w eg hcmp hH hlt (by simpa using hl.2)
    have hsz : l0.toArray.size = l0.length := by simp
    rw [hsz] at hcon
    refine (show Calls Try.prog 102 #[.slice (some ⟨g, 0, none⟩) l0.length cap, .func (.func 78) #[] #[]] w _ from hcon).mono ?_
    rintro e w' ⟨rfl, d', n, os, hp, hs, rfl⟩
    have hd : d'.size = l0.length := by rw [hp.1]; simp
    have hr : d'.toList = sortC l0 := by
      have := sorted_unique_holds swoV antiV l0.toArray d' (by rw [hsz]; exact hp) (by rw [hsz]; exact hs)
      simpa [sortC] using this
    have hgw := sortW_grown w g n d' os
    refine ⟨rfl, ?_, pw_below_grown hB (some g) hB.size hgw (fun k hk => by injection hk with hk; exact hk ▸ hbase), ?_⟩
    · have h1 : Kd.R k59 59 (Go.Sort.ahead w n) w0.heap.size P0_ (.slice (some ⟨g, 0, none⟩) l0.length cap) l0 := Kd.R_drewN ho0 n
      have h2 := R_growO (R_putK h1 d' hd) os
      rw [hr] at h2
      exact Kd.R_mono h2 (fun _ hk => .inl hk)
    · refine ⟨hgw.size, fun i hi hn => hgw.block i hi ?_⟩
      intro e
      injection e with e
      exact hn (e ▸ ho0.1 g rfl)
  · rw [if_neg hl] at h
    exact absurd h (by simp)
def impl_sorted.f (l0 : List (S59)) : Option ((List (S59))) := (impl_Cell_101.f l0).bind fun t296 => ((impl_Cell_102__impl_compareCells.f t296).bind fun t299 => (some t299))
theorem impl_sorted.calls (A0 : Option Addr) (c0 : Nat) (l0 : List (S59)) (r : List (S59)) (w : World) (hr0 : Kd.C k59 w A0 l0.length l0) (hc0 : l0.length ≤ c0) (h : impl_sorted.f l0 = some r) :
  Calls Try.prog 85 #[.slice A0 l0.length c0] w fun e w' => ∃ v0_ : Value, e = .returned (v0_) ∧ Kd.R k59 59 w' w.heap.size (fun _ => True) v0_ r ∧ Below w.heap.size w w' := by
 have HR0 := aM hr0
 have HC0 := aM hc0
 clear hr0 hc0
 have HB := aM (Below.refl w.heap.size w)
 have H : ((impl_Cell_101.f l0).bind fun t296 => ((impl_Cell_102__impl_compareCells.f t296).bind fun t299 => (some t299))) = some r := h
 clear h
 replace H := Option.bind_eq_some_iff.mp H
 obtain ⟨t296, A20, H⟩ := H
 replace H : ((impl_Cell_102__impl_compareCells.f t296).bind fun t299 => (some t299)) = some r := H
 have A2 := aM A20
 clear A20
 replace H := Option.bind_eq_some_iff.mp H
 obtain ⟨t299, A30, H⟩ := H
 replace H : (some t299) = some r := H
 have A3 := aM A30
 clear A30
 obtain rfl := Option.some.inj H
 go_enter Try.func85, Try.ntmps85
 go_wp2_with (first | ((with_reducible refine gate_callee (f := 101) rfl ?_); refine goesL_ (some 5) rfl rfl Try.func101 (by kernel_rfl) rfl #[.slice A0 l0.length c0] rfl zm ?_; (with_reducible refine (impl_Cell_101.calls _ _ l0 t296 _ ?side1 ?side2 A2.out).mono ?_); (case side1 => repeat (first | exact HR0.out | (with_reducible refine Kd.C_alloc ?_ _) | (with_reducible refine Kd.C_drewN ?_ _) | (with_reducible refine Kd.C_drew ?_))); (case side2 => exact HC0.out); rintro e w4 ⟨v297, rfl, ho0, hb⟩; refine ⟨_, rfl, ?_⟩; have n0_ := aM (Kd.R_lower ho0 (below_size zb)); have n1_ := aM (below_step zb hb); clear HB; have HO298 := n0_; have HB := n1_; clear n0_ n1_; (try clear hb); (try clear hb2); (try clear hk); (try clear hi); (try clear ho0); obtain ⟨Ao5, co5, eo5⟩ := Kd.R_slice HO298.out; subst eo5) | ((with_reducible refine gate_callee (f := 102) rfl ?_); refine goesL_ (some 7) rfl rfl Try.func102 (by kernel_rfl) rfl #[.slice Ao5 t296.length co5, .func (.func 78) #[] #[]] rfl zm ?_; (with_reducible refine (impl_Cell_102__impl_compareCells.calls (fun k_ => some k_ = (.slice Ao5 t296.length co5 : Value).ownBlock) (.slice Ao5 t296.length co5) t296  t299 w _ ?side1 ?side2 A3.out).mono ?_); (case side1 => repeat (first | (with_reducible first | exact HB.out | apply below_alloc | apply pw_below_drewN | apply below_drew1) | exact HB.out)); (case side2 => exact Kd.R_tight rfl HO298.out); rintro e w6 ⟨rfl, hy0, hb, hkp⟩; refine ⟨_, rfl, ?_⟩; have n0_ := aM (Kd.R_reok rfl hy0 (fun k_ e_ => HO298.out.1 k_ e_)); have n1_ := aM (hb); clear HO298 HB; have HO298 := n0_; have HB := n1_; clear n0_ n1_; (try clear hb); (try clear hkp); (try clear hy0)))
 go_ret
 exact ⟨_, zw, mR_ HO298.out, zb⟩
mutual
def impl_latticeCells.l0 : Nat → Int → List (S59) → List (S59) → Int → Int → Option ((List (S59)))
 | 0, _, _, _, _, _ => none
 | k + 1, x1, x5, x11, x12, x13 => if x13 < x12 then (if 0 ≤ x13 then (if x13 < (x11.length : Int) then (if x1 ≥ 6 then (impl_latticeCells.j1 k x1 x5 x11 x12 x13 ((rd_T59 x11 x13).f1) ((rd_T59 x11 x13).f0)) else (impl_latticeCells.j1 k x1 x5 x11 x12 x13 ((rd_T59 x11 x13).f0) ((rd_T59 x11 x13).f1))) else (none)) else (none)) else ((impl_sorted.f x5).bind fun t303 => (some t303))
def impl_latticeCells.j1 : Nat → Int → List (S59) → List (S59) → Int → Int → Int → Int → Option ((List (S59)))
 | 0, _, _, _, _, _, _, _ => none
 | k + 1, x1, x5, x11, x12, x13, x308000, x308001 => impl_latticeCells.l1 k x1 x5 x11 x12 x13 (Int.tmod x1 6) 0 x308000 x308001
def impl_latticeCells.l1 : Nat → Int → List (S59) → List (S59) → Int → Int → Int → Int → Int → Int → Option ((List (S59)))
 | 0, _, _, _, _, _, _, _, _, _ => none
 | k + 1, x1, x5, x11, x12, x13, x25, x26, x308000, x308001 => if x26 < x25 then (impl_latticeCells.l1 k x1 x5 x11 x12 x13 x25 (wrap64 (x26 + 1)) (wrap64 (-x308001)) (wrap64 (x308000 + x308001))) else (if x5.length < 8796093022208 then (impl_latticeCells.l0 k x1 (x5 ++ [(⟨x308000, x308001⟩ : S59)]) x11 x12 (wrap64 (x13 + 1))) else (none))
end
def impl_latticeCells.f (k : Nat) (l0 : List (S59)) (a1 : Int) : Option ((List (S59))) := if 0 ≤ (l0.length : Int) then (if ((l0.length : Int) : Int).toNat ≤ 17592186044416 then (impl_latticeCells.l0 k a1 (([] : List (S59))) l0 (l0.length : Int) 0) else (none)) else (none)
theorem impl_latticeCells.calls (k : Nat) (A0 : Option Addr) (c0 : Nat) (l0 : List (S59)) (a1 : Int) (r : List (S59)) (w : World) (hr0 : Kd.C k59 w A0 l0.length l0) (hc0 : l0.length ≤ c0) (h : impl_latticeCells.f k l0 a1 = some r) :
  Calls Try.prog 76 #[.slice A0 l0.length c0, .int .i64 a1] w fun e w' => ∃ v0_ : Value, e = .returned (v0_) ∧ Kd.R k59 59 w' w.heap.size (fun _ => True) v0_ r ∧ Below w.heap.size w w' := by
 have hu59 := Try.underlying59
 have HR0 := aM hr0
 have HC0 := aM hc0
 clear hr0 hc0
 have HB := aM (Below.refl w.heap.size w)
 have H : (if 0 ≤ (l0.length : Int) then (if ((l0.length : Int) : Int).toNat ≤ 17592186044416 then (impl_latticeCells.l0 k a1 (([] : List (S59))) l0 (l0.length : Int) 0) else (none)) else (none)) = some r := h
 clear h
 by_cases c3 : 0 ≤ (l0.length : Int)
 rotate_left
 ·rw [if_neg c3] at H
  exact absurd H (by simp)
 rw [if_pos c3] at H
 have c3b0 := eq_true c3
 have c3b1 : decide (0 ≤ (l0.length : Int)) = true := decide_eq_true c3
 clear c3
 by_cases c4 : ((l0.length : Int) : Int).toNat ≤ 17592186044416
 rotate_left
 ·rw [if_neg c4] at H
  exact absurd H (by simp)
 rw [if_pos c4] at H
 have c4b0 := eq_true c4
 have c4b1 : decide (((l0.length : Int) : Int).toNat ≤ 17592186044416) = true := decide_eq_true c4
 clear c4
 obtain ⟨y300, hy300⟩ : ∃ y_ : List (S59), y_ = (([] : List (S59))) := ⟨_, rfl⟩
 replace H : (impl_latticeCells.l0 k a1 y300 l0 (l0.length : Int) 0) = some r := zy H hy300
 have Ny300 := aM hy300
 clear hy300
 have H' := aM H
 clear H
 go_enter Try.func76, Try.ntmps76
 go_wp2_with (first | ((with_reducible refine gate_dst (N := 10) rfl ?_); refine Kd.R_make0 k59 _ 59 rfl (N := 10) rfl 24 _ _ rfl (l0.length : Int) rfl rfl Try.underlying24 (.agg #[(.int .i64 0), (.int .i64 0)]) 16 info59 rfl (by decide) (by omega) z59 (ok := fun _ => True) (okp := fun _ => True) (k59_mkM _ _ _ z59 ) (fun _ hk => hk) trivial (of_decide_eq_true za) (Nat.le_trans (Nat.mul_le_mul_right _ (of_decide_eq_true za : (l0.length : Int).toNat ≤ 17592186044416)) (by omega)) (Below.refl _ _) (Nat.le_refl _) ?_; intro v301 w5 ho6 hb hg_ hnew_; clear hg_ hnew_; (first | rw [← Ny300.out] at ho6 | (simp only [Int.reduceToNat] at ho6; rw [← Ny300.out] at ho6)); have n0_ := aM (Kd.R_lower ho6 (below_size zb)); have n1_ := aM (below_step zb hb); clear HB; have HO302 := n0_; have HB := n1_; clear n0_ n1_; clear hb ho6))
 go_loopg [5, 13] k (fun kq v5 v13 w' => ∃ (x5_1 : List (S59)) (x13_1 : Int), v13 = .int .i64 x13_1 ∧ Aside0 (impl_latticeCells.l0 kq a1 x5_1 l0 (l0.length : Int) x13_1 = some r) ∧ Aside0 (kq ≤ k) ∧ Aside0 (Kd.R k59 59 w' w.heap.size (fun _ => True) v5 x5_1) ∧ Aside0 (Below w.heap.size w w'))
 case atStart => exact ⟨(y300), (0), zr, H', ⟨Nat.le_refl _⟩, ⟨mR_ HO302.out⟩, ⟨zb⟩⟩
 case round =>
  clear H'
  try clear p2
  try clear c3
  try clear c3b0
  try clear c3b1
  try clear c4
  try clear c4b0
  try clear c4b1
  obtain ⟨x5_1, x13_1, rfl, HA, HK1, HO_5, HB⟩ := hrel
  cases gk with
  | zero => exact absurd HA.out (by simp [impl_latticeCells.l0])
  | succ k1 =>
   have H := HA.out
   clear HA
   simp only [impl_latticeCells.l0] at H
   by_cases c7 : x13_1 < (l0.length : Int)
   rotate_left
   ·rw [if_neg c7] at H
    have c7b0 : decide (x13_1 < (l0.length : Int)) = false := decide_eq_false c7
    clear c7
    replace H := Option.bind_eq_some_iff.mp H
    obtain ⟨t303, A200, H⟩ := H
    replace H : (some t303) = some r := H
    have A20 := aM A200
    clear A200
    obtain rfl := Option.some.inj H
    obtain ⟨Ao21, co21, eo21⟩ := Kd.R_slice HO_5.out
    subst eo21
    go_wp2_with (first | ((with_reducible refine gate_callee (f := 85) rfl ?_); refine goesL_ (some 44) rfl rfl Try.func85 (by kernel_rfl) rfl #[.slice Ao21 x5_1.length co21] rfl zm ?_; (with_reducible refine (impl_sorted.calls _ _ x5_1 t303 _ ?side1 ?side2 A20.out).mono ?_); (case side1 => exact zc HO_5.out); (case side2 => exact (Kd.R_reads' HO_5.out).2.1); rintro e w22 ⟨v304, rfl, ho0, hb⟩; refine ⟨_, rfl, ?_⟩; have n0_ := aM (Kd.R_elder' (mR_ HO_5.out) (Kd.R_base ho0) hb); have n1_ := aM (Kd.R_lower (Kd.R_new' ho0 (Kd.R_lt (mR_ HO_5.out))) (below_size zb)); have n2_ := aM (below_step zb hb); clear HO_5 HB; have HO_5 := n0_; have HO305 := n1_; have HB := n2_; clear n0_ n1_ n2_; (try clear hb); (try clear hb2); (try clear hk); (try clear hi); (try clear ho0)))
    go_ret
    exact ⟨_, zw, zd0 HO305.out, zb⟩
   rw [if_pos c7] at H
   have c7b0 : decide (x13_1 < (l0.length : Int)) = true := decide_eq_true c7
   clear c7
   by_cases c8 : 0 ≤ x13_1
   rotate_left
   ·rw [if_neg c8] at H
    exact absurd H (by simp)
   rw [if_pos c8] at H
   have c8b0 : decide (0 ≤ x13_1) = true := decide_eq_true c8
   clear c8
   by_cases c9 : x13_1 < (l0.length : Int)
   rotate_left
   ·rw [if_neg c9] at H
    exact absurd H (by simp)
   rw [if_pos c9] at H
   have c9b0 : decide (x13_1 < (l0.length : Int)) = true := decide_eq_true c9
   clear c9
   have HC10 := aM H
   clear H
   have p306 : 0 ≤ (x13_1 : Int) := of_decide_eq_true za
   have q306 : x13_1 < (l0.length : Int) := of_decide_eq_true za
   obtain ⟨ad306, e306, hx306_0, hx306_1⟩ := at_T59 HR0.out x13_1 p306 q306
   cases e306
   replace hx306_0 := zk HB.out hx306_0
   replace hx306_1 := zk HB.out hx306_1
   replace p306 := eq_true p306
   replace q306 := eq_true q306
   go_upto_if 18 with (first | ((with_reducible refine gate_dst (N := 7) rfl ?_); refine zx 7 #[.int .i64 0, .int .i64 0] 59 ?_; intro gb307 hg w11 hbox hb; have n0_ := aM (Kd.R_below (Kd.R_elderB (mR_ HO_5.out) gb307 (Nat.le_of_eq hg.symm)) hb); have n1_ := aM (below_step zb hb); have n2_ := aM (hbox); have n3_ := aM ((ze : w.heap.size ≤ gb307)); have n4_ := aM ((ze : w.heap.size ≤ gb307)); clear HO_5 HB; have HO_5 := n0_; have HB := n1_; have BK307 := n2_; have GW307 := n3_; have GE307 := n4_; clear n0_ n1_ n2_ n3_ n4_ hb hbox hg; have hcz12_0 : w11.cell? ⟨gb307, 0, none⟩ = some (.int .i64 0) := (blk_cell BK307.out 0).trans rfl; have hcz12_1 : w11.cell? ⟨gb307, 1, none⟩ = some (.int .i64 0) := (blk_cell BK307.out 1).trans rfl; have hfz12_0 := blk_frozen BK307.out 0; have hfz12_1 := blk_frozen BK307.out 1))
   (try simp only [Act.put, xA, xB, xC])
   go_cut [] (fun wc => ∃ (kq : Nat) (x308000_9 : Int) (x308001_9 : Int), Aside0 (impl_latticeCells.j1 kq a1 x5_1 l0 (l0.length : Int) x13_1 x308000_9 x308001_9 = some r) ∧ Aside0 (kq ≤ k1) ∧ Aside0 (Kd.R k59 59 wc w.heap.size (fun k_ => k_ ≠ gb307) u5 x5_1) ∧ Aside0 (wc.heap[gb307]? = some (.cells #[.int .i64 x308000_9, .int .i64 x308001_9] 59 (0, 0))) ∧ Aside0 (Below w.heap.size w wc))
   case first =>
    have H := HC10.out
    clear HC10
    by_cases c13 : a1 ≥ 6
    rotate_left
    ·rw [if_neg c13] at H
     have c13b0 : decide (6 ≤ a1) = false := decide_eq_false c13
     clear c13
     (first | rw [c13b0] | (simp only [i64_w, i32_w]; rw [c13b0]) | skip)
     have H' := aM H
     clear H
     go_wp2
     go_meet
     case rel => exact ⟨_, ((rd_T59 l0 x13_1).f0), ((rd_T59 l0 x13_1).f1), H', ⟨by have := HK1.out; first | omega | exact Nat.le_refl _⟩, ⟨by (with_reducible repeat (first | apply Kd.R_alloc | apply Kd.R_drewN | apply Kd.R_drew)); exact Kd.R_mono (Kd.R_far (p := ⟨gb307, 1, none⟩) (Kd.R_far (p := ⟨gb307, 0, none⟩) (Kd.R_mono HO_5.out (fun k_ hk => (⟨hk, hk.2⟩ : _ ∧ k_ ≠ gb307))) (fun _ hk => hk.2) (.int .i64 ((rd_T59 l0 x13_1).f0))) (fun _ hk => hk.2) (.int .i64 ((rd_T59 l0 x13_1).f1))) (fun _ hk => hk.1.2)⟩, ⟨by (with_reducible repeat (first | refine blk_drewN ?_ _ | refine blk_drew ?_ | refine blk_alloc ?_ _)); refine blk_put (cs := #[.int .i64 ((rd_T59 l0 x13_1).f0), .int .i64 0]) ?_ 1 _ rfl; (with_reducible repeat (first | refine blk_drewN ?_ _ | refine blk_drew ?_ | refine blk_alloc ?_ _)); refine blk_put (cs := #[.int .i64 0, .int .i64 0]) ?_ 0 _ rfl; (with_reducible repeat (first | refine blk_drewN ?_ _ | refine blk_drew ?_ | refine blk_alloc ?_ _)); exact BK307.out⟩, ⟨zs GE307.out⟩⟩
    rw [if_pos c13] at H
    have c13b0 : decide (6 ≤ a1) = true := decide_eq_true c13
    clear c13
    (first | rw [c13b0] | (simp only [i64_w, i32_w]; rw [c13b0]) | skip)
    have H' := aM H
    clear H
    have hcz14_0 : w11.cell? ⟨gb307, 0, none⟩ = some (.int .i64 0) := (blk_cell BK307.out 0).trans rfl
    have hcz14_1 : w11.cell? ⟨gb307, 1, none⟩ = some (.int .i64 0) := (blk_cell BK307.out 1).trans rfl
    have hfz14_0 := blk_frozen BK307.out 0
    have hfz14_1 := blk_frozen BK307.out 1
    go_wp2
    go_meet
    case rel => exact ⟨_, ((rd_T59 l0 x13_1).f1), ((rd_T59 l0 x13_1).f0), H', ⟨by have := HK1.out; first | omega | exact Nat.le_refl _⟩, ⟨by (with_reducible repeat (first | apply Kd.R_alloc | apply Kd.R_drewN | apply Kd.R_drew)); exact Kd.R_mono (Kd.R_far (p := ⟨gb307, 1, none⟩) (Kd.R_far (p := ⟨gb307, 0, none⟩) (Kd.R_far (p := ⟨gb307, 1, none⟩) (Kd.R_far (p := ⟨gb307, 0, none⟩) (Kd.R_mono HO_5.out (fun k_ hk => (⟨hk, hk.2⟩ : _ ∧ k_ ≠ gb307))) (fun _ hk => hk.2) (.int .i64 ((rd_T59 l0 x13_1).f0))) (fun _ hk => hk.2) (.int .i64 ((rd_T59 l0 x13_1).f1))) (fun _ hk => hk.2) (.int .i64 ((rd_T59 l0 x13_1).f1))) (fun _ hk => hk.2) (.int .i64 ((rd_T59 l0 x13_1).f0))) (fun _ hk => hk.1.2)⟩, ⟨by (with_reducible repeat (first | refine blk_drewN ?_ _ | refine blk_drew ?_ | refine blk_alloc ?_ _)); refine blk_put (cs := #[.int .i64 ((rd_T59 l0 x13_1).f1), .int .i64 ((rd_T59 l0 x13_1).f1)]) ?_ 1 _ rfl; (with_reducible repeat (first | refine blk_drewN ?_ _ | refine blk_drew ?_ | refine blk_alloc ?_ _)); refine blk_put (cs := #[.int .i64 ((rd_T59 l0 x13_1).f0), .int .i64 ((rd_T59 l0 x13_1).f1)]) ?_ 0 _ rfl; (with_reducible repeat (first | refine blk_drewN ?_ _ | refine blk_drew ?_ | refine blk_alloc ?_ _)); refine blk_put (cs := #[.int .i64 ((rd_T59 l0 x13_1).f0), .int .i64 0]) ?_ 1 _ rfl; (with_reducible repeat (first | refine blk_drewN ?_ _ | refine blk_drew ?_ | refine blk_alloc ?_ _)); refine blk_put (cs := #[.int .i64 0, .int .i64 0]) ?_ 0 _ rfl; (with_reducible repeat (first | refine blk_drewN ?_ _ | refine blk_drew ?_ | refine blk_alloc ?_ _)); exact BK307.out⟩, ⟨zs GE307.out⟩⟩
   case rest =>
    clear HC10
    try clear c1
    try clear p2
    try clear c3
    try clear c3b0
    try clear c3b1
    try clear p3
    try clear q3
    try clear hx3
    try clear c4
    try clear c4b0
    try clear c4b1
    try clear c7
    try clear c7b0
    try clear c8
    try clear c8b0
    try clear c9
    try clear c9b0
    try clear c13
    try clear c13b0
    try clear hcz12_0
    try clear hcz12_1
    try clear hcz14_0
    try clear hcz14_1
    try clear hfz12_0
    try clear hfz12_1
    try clear hfz14_0
    try clear hfz14_1
    try clear hx306_0
    try clear hx306_1
    try clear p2
    try clear p306
    try clear q306
    obtain ⟨kq, x308000_9, x308001_9, HA, HJ9, HO_5, BK307, HB⟩ := hcut
    cases kq with
    | zero => exact absurd HA.out (by simp [impl_latticeCells.j1])
    | succ kj9 =>
     have H := HA.out
     clear HA
     simp only [impl_latticeCells.j1] at H
     have H' := aM H
     clear H
     go_wp2
     go_loopg [26] kj9 (fun kq v26 w' => ∃ (x26_3 : Int) (x308000_3 : Int) (x308001_3 : Int), v26 = .int .i64 x26_3 ∧ Aside0 (impl_latticeCells.l1 kq a1 x5_1 l0 (l0.length : Int) x13_1 (Int.tmod a1 6) x26_3 x308000_3 x308001_3 = some r) ∧ Aside0 (kq ≤ kj9) ∧ Aside0 (Kd.R k59 59 w' w.heap.size (fun k_ => k_ ≠ gb307) u5 x5_1) ∧ Aside0 (w'.heap[gb307]? = some (.cells #[.int .i64 x308000_3, .int .i64 x308001_3] 59 (0, 0))) ∧ Aside0 (Below w.heap.size w w'))
     case atStart => exact ⟨(0), (x308000_9), (x308001_9), zr, H', ⟨Nat.le_refl _⟩, ⟨mR_ HO_5.out⟩, ⟨mB_ BK307.out⟩, ⟨zs GE307.out⟩⟩
     case round =>
      clear H'
      try clear c1
      try clear p2
      try clear c3
      try clear c3b0
      try clear c3b1
      try clear p3
      try clear q3
      try clear hx3
      try clear c4
      try clear c4b0
      try clear c4b1
      try clear c7
      try clear c7b0
      try clear c8
      try clear c8b0
      try clear c9
      try clear c9b0
      try clear c13
      try clear c13b0
      try clear hcz12_0
      try clear hcz12_1
      try clear hcz14_0
      try clear hcz14_1
      try clear hfz12_0
      try clear hfz12_1
      try clear hfz14_0
      try clear hfz14_1
      try clear hx306_0
      try clear hx306_1
      try clear p2
      try clear p3
      try clear p306
      try clear q3
      try clear q306
      obtain ⟨x26_3, x308000_3, x308001_3, rfl, HA, HK3, HO_5, BK307, HB⟩ := hrel
      cases gk with
      | zero => exact absurd HA.out (by simp [impl_latticeCells.l1])
      | succ k3 =>
       have H := HA.out
       clear HA
       simp only [impl_latticeCells.l1] at H
       by_cases c15 : x26_3 < (Int.tmod a1 6)
       ·rw [if_pos c15] at H
        have c15b0 : decide (x26_3 < (Int.tmod a1 6)) = true := decide_eq_true c15
        clear c15
        have H' := aM H
        clear H
        have hcz16_0 : wr.cell? ⟨gb307, 0, none⟩ = some (.int .i64 x308000_3) := (blk_cell BK307.out 0).trans rfl
        have hcz16_1 : wr.cell? ⟨gb307, 1, none⟩ = some (.int .i64 x308001_3) := (blk_cell BK307.out 1).trans rfl
        have hfz16_0 := blk_frozen BK307.out 0
        have hfz16_1 := blk_frozen BK307.out 1
        go_wp2
        go_roundg k3
        case measure => have := HK1.out; have := HJ9.out; have := HK3.out; omega
        case rel => exact ⟨(wrap64 (x26_3 + 1)), (wrap64 (-x308001_3)), (wrap64 (x308000_3 + x308001_3)), zr, H', ⟨by have := HK1.out; have := HJ9.out; have := HK3.out; omega⟩, ⟨by (with_reducible repeat (first | apply Kd.R_alloc | apply Kd.R_drewN | apply Kd.R_drew)); exact Kd.R_mono (Kd.R_far (p := ⟨gb307, 1, none⟩) (Kd.R_far (p := ⟨gb307, 0, none⟩) (Kd.R_mono HO_5.out (fun k_ hk => (⟨hk, hk⟩ : _ ∧ k_ ≠ gb307))) (fun _ hk => hk.2) (.int .i64 (wrap64 (-x308001_3)))) (fun _ hk => hk.2) (.int .i64 (wrap64 (x308000_3 + x308001_3)))) (fun _ hk => hk.1)⟩, ⟨by (with_reducible repeat (first | refine blk_drewN ?_ _ | refine blk_drew ?_ | refine blk_alloc ?_ _)); refine blk_put (cs := #[.int .i64 (wrap64 (-x308001_3)), .int .i64 x308001_3]) ?_ 1 _ rfl; (with_reducible repeat (first | refine blk_drewN ?_ _ | refine blk_drew ?_ | refine blk_alloc ?_ _)); refine blk_put (cs := #[.int .i64 x308000_3, .int .i64 x308001_3]) ?_ 0 _ rfl; (with_reducible repeat (first | refine blk_drewN ?_ _ | refine blk_drew ?_ | refine blk_alloc ?_ _)); exact BK307.out⟩, ⟨zs GE307.out⟩⟩
       rw [if_neg c15] at H
       have c15b0 : decide (x26_3 < (Int.tmod a1 6)) = false := decide_eq_false c15
       clear c15
       by_cases c17 : x5_1.length < 8796093022208
       rotate_left
       ·rw [if_neg c17] at H
        exact absurd H (by simp)
       rw [if_pos c17] at H
       have LMc17 := aM c17
       clear c17
       obtain ⟨y308, hy308⟩ : ∃ y_ : List (S59), y_ = (x5_1 ++ [(⟨x308000_3, x308001_3⟩ : S59)]) := ⟨_, rfl⟩
       replace H : (impl_latticeCells.l0 k3 a1 y308 l0 (l0.length : Int) (wrap64 (x13_1 + 1))) = some r := zy H hy308
       have Ny308 := aM hy308
       clear hy308
       have H' := aM H
       clear H
       have hcz18_0 : wr.cell? ⟨gb307, 0, none⟩ = some (.int .i64 x308000_3) := (blk_cell BK307.out 0).trans rfl
       have hcz18_1 : wr.cell? ⟨gb307, 1, none⟩ = some (.int .i64 x308001_3) := (blk_cell BK307.out 1).trans rfl
       have hfz18_0 := blk_frozen BK307.out 0
       have hfz18_1 := blk_frozen BK307.out 1
       go_wp2_with (first | ((with_reducible refine gate_builtin (b := .append) (xs := #[.tmp 38, .tmp 40]) rfl ?_); at_builtin; refine Kd.R_append k59 (w0 := w) w.heap.size rfl (.tmp 38) (.tmp 40) 24 59 (.agg #[(.int .i64 0), (.int .i64 0)]) 16 rfl Try.underlying24 info59 rfl (by decide) (by omega) u5 x5_1 (⟨x308000_3, x308001_3⟩ : S59) [.int .i64 x308000_3, .int .i64 x308001_3] (fun k_ => k_ ≠ gb307) (fun _ => False) rfl rfl ?aP (fun _ hk => hk.elim) ?aF ?aO ?aB ?aS ?aL ?_; (case aP => exact k59_mkM _ _ _ (⟨x308000_3, x308001_3⟩ : S59)); (case aB => exact (zs GE307.out)); (case aF => exact (fun k_ hk => Kd.freshB (g := gb307) (o := .cells #[.int .i64 x308000_3, .int .i64 x308001_3] 59 (0, 0)) (mB_ BK307.out) k_ hk)); (case aO => exact (mR_ HO_5.out)); (case aS => exact (below_size (zs GE307.out))); (case aL => have := LMc17.out; omega); intro v309 w19 ho hb hg hat; rw [← Ny308.out] at ho; have n0_ := aM (blk_grown (g := gb307) (o := .cells #[.int .i64 x308000_3, .int .i64 x308001_3] 59 (0, 0)) (mB_ BK307.out) hg (Kd.R_away HO_5.out (fun _ hk => hk))); have n1_ := aM (hb); have n2_ := aM (ho); clear BK307 HB HO_5; have BK307 := n0_; have HB := n1_; have HO310 := n2_; clear n0_ n1_ n2_; clear ho hb hg hat))
       go_roundg k3
       case measure => have := HK1.out; have := HJ9.out; have := HK3.out; omega
       case rel => exact ⟨(y308), (wrap64 (x13_1 + 1)), zr, H', ⟨by have := HK1.out; have := HJ9.out; have := HK3.out; omega⟩, ⟨zd0 HO310.out⟩, ⟨zs GE307.out⟩⟩
def spec_l01In.f (a0 : Int) (a1 : Int) (a2 : Int) : Option (Bool) := if a0 ≥ a1 then (some (decide (a0 ≤ a2))) else (some false)
theorem spec_l01In.calls (a0 : Int) (a1 : Int) (a2 : Int) (r : Bool) (w : World) (h : spec_l01In.f a0 a1 a2 = some r) :
  Calls Try.prog 49 #[.int .i64 a0, .int .i64 a1, .int .i64 a2] w fun e w' => e = .returned (.bool r) ∧ Drawn0 w w' := by
 have H : (if a0 ≥ a1 then (some (decide (a0 ≤ a2))) else (some false)) = some r := h
 clear h
 by_cases c4 : a0 ≥ a1
 ·rw [if_pos c4] at H
  have c4b0 : decide (a1 ≤ a0) = true := decide_eq_true c4
  clear c4
  obtain rfl := Option.some.inj H
  go_enter Try.func49, Try.ntmps49
  go_wp2
  go_ret
  exact ⟨by first | rfl | (simp; done) | (simp [*]; done), by repeat (first | exact Drawn0.refl _ | apply Drawn0.step)⟩
 rw [if_neg c4] at H
 have c4b0 : decide (a1 ≤ a0) = false := decide_eq_false c4
 clear c4
 obtain rfl := Option.some.inj H
 go_enter Try.func49, Try.ntmps49
 go_wp2
 go_ret
 exact ⟨by first | rfl | (simp; done) | (simp [*]; done), by repeat (first | exact Drawn0.refl _ | apply Drawn0.step)⟩
end Go.Proofs.Ytlnliahadgmbcaa.F
end
section
namespace Go.Proofs.Ytlnliahadgmbcaa.F
open Go.RowKit Go.Proofs.YtlnliahadgmbcaaW.PrintWords Go.Proofs.YtlnliahadgmbcaaW.PrintLast Go.Proofs.YtlnliahadgmbcaaW.PrintMore
attribute [local go_sem] max2_int min2_int max_two min_two max_three min_three max_four min_four
set_option linter.unusedVariables false
set_option linter.unusedSimpArgs false
def impl_normal.f (k : Nat) (l0 : List (S59)) : Option ((List (S59))) := (impl_corner.f k l0).bind fun bt650 => ((impl_moved.f k l0 (wrap64 (-bt650.1)) (wrap64 (-bt650.2))).bind fun t653 => (some t653))
theorem impl_normal.calls (k : Nat) (A0 : Option Addr) (c0 : Nat) (l0 : List (S59)) (r : List (S59)) (w : World) (hr0 : Kd.C k59 w A0 l0.length l0) (hc0 : l0.length ≤ c0) (h : impl_normal.f k l0 = some r) :
  Calls Try.prog 66 #[.slice A0 l0.length c0] w fun e w' => ∃ v0_ : Value, e = .returned (v0_) ∧ Kd.R k59 59 w' w.heap.size (fun _ => True) v0_ r ∧ Below w.heap.size w w' := by
 have hu59 := Try.underlying59
 have HR0 := aM hr0
 have HC0 := aM hc0
 clear hr0 hc0
 have HB := aM (Below.refl w.heap.size w)
 have H : ((impl_corner.f k l0).bind fun bt650 => ((impl_moved.f k l0 (wrap64 (-bt650.1)) (wrap64 (-bt650.2))).bind fun t653 => (some t653))) = some r := h
 clear h
 replace H := Option.bind_eq_some_iff.mp H
 obtain ⟨⟨t650, t651⟩, A20, H⟩ := H
 replace H : ((impl_moved.f k l0 (wrap64 (-t650)) (wrap64 (-t651))).bind fun t653 => (some t653)) = some r := H
 have A2 := aM A20
 clear A20
 replace H := Option.bind_eq_some_iff.mp H
 obtain ⟨t653, A30, H⟩ := H
 replace H : (some t653) = some r := H
 have A3 := aM A30
 clear A30
 obtain rfl := Option.some.inj H
 go_enter Try.func66, Try.ntmps66
 go_wp2_with (first | ((with_reducible refine gate_callee (f := 94) rfl ?_); refine goesL_ (some 5) rfl rfl Try.func94 (by kernel_rfl) rfl #[.slice A0 l0.length c0] rfl zm ?_; (with_reducible refine (impl_corner.calls k _ _ l0 t650 t651 _ ?side1 ?side2 A2.out).mono ?_); (case side1 => repeat (first | exact HR0.out | (with_reducible refine Kd.C_alloc ?_ _) | (with_reducible refine Kd.C_drewN ?_ _) | (with_reducible refine Kd.C_drew ?_))); (case side2 => exact HC0.out); rintro e w4 ⟨rfl, hb⟩; refine ⟨_, rfl, ?_⟩; have n0_ := aM (below_step zb hb); clear HB; have HB := n0_; clear n0_; (try clear hb); (try clear hb2); (try clear hk); (try clear hi)) | ((with_reducible refine gate_dst (N := 3) rfl ?_); refine zx 3 #[.int .i64 0, .int .i64 0] 59 ?_; intro gb652 hg w5 hbox hb; have n0_ := aM (below_step zb hb); have n1_ := aM (hbox); have n2_ := aM ((ze : w.heap.size ≤ gb652)); have n3_ := aM ((ze : w.heap.size ≤ gb652)); clear HB; have HB := n0_; have BK652 := n1_; have GW652 := n2_; have GE652 := n3_; clear n0_ n1_ n2_ n3_ hb hbox hg; have hcz6_0 : w5.cell? ⟨gb652, 0, none⟩ = some (.int .i64 0) := (blk_cell BK652.out 0).trans rfl; have hcz6_1 : w5.cell? ⟨gb652, 1, none⟩ = some (.int .i64 0) := (blk_cell BK652.out 1).trans rfl; have hfz6_0 := blk_frozen BK652.out 0; have hfz6_1 := blk_frozen BK652.out 1) | ((with_reducible refine gate_callee (f := 95) rfl ?_); refine goesL_ (some 13) rfl rfl Try.func95 (by kernel_rfl) rfl #[.slice A0 l0.length c0, .int .i64 (wrap64 (-t650)), .int .i64 (wrap64 (-t651))] rfl zm ?_; (with_reducible refine (impl_moved.calls k _ _ l0 (wrap64 (-t650)) (wrap64 (-t651)) t653 _ ?side1 ?side2 A3.out).mono ?_); (case side1 => exact Kd.C_below HR0.out (zs GE652.out)); (case side2 => exact HC0.out); rintro e w7 ⟨v654, rfl, ho0, hb⟩; refine ⟨_, rfl, ?_⟩; have n0_ := aM (Kd.R_lower (Kd.R_newB ho0 (g := gb652) (o := .cells #[.int .i64 t650, .int .i64 t651] 59 (0, 0)) (by (with_reducible repeat (first | refine blk_drewN ?_ _ | refine blk_drew ?_ | refine blk_alloc ?_ _)); refine blk_put (cs := #[.int .i64 t650, .int .i64 0]) ?_ 1 _ rfl; (with_reducible repeat (first | refine blk_drewN ?_ _ | refine blk_drew ?_ | refine blk_alloc ?_ _)); refine blk_put (cs := #[.int .i64 0, .int .i64 0]) ?_ 0 _ rfl; (with_reducible repeat (first | refine blk_drewN ?_ _ | refine blk_drew ?_ | refine blk_alloc ?_ _)); exact BK652.out)) (below_size (zs GE652.out))); have n1_ := aM (blk_below (g := gb652) (o := .cells #[.int .i64 t650, .int .i64 t651] 59 (0, 0)) (by (with_reducible repeat (first | refine blk_drewN ?_ _ | refine blk_drew ?_ | refine blk_alloc ?_ _)); refine blk_put (cs := #[.int .i64 t650, .int .i64 0]) ?_ 1 _ rfl; (with_reducible repeat (first | refine blk_drewN ?_ _ | refine blk_drew ?_ | refine blk_alloc ?_ _)); refine blk_put (cs := #[.int .i64 0, .int .i64 0]) ?_ 0 _ rfl; (with_reducible repeat (first | refine blk_drewN ?_ _ | refine blk_drew ?_ | refine blk_alloc ?_ _)); exact BK652.out) hb); have n2_ := aM (below_step (zs GE652.out) hb); clear BK652 HB; have HO655 := n0_; have BK652 := n1_; have HB := n2_; clear n0_ n1_ n2_; (try clear hb); (try clear hb2); (try clear hk); (try clear hi); (try clear ho0)))
 go_ret
 exact ⟨_, zw, zd0 HO655.out, zs GE652.out⟩
def impl_hexAround.f (a0_0 : Int) (a0_1 : Int) : Option ((List (S59))) := some (([(⟨a0_0, wrap64 (a0_1 - 1)⟩ : S59), (⟨wrap64 (a0_0 + 1), wrap64 (a0_1 - 1)⟩ : S59), (⟨wrap64 (a0_0 - 1), a0_1⟩ : S59), (⟨wrap64 (a0_0 + 1), a0_1⟩ : S59), (⟨wrap64 (a0_0 - 1), wrap64 (a0_1 + 1)⟩ : S59), (⟨a0_0, wrap64 (a0_1 + 1)⟩ : S59)] : List (S59)))
theorem impl_hexAround.calls (a0_0 : Int) (a0_1 : Int) (r : List (S59)) (w : World) (h : impl_hexAround.f a0_0 a0_1 = some r) :
  Calls Try.prog 71 #[.agg #[.int .i64 a0_0, .int .i64 a0_1]] w fun e w' => ∃ v0_ : Value, e = .returned (v0_) ∧ Kd.R k59 59 w' w.heap.size (fun _ => True) v0_ r ∧ Below w.heap.size w w' := by
 have hu59 := Try.underlying59
 have HB := aM (Below.refl w.heap.size w)
 have H : (some (([(⟨a0_0, wrap64 (a0_1 - 1)⟩ : S59), (⟨wrap64 (a0_0 + 1), wrap64 (a0_1 - 1)⟩ : S59), (⟨wrap64 (a0_0 - 1), a0_1⟩ : S59), (⟨wrap64 (a0_0 + 1), a0_1⟩ : S59), (⟨wrap64 (a0_0 - 1), wrap64 (a0_1 + 1)⟩ : S59), (⟨a0_0, wrap64 (a0_1 + 1)⟩ : S59)] : List (S59)))) = some r := h
 clear h
 obtain ⟨y657, hy657⟩ : ∃ y_ : List (S59), y_ = (([(⟨a0_0, wrap64 (a0_1 - 1)⟩ : S59), (⟨wrap64 (a0_0 + 1), wrap64 (a0_1 - 1)⟩ : S59), (⟨wrap64 (a0_0 - 1), a0_1⟩ : S59), (⟨wrap64 (a0_0 + 1), a0_1⟩ : S59), (⟨wrap64 (a0_0 - 1), wrap64 (a0_1 + 1)⟩ : S59), (⟨a0_0, wrap64 (a0_1 + 1)⟩ : S59)] : List (S59))) := ⟨_, rfl⟩
 replace H : (some y657) = some r := zy H hy657
 have Ny657 := aM hy657
 clear hy657
 obtain rfl := Option.some.inj H
 go_enter Try.func71, Try.ntmps71
 go_wp2_with (first | ((with_reducible refine gate_dst (N := 1) rfl ?_); refine zx 1 #[.int .i64 a0_0, .int .i64 a0_1] 59 ?_; intro gb656 hg w2 hbox hb; have n0_ := aM (below_step zb hb); have n1_ := aM (hbox); have n2_ := aM ((ze : w.heap.size ≤ gb656)); have n3_ := aM ((ze : w.heap.size ≤ gb656)); clear HB; have HB := n0_; have BK656 := n1_; have GW656 := n2_; have GE656 := n3_; clear n0_ n1_ n2_ n3_ hb hbox hg; have hcz3_0 : w2.cell? ⟨gb656, 0, none⟩ = some (.int .i64 a0_0) := (blk_cell BK656.out 0).trans rfl; have hcz3_1 : w2.cell? ⟨gb656, 1, none⟩ = some (.int .i64 a0_1) := (blk_cell BK656.out 1).trans rfl; have hfz3_0 := blk_frozen BK656.out 0; have hfz3_1 := blk_frozen BK656.out 1) | ((with_reducible refine gate_dst (N := 41) rfl ?_); refine Kd.R_lit k59 _ 59 ?hg (N := 41) ?hd (xs := ([(⟨a0_0, wrap64 (a0_1 - 1)⟩ : S59), (⟨wrap64 (a0_0 + 1), wrap64 (a0_1 - 1)⟩ : S59), (⟨wrap64 (a0_0 - 1), a0_1⟩ : S59), (⟨wrap64 (a0_0 + 1), a0_1⟩ : S59), (⟨wrap64 (a0_0 - 1), wrap64 (a0_1 + 1)⟩ : S59), (⟨a0_0, wrap64 (a0_1 + 1)⟩ : S59)] : List (S59))) (inner := [.int .i64 a0_0, .int .i64 (wrap64 (a0_1 - 1)), .int .i64 (wrap64 (a0_0 + 1)), .int .i64 (wrap64 (a0_1 - 1)), .int .i64 (wrap64 (a0_0 - 1)), .int .i64 a0_1, .int .i64 (wrap64 (a0_0 + 1)), .int .i64 a0_1, .int .i64 (wrap64 (a0_0 - 1)), .int .i64 (wrap64 (a0_1 + 1)), .int .i64 a0_0, .int .i64 (wrap64 (a0_1 + 1))]) (ok := fun _ => True) (okp := fun _ => True) ?hr ?hp (fun _ hk => hk) trivial (Below.refl _ _) (Nat.le_refl _) (by simp) ?_; (case hd => rfl); (case hg => rfl); (case hr => first | (go_simp; done) | (go_simp; rfl)); (case hp => exact (Reps.c2 (show Kd.M k59 _ _ _ (⟨a0_0, wrap64 (a0_1 - 1)⟩ : S59) [.int .i64 a0_0, .int .i64 (wrap64 (a0_1 - 1))] from (k59_mkM _ _ _ (⟨a0_0, wrap64 (a0_1 - 1)⟩ : S59) )) (Reps.c2 (show Kd.M k59 _ _ _ (⟨wrap64 (a0_0 + 1), wrap64 (a0_1 - 1)⟩ : S59) [.int .i64 (wrap64 (a0_0 + 1)), .int .i64 (wrap64 (a0_1 - 1))] from (k59_mkM _ _ _ (⟨wrap64 (a0_0 + 1), wrap64 (a0_1 - 1)⟩ : S59) )) (Reps.c2 (show Kd.M k59 _ _ _ (⟨wrap64 (a0_0 - 1), a0_1⟩ : S59) [.int .i64 (wrap64 (a0_0 - 1)), .int .i64 a0_1] from (k59_mkM _ _ _ (⟨wrap64 (a0_0 - 1), a0_1⟩ : S59) )) (Reps.c2 (show Kd.M k59 _ _ _ (⟨wrap64 (a0_0 + 1), a0_1⟩ : S59) [.int .i64 (wrap64 (a0_0 + 1)), .int .i64 a0_1] from (k59_mkM _ _ _ (⟨wrap64 (a0_0 + 1), a0_1⟩ : S59) )) (Reps.c2 (show Kd.M k59 _ _ _ (⟨wrap64 (a0_0 - 1), wrap64 (a0_1 + 1)⟩ : S59) [.int .i64 (wrap64 (a0_0 - 1)), .int .i64 (wrap64 (a0_1 + 1))] from (k59_mkM _ _ _ (⟨wrap64 (a0_0 - 1), wrap64 (a0_1 + 1)⟩ : S59) )) (Reps.c2 (show Kd.M k59 _ _ _ (⟨a0_0, wrap64 (a0_1 + 1)⟩ : S59) [.int .i64 a0_0, .int .i64 (wrap64 (a0_1 + 1))] from (k59_mkM _ _ _ (⟨a0_0, wrap64 (a0_1 + 1)⟩ : S59) )) (Reps.none _ _)))))))); intro v658 w4 ho5 hb hg_ hnew_; clear hg_ hnew_; (first | rw [← Ny657.out] at ho5 | (simp only [Int.reduceToNat] at ho5; rw [← Ny657.out] at ho5)); have n0_ := aM (Kd.R_lower (Kd.R_newB ho5 (g := gb656) (o := .cells #[.int .i64 a0_0, .int .i64 a0_1] 59 (0, 0)) (mB_ BK656.out)) (below_size (zs GE656.out))); have n1_ := aM (blk_below (g := gb656) (o := .cells #[.int .i64 a0_0, .int .i64 a0_1] 59 (0, 0)) (mB_ BK656.out) hb); have n2_ := aM (below_step (zs GE656.out) hb); clear BK656 HB; have HO659 := n0_; have BK656 := n1_; have HB := n2_; clear n0_ n1_ n2_; clear hb ho5))
 go_ret
 exact ⟨_, zw, zd0 HO659.out, zs GE656.out⟩
def impl_hexForm.f (k : Nat) (l0 : List (S59)) (a1 : Int) : Option ((List (S59))) := (impl_latticeCells.f k l0 a1).bind fun t736 => ((impl_normal.f k t736).bind fun t739 => (some t739))
theorem impl_hexForm.calls (k : Nat) (A0 : Option Addr) (c0 : Nat) (l0 : List (S59)) (a1 : Int) (r : List (S59)) (w : World) (hr0 : Kd.C k59 w A0 l0.length l0) (hc0 : l0.length ≤ c0) (h : impl_hexForm.f k l0 a1 = some r) :
  Calls Try.prog 55 #[.slice A0 l0.length c0, .int .i64 a1] w fun e w' => ∃ v0_ : Value, e = .returned (v0_) ∧ Kd.R k59 59 w' w.heap.size (fun _ => True) v0_ r ∧ Below w.heap.size w w' := by
 have HR0 := aM hr0
 have HC0 := aM hc0
 clear hr0 hc0
 have HB := aM (Below.refl w.heap.size w)
 have H : ((impl_latticeCells.f k l0 a1).bind fun t736 => ((impl_normal.f k t736).bind fun t739 => (some t739))) = some r := h
 clear h
 replace H := Option.bind_eq_some_iff.mp H
 obtain ⟨t736, A30, H⟩ := H
 replace H : ((impl_normal.f k t736).bind fun t739 => (some t739)) = some r := H
 have A3 := aM A30
 clear A30
 replace H := Option.bind_eq_some_iff.mp H
 obtain ⟨t739, A40, H⟩ := H
 replace H : (some t739) = some r := H
 have A4 := aM A40
 clear A40
 obtain rfl := Option.some.inj H
 go_enter Try.func55, Try.ntmps55
 go_wp2_with (first | ((with_reducible refine gate_callee (f := 76) rfl ?_); refine goesL_ (some 7) rfl rfl Try.func76 (by kernel_rfl) rfl #[.slice A0 l0.length c0, .int .i64 a1] rfl zm ?_; (with_reducible refine (impl_latticeCells.calls k _ _ l0 a1 t736 _ ?side1 ?side2 A3.out).mono ?_); (case side1 => repeat (first | exact HR0.out | (with_reducible refine Kd.C_alloc ?_ _) | (with_reducible refine Kd.C_drewN ?_ _) | (with_reducible refine Kd.C_drew ?_))); (case side2 => exact HC0.out); rintro e w5 ⟨v737, rfl, ho0, hb⟩; refine ⟨_, rfl, ?_⟩; have n0_ := aM (Kd.R_lower ho0 (below_size zb)); have n1_ := aM (below_step zb hb); clear HB; have HO738 := n0_; have HB := n1_; clear n0_ n1_; (try clear hb); (try clear hb2); (try clear hk); (try clear hi); (try clear ho0); obtain ⟨Ao6, co6, eo6⟩ := Kd.R_slice HO738.out; subst eo6) | ((with_reducible refine gate_callee (f := 66) rfl ?_); refine goesL_ (some 8) rfl rfl Try.func66 (by kernel_rfl) rfl #[.slice Ao6 t736.length co6] rfl zm ?_; (with_reducible refine (impl_normal.calls k _ _ t736 t739 _ ?side1 ?side2 A4.out).mono ?_); (case side1 => exact zc HO738.out); (case side2 => exact (Kd.R_reads' HO738.out).2.1); rintro e w7 ⟨v740, rfl, ho0, hb⟩; refine ⟨_, rfl, ?_⟩; have n0_ := aM (Kd.R_elder' (mR_ HO738.out) (Kd.R_base ho0) hb); have n1_ := aM (Kd.R_lower (Kd.R_new' ho0 (Kd.R_lt (mR_ HO738.out))) (below_size zb)); have n2_ := aM (below_step zb hb); clear HO738 HB; have HO738 := n0_; have HO741 := n1_; have HB := n2_; clear n0_ n1_ n2_; (try clear hb); (try clear hb2); (try clear hk); (try clear hi); (try clear ho0)))
 go_ret
 exact ⟨_, zw, zd0 HO741.out, zb⟩
def impl_leastForm__impl_hexForm.l0 : Nat → List (S59) → List (List (S59)) → Int → Option ((List (S59)) × Bool)
 | 0, _, _, _ => none
 | k + 1, x0, x6, x10 => if x10 < 12 then ((impl_hexForm.f k x0 x10).bind fun t748 => ((impl_IsShape.f k t748).bind fun t751 => (if t751 = true then (if x6.length < 5864062014805 then (impl_leastForm__impl_hexForm.l0 k x0 (x6 ++ [t748]) (wrap64 (x10 + 1))) else (none)) else (some (([] : List (S59)), false))))) else ((impl_leastOf.f k x6).bind fun t745 => (some (t745, true)))
def impl_leastForm__impl_hexForm.f (k : Nat) (l0 : List (S59))  : Option ((List (S59)) × Bool) := impl_leastForm__impl_hexForm.l0 k l0 (([] : List (List (S59)))) 0
theorem impl_leastForm__impl_hexForm.calls (k : Nat) (A0 : Option Addr) (c0 : Nat) (l0 : List (S59))  (r1 : List (S59)) (r2 : Bool) (w : World) (hr0 : Kd.C k59 w A0 l0.length l0) (hc0 : l0.length ≤ c0) (h : impl_leastForm__impl_hexForm.f k l0 = some (r1, r2)) :
  Calls Try.prog 42 #[.slice A0 l0.length c0, .func (.func 55) #[] #[]] w fun e w' => ∃ v0_ : Value, e = .returned (.tuple #[v0_, .bool r2]) ∧ Kd.R k59 59 w' w.heap.size (fun _ => True) v0_ r1 ∧ Below w.heap.size w w' := by
 have HR0 := aM hr0
 have HC0 := aM hc0
 clear hr0 hc0
 have HB := aM (Below.refl w.heap.size w)
 have H : (impl_leastForm__impl_hexForm.l0 k l0 (([] : List (List (S59)))) 0) = some (r1, r2) := h
 clear h
 obtain ⟨y742, hy742⟩ : ∃ y_ : List (List (S59)), y_ = (([] : List (List (S59)))) := ⟨_, rfl⟩
 replace H : (impl_leastForm__impl_hexForm.l0 k l0 y742 0) = some (r1, r2) := zy H hy742
 have Ny742 := aM hy742
 clear hy742
 have H' := aM H
 clear H
 go_enter Try.func42, Try.ntmps42
 go_wp2_with (first | ((with_reducible refine gate_dst (N := 9) rfl ?_); refine Kd.S_lit (Kd.slice 59 k59) _ 24 ?hg (N := 9) ?hd (xs := ([] : List (List (S59)))) (inner := []) (ok := fun _ => True) (okp := fun _ => True) ?hr ?hp (fun _ hk => hk) trivial (Below.refl _ _) (Nat.le_refl _) (by simp) ?_; (case hd => rfl); (case hg => rfl); (case hr => first | (go_simp; done) | (go_simp; rfl)); (case hp => exact (Reps.none _ _)); intro v743 w3 ho4 hb hg_ hnew_; clear hg_ hnew_; (first | rw [← Ny742.out] at ho4 | (simp only [Int.reduceToNat] at ho4; rw [← Ny742.out] at ho4)); have n0_ := aM (Kd.S_lower (Kd.S_newM (M := fun k_ => (w.heap.size ≤ k_)) ho4 (below_size zb) (fun k_ h_ => h_)) (below_size zb)); have n1_ := aM (below_step zb hb); clear HB; have HO744 := n0_; have HB := n1_; clear n0_ n1_; clear hb ho4))
 go_loopg [6, 10] k (fun kq v6 v10 w' => ∃ (x6_1 : List (List (S59))) (x10_1 : Int), v10 = .int .i64 x10_1 ∧ Aside0 (impl_leastForm__impl_hexForm.l0 kq l0 x6_1 x10_1 = some (r1, r2)) ∧ Aside0 (kq ≤ k) ∧ Aside0 (Kd.S (Kd.slice 59 k59) 24 w' w.heap.size (fun k_ => (w.heap.size ≤ k_)) v6 x6_1) ∧ Aside0 (Below w.heap.size w w'))
 case atStart => exact ⟨(y742), (0), zr, H', ⟨Nat.le_refl _⟩, ⟨zd2 HO744.out⟩, ⟨zb⟩⟩
 case round =>
  clear H'
  try clear p2
  obtain ⟨x6_1, x10_1, rfl, HA, HK1, HO_6, HB⟩ := hrel
  cases gk with
  | zero => exact absurd HA.out (by simp [impl_leastForm__impl_hexForm.l0])
  | succ k1 =>
   have H := HA.out
   clear HA
   simp only [impl_leastForm__impl_hexForm.l0] at H
   by_cases c5 : x10_1 < 12
   rotate_left
   ·rw [if_neg c5] at H
    have c5b0 : decide (x10_1 < 12) = false := decide_eq_false c5
    clear c5
    replace H := Option.bind_eq_some_iff.mp H
    obtain ⟨t745, A170, H⟩ := H
    replace H : (some (t745, true)) = some (r1, r2) := H
    have A17 := aM A170
    clear A170
    simp only [Option.some.injEq, Prod.mk.injEq] at H
    obtain ⟨rfl, rfl⟩ := H
    obtain ⟨Ao18, co18, eo18⟩ := Kd.S_slice HO_6.out
    subst eo18
    go_wp2_with (first | ((with_reducible refine gate_callee (f := 80) rfl ?_); refine goesL_ (some 26) rfl rfl Try.func80 (by kernel_rfl) rfl #[.slice Ao18 x6_1.length co18] rfl zm ?_; (with_reducible refine (impl_leastOf.callsE k1 (fun k_ => (w.heap.size ≤ k_)) _ _ x6_1 t745 _ ?side1 A17.out).mono ?_); (case side1 => exact Kd.S_V (HO_6.out)); rintro e w19 ⟨v746, rfl, ho0, hb, hel⟩; have HE := aM hel; clear hel; refine ⟨_, rfl, ?_⟩; have n0_ := aM (Kd.S_below (mS_ HO_6.out) hb); have n1_ := aM (Kd.V_lower (Kd.V_mono (ok' := fun k_ => (w.heap.size ≤ k_)) ho0 (fun k_ hk_ => Or.elim hk_ (fun hs_ => hs_) (fun hn_ => (Nat.le_trans (below_size zb) hn_)))) (below_size zb)); have n2_ := aM (below_step zb hb); clear HO_6 HB; have HO_6 := n0_; have HO747 := n1_; have HB := n2_; clear n0_ n1_ n2_; (try clear hb); (try clear hb2); (try clear hk); (try clear hi); (try clear ho0)))
    go_ret2
    exact ⟨_, zw, Kd.R_mono (S_el HO_6.out HE.out) (fun _ _ => trivial), zb⟩
   rw [if_pos c5] at H
   have c5b0 : decide (x10_1 < 12) = true := decide_eq_true c5
   clear c5
   replace H := Option.bind_eq_some_iff.mp H
   obtain ⟨t748, A60, H⟩ := H
   replace H : ((impl_IsShape.f k1 t748).bind fun t751 => (if t751 = true then (if x6_1.length < 5864062014805 then (impl_leastForm__impl_hexForm.l0 k1 l0 (x6_1 ++ [t748]) (wrap64 (x10_1 + 1))) else (none)) else (some (([] : List (S59)), false)))) = some (r1, r2) := H
   have A6 := aM A60
   clear A60
   replace H := Option.bind_eq_some_iff.mp H
   obtain ⟨t751, A70, H⟩ := H
   replace H : (if t751 = true then (if x6_1.length < 5864062014805 then (impl_leastForm__impl_hexForm.l0 k1 l0 (x6_1 ++ [t748]) (wrap64 (x10_1 + 1))) else (none)) else (some (([] : List (S59)), false))) = some (r1, r2) := H
   have A7 := aM A70
   clear A70
   by_cases c8 : t751 = true
   rotate_left
   ·replace c8 := Bool.eq_false_iff.mpr c8
    subst c8
    have H1 : (some (([] : List (S59)), false)) = some (r1, r2) := by rw [if_neg (show ¬ (false = true) by decide)] at H; exact H
    clear H
    have H := H1
    clear H1
    simp only [Option.some.injEq, Prod.mk.injEq] at H
    obtain ⟨rfl, rfl⟩ := H
    go_wp2_with (first | (go_at_call 55; (with_reducible refine (impl_hexForm.calls k1 _ _ l0 x10_1 t748 _ ?side1 ?side2 A6.out).mono ?_); (case side1 => repeat (first | exact (Kd.C_below HR0.out HB.out) | (with_reducible refine Kd.C_alloc ?_ _) | (with_reducible refine Kd.C_drewN ?_ _) | (with_reducible refine Kd.C_drew ?_))); (case side2 => exact HC0.out); rintro e w14 ⟨v749, rfl, ho0, hb⟩; have n0_ := aM (Kd.S_elder' (mS_ HO_6.out) (Kd.R_base ho0) hb); have n1_ := aM (Kd.R_lower (Kd.R_newM (M := fun k_ => (w.heap.size ≤ k_)) ho0 (below_size zb) (fun k_ h_ => h_)) (below_size zb)); have n2_ := aM (below_step zb hb); clear HO_6 HB; have HO_6 := n0_; have HO750 := n1_; have HB := n2_; clear n0_ n1_ n2_; (try clear hb); (try clear hb2); (try clear hk); (try clear hi); (try clear ho0); obtain ⟨Ao15, co15, eo15⟩ := Kd.R_slice HO750.out; subst eo15) | ((with_reducible refine gate_callee (f := 40) rfl ?_); refine goesL_ (some 18) rfl rfl Try.func40 (by kernel_rfl) rfl #[.slice Ao15 t748.length co15] rfl zm ?_; (with_reducible refine (impl_IsShape.calls k1 _ _ t748 false _ ?side1 ?side2 A7.out).mono ?_); (case side1 => exact zc HO750.out); (case side2 => exact (Kd.R_reads' HO750.out).2.1); rintro e w16 ⟨rfl, hb⟩; refine ⟨_, rfl, ?_⟩; have n0_ := aM (Kd.S_below (mS_ HO_6.out) hb); have n1_ := aM (Kd.R_below (mR_ HO750.out) hb); have n2_ := aM (below_step zb hb); clear HO_6 HO750 HB; have HO_6 := n0_; have HO750 := n1_; have HB := n2_; clear n0_ n1_ n2_; (try clear hb); (try clear hb2); (try clear hk); (try clear hi)))
    go_ret2
    exact ⟨_, zw, Kd.R_nil _ _ _ _ _, zb⟩
   subst c8
   have H1 : (if x6_1.length < 5864062014805 then (impl_leastForm__impl_hexForm.l0 k1 l0 (x6_1 ++ [t748]) (wrap64 (x10_1 + 1))) else (none)) = some (r1, r2) := by rw [if_pos rfl] at H; exact H
   clear H
   have H := H1
   clear H1
   by_cases c9 : x6_1.length < 5864062014805
   rotate_left
   ·rw [if_neg c9] at H
    exact absurd H (by simp)
   rw [if_pos c9] at H
   have LMc9 := aM c9
   clear c9
   obtain ⟨y752, hy752⟩ : ∃ y_ : List (List (S59)), y_ = (x6_1 ++ [t748]) := ⟨_, rfl⟩
   replace H : (impl_leastForm__impl_hexForm.l0 k1 l0 y752 (wrap64 (x10_1 + 1))) = some (r1, r2) := zy H hy752
   have Ny752 := aM hy752
   clear hy752
   have H' := aM H
   clear H
   go_wp2_with (first | (go_at_call 55; (with_reducible refine (impl_hexForm.calls k1 _ _ l0 x10_1 t748 _ ?side1 ?side2 A6.out).mono ?_); (case side1 => repeat (first | exact (Kd.C_below HR0.out HB.out) | (with_reducible refine Kd.C_alloc ?_ _) | (with_reducible refine Kd.C_drewN ?_ _) | (with_reducible refine Kd.C_drew ?_))); (case side2 => exact HC0.out); rintro e w10 ⟨v749, rfl, ho0, hb⟩; have n0_ := aM (Kd.S_elder' (mS_ HO_6.out) (Kd.R_base ho0) hb); have n1_ := aM (Kd.R_lower (Kd.R_newM (M := fun k_ => (w.heap.size ≤ k_)) ho0 (below_size zb) (fun k_ h_ => h_)) (below_size zb)); have n2_ := aM (below_step zb hb); clear HO_6 HB; have HO_6 := n0_; have HO750 := n1_; have HB := n2_; clear n0_ n1_ n2_; (try clear hb); (try clear hb2); (try clear hk); (try clear hi); (try clear ho0); obtain ⟨Ao11, co11, eo11⟩ := Kd.R_slice HO750.out; subst eo11) | ((with_reducible refine gate_callee (f := 40) rfl ?_); refine goesL_ (some 18) rfl rfl Try.func40 (by kernel_rfl) rfl #[.slice Ao11 t748.length co11] rfl zm ?_; (with_reducible refine (impl_IsShape.calls k1 _ _ t748 true _ ?side1 ?side2 A7.out).mono ?_); (case side1 => exact zc HO750.out); (case side2 => exact (Kd.R_reads' HO750.out).2.1); rintro e w12 ⟨rfl, hb⟩; refine ⟨_, rfl, ?_⟩; have n0_ := aM (Kd.S_below (mS_ HO_6.out) hb); have n1_ := aM (Kd.R_below (mR_ HO750.out) hb); have n2_ := aM (below_step zb hb); clear HO_6 HO750 HB; have HO_6 := n0_; have HO750 := n1_; have HB := n2_; clear n0_ n1_ n2_; (try clear hb); (try clear hb2); (try clear hk); (try clear hi)) | ((with_reducible refine gate_builtin (b := .append) (xs := #[.tmp 20, .tmp 22]) rfl ?_); at_builtin; refine Kd.S_append (Kd.slice 59 k59) (w0 := w) w.heap.size rfl (.tmp 20) (.tmp 22) 33 24 (.slice none 0 0) 24 rfl Try.underlying33 info24 rfl (by decide) (by omega) u6 x6_1 t748 [.slice Ao11 t748.length co11] (fun k_ => (w.heap.size ≤ k_)) (fun k_ => some k_ = (.slice Ao11 t748.length co11 : Value).ownBlock) rfl rfl ?aP (fun k_ hk_ => ((Kd.R_mono (ok' := fun k_ => ((fun k_ => (w.heap.size ≤ k_))) k_ ∧ some k_ ≠ (u6 : Value).ownBlock) (Kd.R_apart' (HO750.out) (Kd.S_typed HO_6.out) (by decide)) (fun k_ hk => ⟨hk.1.1, hk.2⟩))).1 k_ hk_.symm) ?aF ?aO ?aB ?aS ?aL ?_; (case aP => exact Kd.M_row (Kd.R_mono (Kd.R_tight rfl (Kd.R_mono (ok' := fun k_ => ((fun k_ => (w.heap.size ≤ k_))) k_ ∧ some k_ ≠ (u6 : Value).ownBlock) (Kd.R_apart' (HO750.out) (Kd.S_typed HO_6.out) (by decide)) (fun k_ hk => ⟨hk.1.1, hk.2⟩))) (fun _ h_ => h_))); (case aB => exact zb); (case aF => exact (fun k_ hk => (Nat.le_trans (below_size zb) hk))); (case aO => exact (by (with_reducible repeat (first | apply Kd.S_alloc | apply Kd.S_drewN | apply Kd.S_drew)); exact Kd.S_mono HO_6.out (fun k_ hk => ⟨hk.1, fun e_ => hk.2 e_⟩))); (case aS => exact (below_size zb)); (case aL => have := LMc9.out; omega); intro v753 w13 ho hb hg hat; rw [← Ny752.out] at ho; have n0_ := aM (hb); have n1_ := aM (ho); clear HB HO_6 HO750; have HB := n0_; have HO754 := n1_; clear n0_ n1_; clear ho hb hg hat))
   go_roundg k1
   case measure => have := HK1.out; omega
   case rel => exact ⟨(y752), (wrap64 (x10_1 + 1)), zr, H', ⟨by have := HK1.out; omega⟩, ⟨mS_ HO754.out⟩, ⟨zb⟩⟩
end Go.Proofs.Ytlnliahadgmbcaa.F
end
section
namespace Go.Proofs.Ytlnliahadgmbcaa.F
open Go.RowKit Go.Proofs.YtlnliahadgmbcaaW.PrintWords Go.Proofs.YtlnliahadgmbcaaW.PrintLast Go.Proofs.YtlnliahadgmbcaaW.PrintMore
attribute [local go_sem] max2_int min2_int max_two min_two max_three min_three max_four min_four
set_option linter.unusedVariables false
set_option linter.unusedSimpArgs false
mutual
def spec_DrawHexSymmetries.j0 : Nat → List (S59) → Bool → List Int → Int → Int → Option ((List (S59)))
 | 0, _, _, _, _, _ => none
 | k + 1, x4, x26, x912000, x912001, x912002 => if x26 = true then (some x4) else (if 0 < (x4.length : Int) then ((spec_l02Move.f k x4 (wrap64 (-((rd_T59 x4 0).f0))) (wrap64 (-((rd_T59 x4 0).f1)))).bind fun t927 => ((some (([2, 3, 6, 1] : List Int) : List Int)).bind fun y933 => ((spec_l01Next.f x912000 x912001 x912002 4).bind fun bt936 => (if 0 ≤ bt936.1 then (if bt936.1 < (y933.length : Int) then (spec_DrawHexSymmetries.l0 k t927 (([] : List (S59))) (rd y933 bt936.1) 0) else (none)) else (none))))) else (none))
def spec_DrawHexSymmetries.l0 : Nat → List (S59) → List (S59) → Int → Int → Option ((List (S59)))
 | 0, _, _, _, _ => none
 | k + 1, x4, x5, x6, x7 => if x7 < 12 then (spec_DrawHexSymmetries.l1 k x4 x5 x6 x7 0) else ((spec_l02Sort.f k x5).bind fun t940 => (some t940))
def spec_DrawHexSymmetries.l1 : Nat → List (S59) → List (S59) → Int → Int → Int → Option ((List (S59)))
 | 0, _, _, _, _, _ => none
 | k + 1, x4, x5, x6, x7, x8 => if x8 < (x4.length : Int) then (if 0 ≤ x8 then ((spec_l07Turn.f k ((rd_T59 x4 x8).f0) ((rd_T59 x4 x8).f1) x7).bind fun bt944 => ((spec_l02Index.f k x5 bt944.1 bt944.2).bind fun t947 => (if t947 < 0 then (if x5.length < 8796093022208 then (spec_DrawHexSymmetries.l1 k x4 (x5 ++ [(⟨bt944.1, bt944.2⟩ : S59)]) x6 x7 (wrap64 (x8 + 1))) else (none)) else (spec_DrawHexSymmetries.l1 k x4 x5 x6 x7 (wrap64 (x8 + 1)))))) else (none)) else (spec_DrawHexSymmetries.l0 k x4 x5 x6 (wrap64 (x7 + x6)))
end
def spec_DrawHexSymmetries.f (k : Nat) (l0 : List Int) : Option ((List (S59))) := (spec_l01From.f k l0).bind fun bt908 => ((spec_l01Next.f bt908.1 bt908.2.1 bt908.2.2 2).bind fun bt912 => (if bt912.1 = 0 then ((spec_l07DrawFar.f k bt908.1 bt912.2.1 bt912.2.2 1).bind fun bt915 => (some bt915.1)) else ((spec_l07Draw.f k bt908.1 bt912.2.1 bt912.2.2 1).bind fun bt920 => (if (bt920.1.length : Int) = 0 then (spec_DrawHexSymmetries.j0 k bt920.1 true bt908.1 bt920.2.1 bt920.2.2) else (spec_DrawHexSymmetries.j0 k bt920.1 (decide ((bt920.1.length : Int) > 3)) bt908.1 bt920.2.1 bt920.2.2)))))
def spec_DrawHexSymmetries.T7 : Bool × List (List Nat × List Nat) := (true, [([], []), ([], []), ([1], [1]), ([2], [2]), ([3], [3]), ([4], [4]), ([], []), ([6], [6]), ([7], [7]), ([8], [8]), ([9], [9]), ([0, 5, 10], [0, 5, 10]), ([11, 11, 0, 1, 2, 3, 4, 5, 6, 7, 8, 9, 10, 11], [0, 1, 6, 11])])
def spec_DrawHexSymmetries.B7 : List Nat := [0, 0, 2, 6, 14, 30, 0, 64, 192, 448, 960, 2047, 4095]
theorem spec_DrawHexSymmetries.tab7 : rtab .any (opsOf Try.f24 7) = spec_DrawHexSymmetries.T7 := by kernel_rfl
theorem spec_DrawHexSymmetries.bits7 : waitsOk spec_DrawHexSymmetries.T7.2 spec_DrawHexSymmetries.B7 = true := by kernel_rfl
theorem spec_DrawHexSymmetries.calls (k : Nat) (A0 : Option Addr) (c0 : Nat) (l0 : List Int) (r : List (S59)) (w : World) (hr0 : Kd.C (Kd.int .u8) w A0 l0.length l0) (hc0 : l0.length ≤ c0) (h : spec_DrawHexSymmetries.f k l0 = some r) :
  Calls Try.prog 24 #[.slice A0 l0.length c0] w fun e w' => ∃ v0_ : Value, e = .returned (v0_) ∧ Kd.R k59 59 w' w.heap.size (fun _ => True) v0_ r ∧ Below w.heap.size w w' := by
 have hu59 := Try.underlying59
 have HR0 := aM hr0
 have HC0 := aM hc0
 clear hr0 hc0
 have HB := aM (Below.refl w.heap.size w)
 have H : ((spec_l01From.f k l0).bind fun bt908 => ((spec_l01Next.f bt908.1 bt908.2.1 bt908.2.2 2).bind fun bt912 => (if bt912.1 = 0 then ((spec_l07DrawFar.f k bt908.1 bt912.2.1 bt912.2.2 1).bind fun bt915 => (some bt915.1)) else ((spec_l07Draw.f k bt908.1 bt912.2.1 bt912.2.2 1).bind fun bt920 => (if (bt920.1.length : Int) = 0 then (spec_DrawHexSymmetries.j0 k bt920.1 true bt908.1 bt920.2.1 bt920.2.2) else (spec_DrawHexSymmetries.j0 k bt920.1 (decide ((bt920.1.length : Int) > 3)) bt908.1 bt920.2.1 bt920.2.2)))))) = some r := h
 clear h
 replace H := Option.bind_eq_some_iff.mp H
 obtain ⟨⟨t908, t909, t910⟩, A20, H⟩ := H
 replace H : ((spec_l01Next.f t908 t909 t910 2).bind fun bt912 => (if bt912.1 = 0 then ((spec_l07DrawFar.f k t908 bt912.2.1 bt912.2.2 1).bind fun bt915 => (some bt915.1)) else ((spec_l07Draw.f k t908 bt912.2.1 bt912.2.2 1).bind fun bt920 => (if (bt920.1.length : Int) = 0 then (spec_DrawHexSymmetries.j0 k bt920.1 true t908 bt920.2.1 bt920.2.2) else (spec_DrawHexSymmetries.j0 k bt920.1 (decide ((bt920.1.length : Int) > 3)) t908 bt920.2.1 bt920.2.2))))) = some r := H
 have A2 := aM A20
 clear A20
 replace H := Option.bind_eq_some_iff.mp H
 obtain ⟨⟨t912, t913, t914⟩, A30, H⟩ := H
 replace H : (if t912 = 0 then ((spec_l07DrawFar.f k t908 t913 t914 1).bind fun bt915 => (some bt915.1)) else ((spec_l07Draw.f k t908 t913 t914 1).bind fun bt920 => (if (bt920.1.length : Int) = 0 then (spec_DrawHexSymmetries.j0 k bt920.1 true t908 bt920.2.1 bt920.2.2) else (spec_DrawHexSymmetries.j0 k bt920.1 (decide ((bt920.1.length : Int) > 3)) t908 bt920.2.1 bt920.2.2)))) = some r := H
 have A3 := aM A30
 clear A30
 by_cases c4 : t912 = 0
 ·rw [if_pos c4] at H
  have c4b0 : (t912 == 0) = true := beq_iff_eq.mpr c4
  have c4b1 : (t912 != 0) = false := bne_eq_false_iff_eq.mpr c4
  clear c4
  replace H := Option.bind_eq_some_iff.mp H
  obtain ⟨⟨t915, t918, t919⟩, A50, H⟩ := H
  replace H : (some t915) = some r := H
  have A5 := aM A50
  clear A50
  obtain rfl := Option.some.inj H
  go_enter Try.func24, Try.ntmps24
  go_wp2_with (first | ((with_reducible refine gate_callee (f := 34) rfl ?_); refine goesL_ (some 11) rfl rfl Try.func34 (by kernel_rfl) rfl #[.slice A0 l0.length c0] rfl zm ?_; (with_reducible refine (spec_l01From.calls k _ _ l0 t908 t909 t910 w _ ?side1 ?side2 ?side3 A2.out).mono ?_); (case side1 => repeat (first | (with_reducible first | exact HB.out | apply below_alloc | apply pw_below_drewN | apply below_drew1) | exact HB.out)); (case side2 => exact HR0.out); (case side3 => exact HC0.out); rintro e w6 ⟨g911, rfl, hi, hb, hb2⟩; refine ⟨_, rfl, ?_⟩; have n0_ := aM (hb); have n1_ := aM (hi); clear HB; have HB := n0_; have HI911 := n1_; clear n0_ n1_; (try clear hb); (try clear hb2); (try clear hk); (try clear hi)) | ((with_reducible refine gate_callee (f := 60) rfl ?_); refine goesL_ (some 13) rfl rfl Try.func60 (by kernel_rfl) rfl #[.pointer (some ⟨g911, 0, none⟩), .int .i64 2] rfl zm ?_; (with_reducible refine (spec_l01Next.calls g911 t908 t909 t910 2 t912 t913 t914 w _ ?side1 ?side2 A3.out).mono ?_); (case side1 => exact zI75 HI911.out); (case side2 => exact zs (IsS75.ge HI911.out)); rintro e w7 ⟨rfl, hi, hb, hk⟩; refine ⟨_, rfl, ?_⟩; have n0_ := aM (hb); have n1_ := aM (hi); clear HB HI911; have HB := n0_; have HI911 := n1_; clear n0_ n1_; (try clear hb); (try clear hb2); (try clear hk); (try clear hi)) | ((with_reducible refine gate_callee (f := 35) rfl ?_); refine goesL_ (some 16) rfl rfl Try.func35 (by kernel_rfl) rfl #[.pointer (some ⟨g911, 0, none⟩), .int .i64 1] rfl zm ?_; (with_reducible refine (spec_l07DrawFar.calls k g911 t908 t913 t914 1 t915 t918 t919 w _ ?side1 ?side2 A5.out).mono ?_); (case side1 => exact zI75 HI911.out); (case side2 => exact zs (IsS75.ge HI911.out)); rintro e w8 ⟨v916, rfl, ho0, hi, hb, hk⟩; refine ⟨_, rfl, ?_⟩; have n0_ := aM (Kd.R_lower ho0 (below_size (zs (IsS75.ge HI911.out)))); have n1_ := aM (hb); have n2_ := aM (hi); clear HB HI911; have HO917 := n0_; have HB := n1_; have HI911 := n2_; clear n0_ n1_ n2_; (try clear hb); (try clear hb2); (try clear hk); (try clear hi); (try clear ho0)))
  go_ret
  exact ⟨_, zw, mR_ HO917.out, zs (IsS75.ge HI911.out)⟩
 rw [if_neg c4] at H
 have c4b0 : (t912 == 0) = false := beq_eq_false_iff_ne.mpr c4
 have c4b1 : (t912 != 0) = true := bne_iff_ne.mpr c4
 replace H := Option.bind_eq_some_iff.mp H
 obtain ⟨⟨t920, t923, t924⟩, A90, H⟩ := H
 replace H : (if (t920.length : Int) = 0 then (spec_DrawHexSymmetries.j0 k t920 true t908 t923 t924) else (spec_DrawHexSymmetries.j0 k t920 (decide ((t920.length : Int) > 3)) t908 t923 t924)) = some r := H
 have A9 := aM A90
 clear A90
 have HC10 := aM H
 clear H
 go_enter Try.func24, Try.ntmps24
 go_upto_region 5 with (first | ((with_reducible refine gate_callee (f := 34) rfl ?_); refine goesL_ (some 11) rfl rfl Try.func34 (by kernel_rfl) rfl #[.slice A0 l0.length c0] rfl zm ?_; (with_reducible refine (spec_l01From.calls k _ _ l0 t908 t909 t910 w _ ?side1 ?side2 ?side3 A2.out).mono ?_); (case side1 => repeat (first | (with_reducible first | exact HB.out | apply below_alloc | apply pw_below_drewN | apply below_drew1) | exact HB.out)); (case side2 => exact HR0.out); (case side3 => exact HC0.out); rintro e w11 ⟨g911, rfl, hi, hb, hb2⟩; refine ⟨_, rfl, ?_⟩; have n0_ := aM (hb); have n1_ := aM (hi); clear HB; have HB := n0_; have HI911 := n1_; clear n0_ n1_; (try clear hb); (try clear hb2); (try clear hk); (try clear hi)) | ((with_reducible refine gate_callee (f := 60) rfl ?_); refine goesL_ (some 13) rfl rfl Try.func60 (by kernel_rfl) rfl #[.pointer (some ⟨g911, 0, none⟩), .int .i64 2] rfl zm ?_; (with_reducible refine (spec_l01Next.calls g911 t908 t909 t910 2 t912 t913 t914 w _ ?side1 ?side2 A3.out).mono ?_); (case side1 => exact zI75 HI911.out); (case side2 => exact zs (IsS75.ge HI911.out)); rintro e w12 ⟨rfl, hi, hb, hk⟩; refine ⟨_, rfl, ?_⟩; have n0_ := aM (hb); have n1_ := aM (hi); clear HB HI911; have HB := n0_; have HI911 := n1_; clear n0_ n1_; (try clear hb); (try clear hb2); (try clear hk); (try clear hi)) | ((with_reducible refine gate_callee (f := 61) rfl ?_); refine goesL_ (some 18) rfl rfl Try.func61 (by kernel_rfl) rfl #[.pointer (some ⟨g911, 0, none⟩), .int .i64 1] rfl zm ?_; (with_reducible refine (spec_l07Draw.calls k g911 t908 t913 t914 1 t920 t923 t924 w _ ?side1 ?side2 A9.out).mono ?_); (case side1 => exact zI75 HI911.out); (case side2 => exact zs (IsS75.ge HI911.out)); rintro e w13 ⟨v921, rfl, ho0, hi, hb, hk⟩; refine ⟨_, rfl, ?_⟩; have n0_ := aM (Kd.R_lower ho0 (below_size (zs (IsS75.ge HI911.out)))); have n1_ := aM (hb); have n2_ := aM (hi); clear HB HI911; have HO922 := n0_; have HB := n1_; have HI911 := n2_; clear n0_ n1_ n2_; (try clear hb); (try clear hb2); (try clear hk); (try clear hi); (try clear ho0)))
 (try simp only [Act.put, xA, xB, xC])
 go_cut [26] (fun v26 wc => ∃ (kq : Nat) (x26_9 : Bool), v26 = .bool x26_9 ∧ Aside0 (spec_DrawHexSymmetries.j0 kq t920 x26_9 t908 t923 t924 = some r) ∧ Aside0 (kq ≤ k) ∧ Aside0 (Kd.R k59 59 wc w.heap.size (fun _ => True) v921 t920) ∧ Aside0 (IsS75 w wc g911 t908 t923 t924) ∧ Aside0 (Below w.heap.size w wc))
 case first =>
  have H := HC10.out
  clear HC10
  by_cases c14 : (t920.length : Int) = 0
  ·rw [if_pos c14] at H
   have c14b0 : ((t920.length : Int) == 0) = true := beq_iff_eq.mpr c14
   have c14b1 : ((t920.length : Int) != 0) = false := bne_eq_false_iff_eq.mpr c14
   clear c14
   (first | rw [c14b0] | (simp only [i64_w, i32_w]; rw [c14b0]) | skip)
   have H' := aM H
   clear H
   obtain ⟨Ao15, co15, eo15⟩ := Kd.R_slice HO922.out
   subst eo15
   go_wp2
   go_meet
   case rel => exact ⟨_, (true), zr, H', ⟨by first | omega | exact Nat.le_refl _⟩, ⟨mR_ HO922.out⟩, ⟨zI75 HI911.out⟩, ⟨zs (IsS75.ge HI911.out)⟩⟩
  rw [if_neg c14] at H
  have c14b0 : ((t920.length : Int) == 0) = false := beq_eq_false_iff_ne.mpr c14
  have c14b1 : ((t920.length : Int) != 0) = true := bne_iff_ne.mpr c14
  have c14b2 : ¬ (t920 = []) := fun h_ => c14 (by rw [h_]; rfl)
  (first | rw [c14b0] | (simp only [i64_w, i32_w]; rw [c14b0]) | skip)
  have H' := aM H
  clear H
  obtain ⟨Ao16, co16, eo16⟩ := Kd.R_slice HO922.out
  subst eo16
  go_wp2
  go_meet
  case rel => exact ⟨_, (decide ((t920.length : Int) > 3)), zr, H', ⟨by first | omega | exact Nat.le_refl _⟩, ⟨mR_ HO922.out⟩, ⟨zI75 HI911.out⟩, ⟨zs (IsS75.ge HI911.out)⟩⟩
 case rest =>
  clear HC10
  try clear c1
  try clear c2
  try clear p2
  try clear c3
  try clear c4
  try clear c4b0
  try clear c4b1
  try clear c6
  try clear c14
  try clear c14b0
  try clear c14b1
  try clear c14b2
  obtain ⟨kq, x26_9, rfl, HA, HJ9, HO_4, HI911, HB⟩ := hcut
  cases kq with
  | zero => exact absurd HA.out (by simp [spec_DrawHexSymmetries.j0])
  | succ kj9 =>
   have H := HA.out
   clear HA
   simp only [spec_DrawHexSymmetries.j0] at H
   by_cases c17 : x26_9 = true
   ·subst c17
    have H1 : (some t920) = some r := by rw [if_pos rfl] at H; exact H
    clear H
    have H := H1
    clear H1
    obtain rfl := Option.some.inj H
    go_wp2
    go_ret
    exact ⟨_, zw, mR_ HO_4.out, zs (IsS75.ge HI911.out)⟩
   replace c17 := Bool.eq_false_iff.mpr c17
   subst c17
   have H1 : (if 0 < (t920.length : Int) then ((spec_l02Move.f kj9 t920 (wrap64 (-((rd_T59 t920 0).f0))) (wrap64 (-((rd_T59 t920 0).f1)))).bind fun t927 => ((some (([2, 3, 6, 1] : List Int) : List Int)).bind fun y933 => ((spec_l01Next.f t908 t923 t924 4).bind fun bt936 => (if 0 ≤ bt936.1 then (if bt936.1 < (y933.length : Int) then (spec_DrawHexSymmetries.l0 kj9 t927 (([] : List (S59))) (rd y933 bt936.1) 0) else (none)) else (none))))) else (none)) = some r := by rw [if_neg (show ¬ (false = true) by decide)] at H; exact H
   clear H
   have H := H1
   clear H1
   by_cases c18 : 0 < (t920.length : Int)
   rotate_left
   ·rw [if_neg c18] at H
    exact absurd H (by simp)
   rw [if_pos c18] at H
   have c18b0 : decide (0 < (t920.length : Int)) = true := decide_eq_true c18
   have c18b1 : decide (0 < t920.length) = true := decide_eq_true (by omega)
   clear c18
   replace H := Option.bind_eq_some_iff.mp H
   obtain ⟨t927, A190, H⟩ := H
   replace H : ((some (([2, 3, 6, 1] : List Int) : List Int)).bind fun y933 => ((spec_l01Next.f t908 t923 t924 4).bind fun bt936 => (if 0 ≤ bt936.1 then (if bt936.1 < (y933.length : Int) then (spec_DrawHexSymmetries.l0 kj9 t927 (([] : List (S59))) (rd y933 bt936.1) 0) else (none)) else (none)))) = some r := H
   have A19 := aM A190
   clear A190
   obtain ⟨y930, hy930⟩ : ∃ y_ : List (S59), y_ = (([] : List (S59))) := ⟨_, rfl⟩
   replace H : ((some (([2, 3, 6, 1] : List Int) : List Int)).bind fun y933 => ((spec_l01Next.f t908 t923 t924 4).bind fun bt936 => (if 0 ≤ bt936.1 then (if bt936.1 < (y933.length : Int) then (spec_DrawHexSymmetries.l0 kj9 t927 y930 (rd y933 bt936.1) 0) else (none)) else (none)))) = some r := zy H hy930
   have Ny930 := aM hy930
   clear hy930
   obtain ⟨y933, hy933⟩ : ∃ y_ : List Int, y_ = (([2, 3, 6, 1] : List Int)) := ⟨_, rfl⟩
   replace H : ((spec_l01Next.f t908 t923 t924 4).bind fun bt936 => (if 0 ≤ bt936.1 then (if bt936.1 < (y933.length : Int) then (spec_DrawHexSymmetries.l0 kj9 t927 y930 (rd y933 bt936.1) 0) else (none)) else (none))) = some r := zy H hy933
   have Ny933 := aM hy933
   clear hy933
   replace H := Option.bind_eq_some_iff.mp H
   obtain ⟨⟨t936, t937, t938⟩, A200, H⟩ := H
   replace H : (if 0 ≤ t936 then (if t936 < (y933.length : Int) then (spec_DrawHexSymmetries.l0 kj9 t927 y930 (rd y933 t936) 0) else (none)) else (none)) = some r := H
   have A20 := aM A200
   clear A200
   by_cases c21 : 0 ≤ t936
   rotate_left
   ·rw [if_neg c21] at H
    exact absurd H (by simp)
   rw [if_pos c21] at H
   have c21b0 : decide (0 ≤ t936) = true := decide_eq_true c21
   clear c21
   by_cases c22 : t936 < (y933.length : Int)
   rotate_left
   ·rw [if_neg c22] at H
    exact absurd H (by simp)
   rw [if_pos c22] at H
   have c22b0 : decide (t936 < (y933.length : Int)) = true := decide_eq_true c22
   clear c22
   have H' := aM H
   clear H
   try go_wp2
   have n0_ := aM (Kd.R_drew HO_4.out)
   have n1_ := aM (IsS75.drew HI911.out)
   have n2_ := aM (below_drew1 HB.out)
   clear HO_4
   clear HI911
   clear HB
   have HO_4 := n0_
   have HI911 := n1_
   have HB := n2_
   clear n0_ n1_ n2_
   obtain ⟨Ao24, co24, eo24⟩ := Kd.R_slice HO_4.out
   (first | subst eo24 | (injection eo24 with f1_ f2_ f3_; have f4_ := f1_.symm; have f5_ := f3_.symm; clear f1_ f2_ f3_; subst f4_; subst f5_))
   have p925 : 0 ≤ (0 : Int) := (by omega)
   have q925 : 0 < (t920.length : Int) := of_decide_eq_true za
   obtain ⟨ad925, e925, hx925_0, hx925_1⟩ := at_T59 (Kd.R_reads' HO_4.out).2.2 0 p925 q925
   cases e925
   have qi925 : (0 < t920.length) = True := eq_true (by omega)
   (try rw [show ((0 : Int)).toNat = 0 from rfl] at hx925_0)
   (try rw [show 0 * 2 = 0 from rfl] at hx925_0)
   (try rw [Addr.add_zero'] at hx925_0)
   (try rw [show ((0 : Int)).toNat = 0 from rfl] at hx925_1)
   (try rw [show 0 * 2 = 0 from rfl] at hx925_1)
   (try rw [Addr.add_zero'] at hx925_1)
   replace p925 := eq_true p925
   replace q925 := eq_true q925
   have p926 : 0 ≤ (0 : Int) := (by omega)
   have q926 : 0 < (t920.length : Int) := of_decide_eq_true za
   obtain ⟨ad926, e926, hx926_0, hx926_1⟩ := at_T59 (Kd.R_reads' HO_4.out).2.2 0 p926 q926
   obtain rfl : ad925 = ad926 := (by injection e926)
   have qi926 : (0 < t920.length) = True := eq_true (by omega)
   (try rw [show ((0 : Int)).toNat = 0 from rfl] at hx926_0)
   (try rw [show 0 * 2 = 0 from rfl] at hx926_0)
   (try rw [Addr.add_zero'] at hx926_0)
   (try rw [show ((0 : Int)).toNat = 0 from rfl] at hx926_1)
   (try rw [show 0 * 2 = 0 from rfl] at hx926_1)
   (try rw [Addr.add_zero'] at hx926_1)
   replace p926 := eq_true p926
   replace q926 := eq_true q926
   refine start_ (n := 13) (S := fun w' => w'.cell? ad925 = some (.int .i64 ((rd_T59 t920 0).f0)) ∧ w'.cell? ⟨ad925.block, ad925.off + 1, none⟩ = some (.int .i64 ((rd_T59 t920 0).f1)) ∧ w'.cell? ad925 = some (.int .i64 ((rd_T59 t920 0).f0)) ∧ w'.cell? ⟨ad925.block, ad925.off + 1, none⟩ = some (.int .i64 ((rd_T59 t920 0).f1))) (ds := []) zA51 (by kernel_rfl) rfl rfl ⟨hx925_0, hx925_1, hx926_0, hx926_1⟩ (fun hHeld => ?_); refine with_tabW spec_DrawHexSymmetries.tab7 spec_DrawHexSymmetries.bits7 (fun HT_ HW_ => ?_)
   generalize wc.drew = w23 at HO_4 HI911 HB hx925_0 hx925_1 hx926_0 hx926_1 hHeld ⊢
   refine zp 0 (some 28) ?_ zA52 rfl rfl (Or.inl ⟨by rfl, ?_⟩) ?_ ?_ ?_
   rotate_left
   ·intro w'
    go_simp
    with_reducible rfl
   rotate_left
   ·simp only [Act.put, xA, xB, xC, i64_w, i32_w]
    rfl
   refine zp 1 (some 29) ?_ zA53 rfl rfl (Or.inl ⟨by rfl, ?_⟩) ?_ ?_ ?_
   rotate_left
   ·intro w'
    go_simp
    with_reducible rfl
   rotate_left
   ·simp only [Act.put, xA, xB, xC, i64_w, i32_w]
    rfl
   refine zp 2 (some 30) ?_ zA54 rfl rfl (Or.inl ⟨by rfl, ?_⟩) ?_ ?_ ?_
   rotate_left
   ·intro w'
    go_simp
    with_reducible rfl
   rotate_left
   ·simp only [Act.put, xA, xB, xC, i64_w, i32_w]
    rfl
   refine zp 3 (some 31) ?_ zA55 rfl rfl (Or.inl ⟨by rfl, ?_⟩) ?_ ?_ ?_
   rotate_left
   ·intro w'
    go_simp
    with_reducible rfl
   rotate_left
   ·simp only [Act.put, xA, xB, xC, i64_w, i32_w]
    rfl
   refine zp 6 (some 34) ?_ zA56 rfl rfl (Or.inl ⟨by rfl, ?_⟩) ?_ ?_ ?_
   rotate_left
   ·intro w'
    go_simp
    with_reducible rfl
   rotate_left
   ·simp only [Act.put, xA, xB, xC, i64_w, i32_w]
    rfl
   refine zp 7 (some 35) ?_ zA57 rfl rfl (Or.inl ⟨by rfl, ?_⟩) ?_ ?_ ?_
   rotate_left
   ·intro w'
    go_simp
    with_reducible rfl
   rotate_left
   ·simp only [Act.put, xA, xB, xC, i64_w, i32_w]
    rfl
   refine zp 8 (some 36) ?_ zA58 rfl rfl (Or.inl ⟨by rfl, ?_⟩) ?_ ?_ ?_
   rotate_left
   ·intro w'
    go_simp
    with_reducible rfl
   rotate_left
   ·simp only [Act.put, xA, xB, xC, i64_w, i32_w]
    rfl
   refine zu 4 (some 32) ?_ zA59 rfl rfl (Or.inl ⟨by rfl, ?_⟩) hHeld ?_ ?_ ?_
   rotate_left
   ·rintro w' ⟨s0, s1, s2, s3⟩
    go_simp
    with_reducible rfl
   rotate_left
   ·simp only [Act.put, xA, xB, xC, i64_w, i32_w]
    rfl
   refine zp 5 (some 33) ?_ zA60 rfl rfl (Or.inl ⟨by rfl, ?_⟩) ?_ ?_ ?_
   rotate_left
   ·intro w'
    go_simp
    with_reducible rfl
   rotate_left
   ·simp only [Act.put, xA, xB, xC, i64_w, i32_w]
    rfl
   refine zu 9 (some 37) ?_ zA61 rfl rfl (Or.inl ⟨by rfl, ?_⟩) hHeld ?_ ?_ ?_
   rotate_left
   ·rintro w' ⟨s0, s1, s2, s3⟩
    go_simp
    with_reducible rfl
   rotate_left
   ·simp only [Act.put, xA, xB, xC, i64_w, i32_w]
    rfl
   refine zp 10 (some 38) ?_ zA62 rfl rfl (Or.inl ⟨by rfl, ?_⟩) ?_ ?_ ?_
   rotate_left
   ·intro w'
    go_simp
    with_reducible rfl
   rotate_left
   ·simp only [Act.put, xA, xB, xC, i64_w, i32_w]
    rfl
   refine one_ (i := 11) (N := some 39) zA63 rfl rfl (one_of HT_.out (by kernel_rfl)) (by decide) (fun K hK => ?_)
   refine goes_ Try.func62 (by kernel_rfl) rfl #[.slice (some ad925) t920.length co24, .int .i64 (wrap64 (-((rd_T59 t920 0).f0))), .int .i64 (wrap64 (-((rd_T59 t920 0).f1)))] (by rfl) rfl rfl zm ?_
   with_reducible refine (spec_l02Move.calls kj9 _ _ t920 (wrap64 (-((rd_T59 t920 0).f0))) (wrap64 (-((rd_T59 t920 0).f1))) t927 _ ?side1 ?side2 A19.out).mono ?_
   (case side1 => exact zc HO_4.out)
   (case side2 => exact (Kd.R_reads' HO_4.out).2.1)
   rintro e w25 ⟨v928, rfl, ho0, hb⟩
   have HS0_ := zk hb (hHeld.1)
   have HS1_ := zk hb (hHeld.2.1)
   have HS2_ := zk hb (hHeld.2.2.1)
   have HS3_ := zk hb (hHeld.2.2.2)
   refine ⟨_, rfl, ?_⟩
   have n0_ := aM (Kd.R_elder' (mR_ HO_4.out) (Kd.R_base ho0) hb)
   have n1_ := aM (Kd.R_lower (Kd.R_new' ho0 (Kd.R_lt (mR_ HO_4.out))) (below_size (zs (IsS75.ge HI911.out))))
   have n2_ := aM (IsS75.below (zI75 HI911.out) hb)
   have n3_ := aM (below_step (zs (IsS75.ge HI911.out)) hb)
   clear HO_4
   clear HI911
   clear HB
   have HO_4 := n0_
   have HO929 := n1_
   have HI911 := n2_
   have HB := n3_
   clear n0_ n1_ n2_ n3_
   (try clear hb)
   (try clear hb2)
   (try clear hk)
   (try clear hi)
   (try clear ho0)
   refine hK.out _ _ ⟨HS0_, HS1_, HS2_, HS3_⟩ (fun hHeld => ?_)
   clear hK K
   refine norm_ (a' := ?_) ?_ ?_
   rotate_left
   ·show Act.put _ (some 39) _ = _
    simp only [Act.put, xA, xB, xC, i64_w, i32_w]
    rfl
   refine zp 12 (some 4) ?_ zA64 rfl rfl (Or.inl ⟨by rfl, ?_⟩) ?_ ?_ ?_
   rotate_left
   ·intro w'
    go_simp
    with_reducible rfl
   rotate_left
   ·simp only [Act.put, xA, xB, xC, i64_w, i32_w]
    rfl
   refine done_ (done_of HT_.out (by kernel_rfl)) ?_
   try go_wp2_with (first | ((with_reducible refine gate_dst (N := 40) rfl ?_); (try (refine gate_guard (by rfl) ?_; dsimp only)); refine Kd.R_lit k59 _ 59 ?hg (N := 40) ?hd (xs := ([] : List (S59))) (inner := []) (ok := fun _ => True) (okp := fun _ => True) ?hr ?hp (fun _ hk => hk) trivial (Below.refl _ _) (Nat.le_refl _) (by simp) ?_; (case hd => rfl); (case hg => rfl); (case hr => first | (go_simp; done) | (go_simp; rfl)); (case hp => exact (Reps.none _ _)); intro v931 w26 ho27 hb hg_ hnew_; clear hg_ hnew_; (first | rw [← Ny930.out] at ho27 | (simp only [Int.reduceToNat] at ho27; rw [← Ny930.out] at ho27)); have n0_ := aM (Kd.R_elder' (mR_ HO_4.out) (Kd.R_base ho27) hb); have n1_ := aM (Kd.R_elder' (mR_ HO929.out) (Kd.R_base ho27) hb); have n2_ := aM (Kd.R_lower (Kd.R_new' (Kd.R_new' ho27 (Kd.R_lt (mR_ HO_4.out))) (Kd.R_lt (mR_ HO929.out))) (below_size (zs (IsS75.ge HI911.out)))); have n3_ := aM (IsS75.below (zI75 HI911.out) hb); have n4_ := aM (below_step (zs (IsS75.ge HI911.out)) hb); clear HO_4 HO929 HI911 HB; have HO_4 := n0_; have HO929 := n1_; have HO932 := n2_; have HI911 := n3_; have HB := n4_; clear n0_ n1_ n2_ n3_ n4_; clear hb ho27) | ((with_reducible refine gate_dst (N := 41) rfl ?_); (try (refine gate_guard (by rfl) ?_; dsimp only)); refine Kd.R_lit (Kd.int .i64) _ 2 ?hg (N := 41) ?hd (xs := ([2, 3, 6, 1] : List Int)) (inner := [.int .i64 2, .int .i64 3, .int .i64 6, .int .i64 1]) (ok := fun _ => True) (okp := fun _ => True) ?hr ?hp (fun _ hk => hk) trivial (Below.refl _ _) (Nat.le_refl _) (by simp) ?_; (case hd => rfl); (case hg => rfl); (case hr => first | (go_simp; done) | (go_simp; rfl)); (case hp => exact (Reps.one (show Kd.M (Kd.int .i64) _ _ _ 2 [.int .i64 2] from rfl) (Reps.one (show Kd.M (Kd.int .i64) _ _ _ 3 [.int .i64 3] from rfl) (Reps.one (show Kd.M (Kd.int .i64) _ _ _ 6 [.int .i64 6] from rfl) (Reps.one (show Kd.M (Kd.int .i64) _ _ _ 1 [.int .i64 1] from rfl) (Reps.none _ _)))))); intro v934 w28 ho29 hb hg_ hnew_; clear hg_ hnew_; (first | rw [← Ny933.out] at ho29 | (simp only [Int.reduceToNat] at ho29; rw [← Ny933.out] at ho29)); have n0_ := aM (Kd.R_below (mR_ HO_4.out) hb); have n1_ := aM (Kd.R_below (mR_ HO929.out) hb); have n2_ := aM (Kd.R_below (mR_ HO932.out) hb); have n3_ := aM (Kd.R_lower ho29 (below_size (zs (IsS75.ge HI911.out)))); have n4_ := aM (IsS75.below (zI75 HI911.out) hb); have n5_ := aM (below_step (zs (IsS75.ge HI911.out)) hb); clear HO_4 HO929 HO932 HI911 HB; have HO_4 := n0_; have HO929 := n1_; have HO932 := n2_; have HO935 := n3_; have HI911 := n4_; have HB := n5_; clear n0_ n1_ n2_ n3_ n4_ n5_; clear hb ho29) | ((with_reducible refine gate_callee (f := 60) rfl ?_); refine goesL_ (some 43) rfl rfl Try.func60 (by kernel_rfl) rfl #[.pointer (some ⟨g911, 0, none⟩), .int .i64 4] rfl zm ?_; (with_reducible refine (spec_l01Next.calls g911 t908 t923 t924 4 t936 t937 t938 w _ ?side1 ?side2 A20.out).mono ?_); (case side1 => exact zI75 HI911.out); (case side2 => exact zs (IsS75.ge HI911.out)); rintro e w30 ⟨rfl, hi, hb, hk⟩; refine ⟨_, rfl, ?_⟩; have n0_ := aM (Kd.R_mono (Kd.R_keep (IsS75.apart (show IsS75 w _ g911 t908 t923 t924 from zI75 HI911.out) (mR_ HO_4.out) (by decide)) hk (fun _ h => h.2)) (fun _ h => h.1)); have n1_ := aM (Kd.R_mono (Kd.R_keep (IsS75.apart (show IsS75 w _ g911 t908 t923 t924 from zI75 HI911.out) (mR_ HO929.out) (by decide)) hk (fun _ h => h.2)) (fun _ h => h.1)); have n2_ := aM (Kd.R_mono (Kd.R_keep (IsS75.apart (show IsS75 w _ g911 t908 t923 t924 from zI75 HI911.out) (mR_ HO932.out) (by decide)) hk (fun _ h => h.2)) (fun _ h => h.1)); have n3_ := aM (Kd.R_mono (Kd.R_keep (IsS75.apart (show IsS75 w _ g911 t908 t923 t924 from zI75 HI911.out) (mR_ HO935.out) (by decide)) hk (fun _ h => h.2)) (fun _ h => h.1)); have n4_ := aM (hb); have n5_ := aM (hi); clear HO_4 HO929 HO932 HO935 HB HI911; have HO_4 := n0_; have HO929 := n1_; have HO932 := n2_; have HO935 := n3_; have HB := n4_; have HI911 := n5_; clear n0_ n1_ n2_ n3_ n4_ n5_; (try clear hb); (try clear hb2); (try clear hk); (try clear hi); obtain ⟨Ao31, co31, eo31⟩ := Kd.R_slice HO935.out; subst eo31; have p939 : 0 ≤ (t936 : Int) := of_decide_eq_true za; have q939 : t936 < (y933.length : Int) := of_decide_eq_true za; obtain ⟨ad939, e939, hx939_0⟩ := Kd.at_int (Kd.R_reads' HO935.out).2.2 t936 p939 q939; cases e939; replace p939 := eq_true p939; replace q939 := eq_true q939))
   go_loopg [5, 7] kj9 (fun kq v5 v7 w' => ∃ (x5_2 : List (S59)) (x7_2 : Int), v7 = .int .i64 x7_2 ∧ Aside0 (spec_DrawHexSymmetries.l0 kq t927 x5_2 (rd y933 t936) x7_2 = some r) ∧ Aside0 (kq ≤ kj9) ∧ Aside0 (Kd.R k59 59 w' w.heap.size (fun k_ => some k_ ≠ (v5 : Value).ownBlock) v928 t927) ∧ Aside0 (Kd.R k59 59 w' w.heap.size (fun k_ => some k_ ≠ (v928 : Value).ownBlock) v5 x5_2) ∧ Aside0 (Below w.heap.size w w'))
   case atStart => exact ⟨(y930), (0), zr, H', ⟨Nat.le_refl _⟩, ⟨zd1 HO929.out⟩, ⟨zd1 HO932.out⟩, ⟨zs (IsS75.ge HI911.out)⟩⟩
   case round =>
    clear H'
    try clear c1
    try clear c2
    try clear p2
    try clear c3
    try clear c4
    try clear c4b0
    try clear c4b1
    try clear c6
    try clear p6
    try clear p9
    try clear q9
    try clear hx9
    try clear qi9
    try clear c14
    try clear c14b0
    try clear c14b1
    try clear c14b2
    try clear c17
    try clear c18
    try clear c18b0
    try clear c18b1
    try clear c21
    try clear c21b0
    try clear c22
    try clear c22b0
    try clear c24
    try clear hx925_0
    try clear hx925_1
    try clear hx926_0
    try clear hx926_1
    try clear hx939_0
    try clear p2
    try clear p925
    try clear p926
    try clear p939
    try clear q925
    try clear q926
    try clear q939
    obtain ⟨x5_2, x7_2, rfl, HA, HK2, HO_4, HO_5, HB⟩ := hrel
    cases gk with
    | zero => exact absurd HA.out (by simp [spec_DrawHexSymmetries.l0])
    | succ k2 =>
     have H := HA.out
     clear HA
     simp only [spec_DrawHexSymmetries.l0] at H
     by_cases c32 : x7_2 < 12
     rotate_left
     ·rw [if_neg c32] at H
      have c32b0 : decide (x7_2 < 12) = false := decide_eq_false c32
      clear c32
      replace H := Option.bind_eq_some_iff.mp H
      obtain ⟨t940, A540, H⟩ := H
      replace H : (some t940) = some r := H
      have A54 := aM A540
      clear A540
      obtain rfl := Option.some.inj H
      obtain ⟨Ao55, co55, eo55⟩ := Kd.R_slice HO_5.out
      subst eo55
      go_wp2_with (first | ((with_reducible refine gate_callee (f := 65) rfl ?_); refine goesL_ (some 72) rfl rfl Try.func65 (by kernel_rfl) rfl #[.slice Ao55 x5_2.length co55] rfl zm ?_; (with_reducible refine (spec_l02Sort.calls k2 _ _ x5_2 t940 _ ?side1 ?side2 A54.out).mono ?_); (case side1 => exact zc HO_5.out); (case side2 => exact (Kd.R_reads' HO_5.out).2.1); rintro e w56 ⟨v941, rfl, ho0, hb⟩; refine ⟨_, rfl, ?_⟩; have n0_ := aM (Kd.R_elder' (mR_ HO_4.out) (Kd.R_base ho0) hb); have n1_ := aM (Kd.R_elder' (mR_ HO_5.out) (Kd.R_base ho0) hb); have n2_ := aM (Kd.R_lower (Kd.R_new' (Kd.R_new' ho0 (Kd.R_lt (mR_ HO_4.out))) (Kd.R_lt (mR_ HO_5.out))) (below_size zb)); have n3_ := aM (below_step zb hb); clear HO_4 HO_5 HB; have HO_4 := n0_; have HO_5 := n1_; have HO942 := n2_; have HB := n3_; clear n0_ n1_ n2_ n3_; (try clear hb); (try clear hb2); (try clear hk); (try clear hi); (try clear ho0)))
      go_ret
      exact ⟨_, zw, zd0 HO942.out, zb⟩
     rw [if_pos c32] at H
     have c32b0 : decide (x7_2 < 12) = true := decide_eq_true c32
     clear c32
     have H' := aM H
     clear H
     go_wp2
     go_loopg [5, 8] k2 (fun kq v5 v8 w' => ∃ (x5_3 : List (S59)) (x8_3 : Int), v8 = .int .i64 x8_3 ∧ Aside0 (spec_DrawHexSymmetries.l1 kq t927 x5_3 (rd y933 t936) x7_2 x8_3 = some r) ∧ Aside0 (kq ≤ k2) ∧ Aside0 (Kd.R k59 59 w' w.heap.size (fun k_ => some k_ ≠ (v5 : Value).ownBlock) v928 t927) ∧ Aside0 (Kd.R k59 59 w' w.heap.size (fun k_ => some k_ ≠ (v928 : Value).ownBlock) v5 x5_3) ∧ Aside0 (Below w.heap.size w w'))
     case atStart => exact ⟨(x5_2), (0), zr, H', ⟨Nat.le_refl _⟩, ⟨mR_ HO_4.out⟩, ⟨mR_ HO_5.out⟩, ⟨zb⟩⟩
     case round =>
      clear H'
      try clear c1
      try clear c2
      try clear p2
      try clear c3
      try clear c4
      try clear c4b0
      try clear c4b1
      try clear c6
      try clear p6
      try clear p9
      try clear q9
      try clear hx9
      try clear qi9
      try clear c14
      try clear c14b0
      try clear c14b1
      try clear c14b2
      try clear c17
      try clear c18
      try clear c18b0
      try clear c18b1
      try clear c21
      try clear c21b0
      try clear c22
      try clear c22b0
      try clear c24
      try clear c32
      try clear c32b0
      try clear hx925_0
      try clear hx925_1
      try clear hx926_0
      try clear hx926_1
      try clear hx939_0
      try clear p2
      try clear p6
      try clear p9
      try clear p925
      try clear p926
      try clear p939
      try clear q9
      try clear q925
      try clear q926
      try clear q939
      obtain ⟨x5_3, x8_3, rfl, HA, HK3, HO_4, HO_5, HB⟩ := hrel
      cases gk with
      | zero => exact absurd HA.out (by simp [spec_DrawHexSymmetries.l1])
      | succ k3 =>
       have H := HA.out
       clear HA
       simp only [spec_DrawHexSymmetries.l1] at H
       by_cases c33 : x8_3 < (t927.length : Int)
       rotate_left
       ·rw [if_neg c33] at H
        have c33b0 : decide (x8_3 < (t927.length : Int)) = false := decide_eq_false c33
        clear c33
        have H' := aM H
        clear H
        obtain ⟨Ao53, co53, eo53⟩ := Kd.R_slice HO_4.out
        subst eo53
        go_wp2
        go_roundg k3
        case measure => have := HJ9.out; have := HK2.out; have := HK3.out; omega
        case rel => exact ⟨(x5_3), (wrap64 (x7_2 + (rd y933 t936))), zr, H', ⟨by have := HJ9.out; have := HK2.out; have := HK3.out; omega⟩, ⟨mR_ HO_4.out⟩, ⟨mR_ HO_5.out⟩, ⟨zb⟩⟩
       rw [if_pos c33] at H
       have c33b0 : decide (x8_3 < (t927.length : Int)) = true := decide_eq_true c33
       clear c33
       by_cases c34 : 0 ≤ x8_3
       rotate_left
       ·rw [if_neg c34] at H
        exact absurd H (by simp)
       rw [if_pos c34] at H
       have c34b0 : decide (0 ≤ x8_3) = true := decide_eq_true c34
       clear c34
       replace H := Option.bind_eq_some_iff.mp H
       obtain ⟨⟨t944, t945⟩, A350, H⟩ := H
       replace H : ((spec_l02Index.f k3 x5_3 t944 t945).bind fun t947 => (if t947 < 0 then (if x5_3.length < 8796093022208 then (spec_DrawHexSymmetries.l1 k3 t927 (x5_3 ++ [(⟨t944, t945⟩ : S59)]) (rd y933 t936) x7_2 (wrap64 (x8_3 + 1))) else (none)) else (spec_DrawHexSymmetries.l1 k3 t927 x5_3 (rd y933 t936) x7_2 (wrap64 (x8_3 + 1))))) = some r := H
       have A35 := aM A350
       clear A350
       replace H := Option.bind_eq_some_iff.mp H
       obtain ⟨t947, A360, H⟩ := H
       replace H : (if t947 < 0 then (if x5_3.length < 8796093022208 then (spec_DrawHexSymmetries.l1 k3 t927 (x5_3 ++ [(⟨t944, t945⟩ : S59)]) (rd y933 t936) x7_2 (wrap64 (x8_3 + 1))) else (none)) else (spec_DrawHexSymmetries.l1 k3 t927 x5_3 (rd y933 t936) x7_2 (wrap64 (x8_3 + 1)))) = some r := H
       have A36 := aM A360
       clear A360
       by_cases c37 : t947 < 0
       rotate_left
       ·rw [if_neg c37] at H
        have c37b0 : decide (t947 < 0) = false := decide_eq_false c37
        clear c37
        have H' := aM H
        clear H
        obtain ⟨Ao47, co47, eo47⟩ := Kd.R_slice HO_4.out
        subst eo47
        have p943 : 0 ≤ (x8_3 : Int) := of_decide_eq_true za
        have q943 : x8_3 < (t927.length : Int) := of_decide_eq_true za
        obtain ⟨ad943, e943, hx943_0, hx943_1⟩ := at_T59 (Kd.R_reads' HO_4.out).2.2 x8_3 p943 q943
        cases e943
        replace p943 := eq_true p943
        replace q943 := eq_true q943
        go_wp2_with (first | ((with_reducible refine gate_callee (f := 63) rfl ?_); refine goesL_ (some 62) rfl rfl Try.func63 (by kernel_rfl) rfl #[.agg #[.int .i64 ((rd_T59 t927 x8_3).f0), .int .i64 ((rd_T59 t927 x8_3).f1)], .int .i64 x7_2] rfl zm ?_; (with_reducible refine (spec_l07Turn.calls k3 ((rd_T59 t927 x8_3).f0) ((rd_T59 t927 x8_3).f1) x7_2 t944 t945 _ A35.out).mono ?_); rintro e w48 ⟨rfl, hb⟩; refine ⟨_, rfl, ?_⟩; have n0_ := aM (Kd.R_below (mR_ HO_4.out) hb); have n1_ := aM (Kd.R_below (mR_ HO_5.out) hb); have n2_ := aM (below_step zb hb); clear HO_4 HO_5 HB; have HO_4 := n0_; have HO_5 := n1_; have HB := n2_; clear n0_ n1_ n2_; (try clear hb); (try clear hb2); (try clear hk); (try clear hi)) | ((with_reducible refine gate_dst (N := 9) rfl ?_); (try (refine gate_guard (by rfl) ?_; dsimp only)); refine zx 9 #[.int .i64 0, .int .i64 0] 59 ?_; intro gb946 hg w49 hbox hb; have n0_ := aM (Kd.R_below (Kd.R_elderB (mR_ HO_4.out) gb946 (Nat.le_of_eq hg.symm)) hb); have n1_ := aM (Kd.R_below (Kd.R_elderB (mR_ HO_5.out) gb946 (Nat.le_of_eq hg.symm)) hb); have n2_ := aM (below_step zb hb); have n3_ := aM (hbox); have n4_ := aM ((ze : w.heap.size ≤ gb946)); have n5_ := aM ((ze : w.heap.size ≤ gb946)); clear HO_4 HO_5 HB; have HO_4 := n0_; have HO_5 := n1_; have HB := n2_; have BK946 := n3_; have GW946 := n4_; have GE946 := n5_; clear n0_ n1_ n2_ n3_ n4_ n5_ hb hbox hg; have hcz50_0 : w49.cell? ⟨gb946, 0, none⟩ = some (.int .i64 0) := (blk_cell BK946.out 0).trans rfl; have hcz50_1 : w49.cell? ⟨gb946, 1, none⟩ = some (.int .i64 0) := (blk_cell BK946.out 1).trans rfl; have hfz50_0 := blk_frozen BK946.out 0; have hfz50_1 := blk_frozen BK946.out 1; obtain ⟨Ao51, co51, eo51⟩ := Kd.R_slice HO_5.out; subst eo51) | ((with_reducible refine gate_callee (f := 64) rfl ?_); refine goesL_ (some 65) rfl rfl Try.func64 (by kernel_rfl) rfl #[.slice Ao51 x5_3.length co51, .agg #[.int .i64 t944, .int .i64 t945]] rfl zm ?_; (with_reducible refine (spec_l02Index.calls k3 _ _ x5_3 t944 t945 t947 _ ?side1 ?side2 A36.out).mono ?_); (case side1 => refine (Kd.R_reads' (e := 59) (base := w.heap.size) (ok := fun k_ => (some k_ ≠ (.slice (some ad943) t927.length co47 : Value).ownBlock ∧ k_ ≠ gb946)) (n := x5_3.length) (c := co51) ?_).2.2; exact (by (with_reducible repeat (first | apply Kd.R_alloc | apply Kd.R_drewN | apply Kd.R_drew)); exact (Kd.R_mono (Kd.R_far (p := ⟨gb946, 1, none⟩) (Kd.R_far (p := ⟨gb946, 0, none⟩) (Kd.R_mono HO_5.out (fun k_ hk => (⟨hk, hk.2⟩ : _ ∧ k_ ≠ gb946))) (fun _ hk => hk.2) (.int .i64 t944)) (fun _ hk => hk.2) (.int .i64 t945)) (fun _ h_ => h_.1)))); (case side2 => exact (Kd.R_reads' HO_5.out).2.1); rintro e w52 ⟨rfl, hb⟩; refine ⟨_, rfl, ?_⟩; have n0_ := aM (Kd.R_below (by (with_reducible repeat (first | apply Kd.R_alloc | apply Kd.R_drewN | apply Kd.R_drew)); exact (Kd.R_mono (Kd.R_far (p := ⟨gb946, 1, none⟩) (Kd.R_far (p := ⟨gb946, 0, none⟩) (Kd.R_mono HO_4.out (fun k_ hk => (⟨hk, hk.2⟩ : _ ∧ k_ ≠ gb946))) (fun _ hk => hk.2) (.int .i64 t944)) (fun _ hk => hk.2) (.int .i64 t945)) (fun _ h_ => h_.1))) hb); have n1_ := aM (Kd.R_below (by (with_reducible repeat (first | apply Kd.R_alloc | apply Kd.R_drewN | apply Kd.R_drew)); exact (Kd.R_mono (Kd.R_far (p := ⟨gb946, 1, none⟩) (Kd.R_far (p := ⟨gb946, 0, none⟩) (Kd.R_mono HO_5.out (fun k_ hk => (⟨hk, hk.2⟩ : _ ∧ k_ ≠ gb946))) (fun _ hk => hk.2) (.int .i64 t944)) (fun _ hk => hk.2) (.int .i64 t945)) (fun _ h_ => h_.1))) hb); have n2_ := aM (blk_below (g := gb946) (o := .cells #[.int .i64 t944, .int .i64 t945] 59 (0, 0)) (by (with_reducible repeat (first | refine blk_drewN ?_ _ | refine blk_drew ?_ | refine blk_alloc ?_ _)); refine blk_put (cs := #[.int .i64 t944, .int .i64 0]) ?_ 1 _ rfl; (with_reducible repeat (first | refine blk_drewN ?_ _ | refine blk_drew ?_ | refine blk_alloc ?_ _)); refine blk_put (cs := #[.int .i64 0, .int .i64 0]) ?_ 0 _ rfl; (with_reducible repeat (first | refine blk_drewN ?_ _ | refine blk_drew ?_ | refine blk_alloc ?_ _)); exact BK946.out) hb); have n3_ := aM (below_step (zs GE946.out) hb); clear HO_4 HO_5 BK946 HB; have HO_4 := n0_; have HO_5 := n1_; have BK946 := n2_; have HB := n3_; clear n0_ n1_ n2_ n3_; (try clear hb); (try clear hb2); (try clear hk); (try clear hi)))
        go_roundg k3
        case measure => have := HJ9.out; have := HK2.out; have := HK3.out; omega
        case rel => exact ⟨(x5_3), (wrap64 (x8_3 + 1)), zr, H', ⟨by have := HJ9.out; have := HK2.out; have := HK3.out; omega⟩, ⟨zd3 HO_4.out⟩, ⟨zd3 HO_5.out⟩, ⟨zs GE946.out⟩⟩
       rw [if_pos c37] at H
       have c37b0 : decide (t947 < 0) = true := decide_eq_true c37
       clear c37
       by_cases c38 : x5_3.length < 8796093022208
       rotate_left
       ·rw [if_neg c38] at H
        exact absurd H (by simp)
       rw [if_pos c38] at H
       have LMc38 := aM c38
       clear c38
       obtain ⟨y948, hy948⟩ : ∃ y_ : List (S59), y_ = (x5_3 ++ [(⟨t944, t945⟩ : S59)]) := ⟨_, rfl⟩
       replace H : (spec_DrawHexSymmetries.l1 k3 t927 y948 (rd y933 t936) x7_2 (wrap64 (x8_3 + 1))) = some r := zy H hy948
       have Ny948 := aM hy948
       clear hy948
       have H' := aM H
       clear H
       obtain ⟨Ao39, co39, eo39⟩ := Kd.R_slice HO_4.out
       subst eo39
       have p943 : 0 ≤ (x8_3 : Int) := of_decide_eq_true za
       have q943 : x8_3 < (t927.length : Int) := of_decide_eq_true za
       obtain ⟨ad943, e943, hx943_0, hx943_1⟩ := at_T59 (Kd.R_reads' HO_4.out).2.2 x8_3 p943 q943
       cases e943
       replace p943 := eq_true p943
       replace q943 := eq_true q943
       go_wp2_with (first | ((with_reducible refine gate_callee (f := 63) rfl ?_); refine goesL_ (some 62) rfl rfl Try.func63 (by kernel_rfl) rfl #[.agg #[.int .i64 ((rd_T59 t927 x8_3).f0), .int .i64 ((rd_T59 t927 x8_3).f1)], .int .i64 x7_2] rfl zm ?_; (with_reducible refine (spec_l07Turn.calls k3 ((rd_T59 t927 x8_3).f0) ((rd_T59 t927 x8_3).f1) x7_2 t944 t945 _ A35.out).mono ?_); rintro e w40 ⟨rfl, hb⟩; refine ⟨_, rfl, ?_⟩; have n0_ := aM (Kd.R_below (mR_ HO_4.out) hb); have n1_ := aM (Kd.R_below (mR_ HO_5.out) hb); have n2_ := aM (below_step zb hb); clear HO_4 HO_5 HB; have HO_4 := n0_; have HO_5 := n1_; have HB := n2_; clear n0_ n1_ n2_; (try clear hb); (try clear hb2); (try clear hk); (try clear hi)) | ((with_reducible refine gate_dst (N := 9) rfl ?_); (try (refine gate_guard (by rfl) ?_; dsimp only)); refine zx 9 #[.int .i64 0, .int .i64 0] 59 ?_; intro gb946 hg w41 hbox hb; have n0_ := aM (Kd.R_below (Kd.R_elderB (mR_ HO_4.out) gb946 (Nat.le_of_eq hg.symm)) hb); have n1_ := aM (Kd.R_below (Kd.R_elderB (mR_ HO_5.out) gb946 (Nat.le_of_eq hg.symm)) hb); have n2_ := aM (below_step zb hb); have n3_ := aM (hbox); have n4_ := aM ((ze : w.heap.size ≤ gb946)); have n5_ := aM ((ze : w.heap.size ≤ gb946)); clear HO_4 HO_5 HB; have HO_4 := n0_; have HO_5 := n1_; have HB := n2_; have BK946 := n3_; have GW946 := n4_; have GE946 := n5_; clear n0_ n1_ n2_ n3_ n4_ n5_ hb hbox hg; have hcz42_0 : w41.cell? ⟨gb946, 0, none⟩ = some (.int .i64 0) := (blk_cell BK946.out 0).trans rfl; have hcz42_1 : w41.cell? ⟨gb946, 1, none⟩ = some (.int .i64 0) := (blk_cell BK946.out 1).trans rfl; have hfz42_0 := blk_frozen BK946.out 0; have hfz42_1 := blk_frozen BK946.out 1; obtain ⟨Ao43, co43, eo43⟩ := Kd.R_slice HO_5.out; subst eo43) | ((with_reducible refine gate_callee (f := 64) rfl ?_); refine goesL_ (some 65) rfl rfl Try.func64 (by kernel_rfl) rfl #[.slice Ao43 x5_3.length co43, .agg #[.int .i64 t944, .int .i64 t945]] rfl zm ?_; (with_reducible refine (spec_l02Index.calls k3 _ _ x5_3 t944 t945 t947 _ ?side1 ?side2 A36.out).mono ?_); (case side1 => refine (Kd.R_reads' (e := 59) (base := w.heap.size) (ok := fun k_ => (some k_ ≠ (.slice (some ad943) t927.length co39 : Value).ownBlock ∧ k_ ≠ gb946)) (n := x5_3.length) (c := co43) ?_).2.2; exact (by (with_reducible repeat (first | apply Kd.R_alloc | apply Kd.R_drewN | apply Kd.R_drew)); exact (Kd.R_mono (Kd.R_far (p := ⟨gb946, 1, none⟩) (Kd.R_far (p := ⟨gb946, 0, none⟩) (Kd.R_mono HO_5.out (fun k_ hk => (⟨hk, hk.2⟩ : _ ∧ k_ ≠ gb946))) (fun _ hk => hk.2) (.int .i64 t944)) (fun _ hk => hk.2) (.int .i64 t945)) (fun _ h_ => h_.1)))); (case side2 => exact (Kd.R_reads' HO_5.out).2.1); rintro e w44 ⟨rfl, hb⟩; refine ⟨_, rfl, ?_⟩; have n0_ := aM (Kd.R_below (by (with_reducible repeat (first | apply Kd.R_alloc | apply Kd.R_drewN | apply Kd.R_drew)); exact (Kd.R_mono (Kd.R_far (p := ⟨gb946, 1, none⟩) (Kd.R_far (p := ⟨gb946, 0, none⟩) (Kd.R_mono HO_4.out (fun k_ hk => (⟨hk, hk.2⟩ : _ ∧ k_ ≠ gb946))) (fun _ hk => hk.2) (.int .i64 t944)) (fun _ hk => hk.2) (.int .i64 t945)) (fun _ h_ => h_.1))) hb); have n1_ := aM (Kd.R_below (by (with_reducible repeat (first | apply Kd.R_alloc | apply Kd.R_drewN | apply Kd.R_drew)); exact (Kd.R_mono (Kd.R_far (p := ⟨gb946, 1, none⟩) (Kd.R_far (p := ⟨gb946, 0, none⟩) (Kd.R_mono HO_5.out (fun k_ hk => (⟨hk, hk.2⟩ : _ ∧ k_ ≠ gb946))) (fun _ hk => hk.2) (.int .i64 t944)) (fun _ hk => hk.2) (.int .i64 t945)) (fun _ h_ => h_.1))) hb); have n2_ := aM (blk_below (g := gb946) (o := .cells #[.int .i64 t944, .int .i64 t945] 59 (0, 0)) (by (with_reducible repeat (first | refine blk_drewN ?_ _ | refine blk_drew ?_ | refine blk_alloc ?_ _)); refine blk_put (cs := #[.int .i64 t944, .int .i64 0]) ?_ 1 _ rfl; (with_reducible repeat (first | refine blk_drewN ?_ _ | refine blk_drew ?_ | refine blk_alloc ?_ _)); refine blk_put (cs := #[.int .i64 0, .int .i64 0]) ?_ 0 _ rfl; (with_reducible repeat (first | refine blk_drewN ?_ _ | refine blk_drew ?_ | refine blk_alloc ?_ _)); exact BK946.out) hb); have n3_ := aM (below_step (zs GE946.out) hb); clear HO_4 HO_5 BK946 HB; have HO_4 := n0_; have HO_5 := n1_; have BK946 := n2_; have HB := n3_; clear n0_ n1_ n2_ n3_; (try clear hb); (try clear hb2); (try clear hk); (try clear hi); have hcz45_0 : w44.cell? ⟨gb946, 0, none⟩ = some (.int .i64 t944) := (blk_cell BK946.out 0).trans rfl; have hcz45_1 : w44.cell? ⟨gb946, 1, none⟩ = some (.int .i64 t945) := (blk_cell BK946.out 1).trans rfl; have hfz45_0 := blk_frozen BK946.out 0; have hfz45_1 := blk_frozen BK946.out 1) | ((with_reducible refine gate_builtin (b := .append) (xs := #[.tmp 67, .tmp 69]) rfl ?_); (try (refine gate_guard (by rfl) ?_; dsimp only)); at_builtin; refine Kd.R_append k59 (w0 := w) w.heap.size rfl (.tmp 67) (.tmp 69) 24 59 (.agg #[(.int .i64 0), (.int .i64 0)]) 16 rfl Try.underlying24 info59 rfl (by decide) (by omega) (.slice Ao43 x5_3.length co43) x5_3 (⟨t944, t945⟩ : S59) [.int .i64 t944, .int .i64 t945] (fun k_ => some k_ ≠ (.slice (some ad943) t927.length co39 : Value).ownBlock ∧ k_ ≠ gb946) (fun _ => False) rfl rfl ?aP (fun _ hk => hk.elim) ?aF ?aO ?aB ?aS ?aL ?_; (case aP => exact k59_mkM _ _ _ (⟨t944, t945⟩ : S59)); (case aB => exact (zs GE946.out)); (case aF => exact (fun k_ hk => ⟨Kd.fresh' (Kd.R_lt (mR_ HO_4.out)) k_ hk, Kd.freshB (g := gb946) (o := .cells #[.int .i64 t944, .int .i64 t945] 59 (0, 0)) (mB_ BK946.out) k_ hk⟩)); (case aO => exact (mR_ HO_5.out)); (case aS => exact (below_size (zs GE946.out))); (case aL => have := LMc38.out; omega); intro v949 w46 ho hb hg hat; rw [← Ny948.out] at ho; have n0_ := aM (Kd.R_after (ok := (fun k_ => k_ ≠ gb946)) (zd4 HO_4.out) hg hat); have n1_ := aM (blk_grown (g := gb946) (o := .cells #[.int .i64 t944, .int .i64 t945] 59 (0, 0)) (mB_ BK946.out) hg (Kd.R_away HO_5.out (fun _ hk => hk.2))); have n2_ := aM (hb); have n3_ := aM (ho); clear HO_4 BK946 HB HO_5; have HO_4 := n0_; have BK946 := n1_; have HB := n2_; have HO950 := n3_; clear n0_ n1_ n2_ n3_; clear ho hb hg hat))
       go_roundg k3
       case measure => have := HJ9.out; have := HK2.out; have := HK3.out; omega
       case rel => exact ⟨(y948), (wrap64 (x8_3 + 1)), zr, H', ⟨by have := HJ9.out; have := HK2.out; have := HK3.out; omega⟩, ⟨zd1 HO_4.out⟩, ⟨zd3 HO950.out⟩, ⟨zs GE946.out⟩⟩
def impl_HexSymmetries.l0 : Nat → List (S59) → List Int → List (S59) → Int → Option (List Int × Int)
 | 0, _, _, _, _ => none
 | k + 1, x0, x6, x7, x22 => if x22 < 12 then ((impl_hexForm.f k x0 x22).bind fun t962 => ((impl_Cell_67.f k t962 x7).bind fun t965 => (if t965 = true then (if x6.length < 17592186044416 then (impl_HexSymmetries.l0 k x0 (x6 ++ [x22]) x7 (wrap64 (x22 + 1))) else (none)) else (impl_HexSymmetries.l0 k x0 x6 x7 (wrap64 (x22 + 1)))))) else (some (x6, 0))
def impl_HexSymmetries.f (k : Nat) (l0 : List (S59)) : Option (List Int × Int) := (impl_IsShape.f k l0).bind fun t951 => (if t951 = true then ((impl_leastForm__impl_hexForm.f k l0).bind fun bt952 => (if bt952.2 = true then ((impl_normal.f k l0).bind fun t959 => (impl_HexSymmetries.l0 k l0 (([] : List Int)) t959 0)) else (some (([] : List Int), 3)))) else (some (([] : List Int), 1)))
end Go.Proofs.Ytlnliahadgmbcaa.F
end
