/- The row of FnSolidTotals, with what it needs: text 7 of 12. -/
import Derived.Test.YtlompfboheiliaaKST5
set_option maxHeartbeats 8000000
set_option maxRecDepth 100000
section
namespace Go.Proofs.Ytlompfboheiliaa.F
open Go.RowKit Go.Proofs.YtlompfboheiliaaW.PrintWords Go.Proofs.YtlompfboheiliaaW.PrintLast Go.Proofs.YtlompfboheiliaaW.PrintMore
attribute [local go_sem] max2_int min2_int max_two min_two max_three min_three max_four min_four
set_option linter.unusedVariables false
set_option linter.unusedSimpArgs false
mutual
def spec_l09Turn.j0 : Nat → Int → Int → Int → Int → Option (Int × Int × Int)
 | 0, _, _, _, _ => none
 | k + 1, x1, x290000, x290001, x290002 => spec_l09Turn.l0 k x1 (Int.tmod x1 4) x290000 x290001 x290002
def spec_l09Turn.l0 : Nat → Int → Int → Int → Int → Int → Option (Int × Int × Int)
 | 0, _, _, _, _, _ => none
 | k + 1, x1, x5, x290000, x290001, x290002 => if x5 > 0 then (spec_l09Turn.l0 k x1 (wrap64 (x5 - 1)) (wrap64 (-x290001)) x290000 x290002) else (if (Int.tmod (wrap64 (Int.tdiv x1 4)) 6) = 4 then (some (x290002, x290001, wrap64 (-x290000))) else (if (Int.tmod (wrap64 (Int.tdiv x1 4)) 6) = 5 then (some (wrap64 (-x290002), x290001, x290000)) else (spec_l09Turn.l1 k (Int.tmod (wrap64 (Int.tdiv x1 4)) 6) x290000 x290001 x290002)))
def spec_l09Turn.l1 : Nat → Int → Int → Int → Int → Option (Int × Int × Int)
 | 0, _, _, _, _ => none
 | k + 1, x6, x290000, x290001, x290002 => if x6 > 0 then (spec_l09Turn.l1 k (wrap64 (x6 - 1)) x290000 (wrap64 (-x290002)) x290001) else (some (x290000, x290001, x290002))
end
def spec_l09Turn.f (k : Nat) (a0_0 : Int) (a0_1 : Int) (a0_2 : Int) (a1 : Int) : Option (Int × Int × Int) := if a1 ≥ 24 then (spec_l09Turn.j0 k a1 (wrap64 (-a0_0)) a0_1 a0_2) else (spec_l09Turn.j0 k a1 a0_0 a0_1 a0_2)
theorem spec_l09Turn.calls (k : Nat) (a0_0 : Int) (a0_1 : Int) (a0_2 : Int) (a1 : Int) (r1 : Int) (r2 : Int) (r3 : Int) (w : World) (h : spec_l09Turn.f k a0_0 a0_1 a0_2 a1 = some (r1, r2, r3)) :
  Calls Try.prog 61 #[.agg #[.int .i64 a0_0, .int .i64 a0_1, .int .i64 a0_2], .int .i64 a1] w fun e w' => e = .returned (.agg #[.int .i64 r1, .int .i64 r2, .int .i64 r3]) ∧ Below w.heap.size w w' := by
 have hu43 := Try.underlying43
 have HB := aM (Below.refl w.heap.size w)
 have H : (if a1 ≥ 24 then (spec_l09Turn.j0 k a1 (wrap64 (-a0_0)) a0_1 a0_2) else (spec_l09Turn.j0 k a1 a0_0 a0_1 a0_2)) = some (r1, r2, r3) := h
 clear h
 have HC3 := aM H
 clear H
 go_enter Try.func61, Try.ntmps61
 go_upto_if 8 with (first | ((with_reducible refine gate_dst (N := 2) rfl ?_); refine zx 2 #[.int .i64 a0_0, .int .i64 a0_1, .int .i64 a0_2] 43 ?_; intro gb289 hg w4 hbox hb; have n0_ := aM (below_step zb hb); have n1_ := aM (hbox); have n2_ := aM ((ze : w.heap.size ≤ gb289)); have n3_ := aM ((ze : w.heap.size ≤ gb289)); clear HB; have HB := n0_; have BK289 := n1_; have GW289 := n2_; have GE289 := n3_; clear n0_ n1_ n2_ n3_; clear hb hbox hg) | ((with_reducible refine gate_dst (N := 4) rfl ?_); refine zx 4 #[.int .i64 0, .int .i64 0, .int .i64 0] 43 ?_; intro gb290 hg w5 hbox hb; have n0_ := aM (blk_below (g := gb289) (o := .cells #[.int .i64 a0_0, .int .i64 a0_1, .int .i64 a0_2] 43 (0, 0)) (mB_ BK289.out) hb); have n1_ := aM (below_step (zs GE289.out) hb); have n2_ := aM (hbox); have n3_ := aM ((zf GE289.out : w.heap.size ≤ gb290)); have n4_ := aM ((zf GE289.out : w.heap.size ≤ gb290)); have n5_ := aM ((zl BK289.out : gb289 ≠ gb290)); have n6_ := aM ((zn BK289.out : gb290 ≠ gb289)); clear BK289 HB; have BK289 := n0_; have HB := n1_; have BK290 := n2_; have GW290 := n3_; have GE290 := n4_; have NB289_290 := n5_; have NB290_289 := n6_; clear n0_ n1_ n2_ n3_ n4_ n5_ n6_; clear hb hbox hg))
 (try simp only [Act.put, xA, xB, xC])
 go_cut [] (fun wc => ∃ (kq : Nat) (x290000_2 : Int) (x290001_2 : Int) (x290002_2 : Int), Aside0 (spec_l09Turn.j0 kq a1 x290000_2 x290001_2 x290002_2 = some (r1, r2, r3)) ∧ Aside0 (kq ≤ k) ∧ Aside0 (wc.heap[gb289]? = some (.cells #[.int .i64 x290000_2, .int .i64 x290001_2, .int .i64 x290002_2] 43 (0, 0))) ∧ Aside0 (wc.heap[gb290]? = some (.cells #[.int .i64 0, .int .i64 0, .int .i64 0] 43 (0, 0))) ∧ Aside0 (Below w.heap.size w wc))
 case first =>
  have H := HC3.out
  clear HC3
  by_cases c6 : a1 ≥ 24
  rotate_left
  ·rw [if_neg c6] at H
   have c6b0 : decide (24 ≤ a1) = false := decide_eq_false c6
   clear c6
   (first | rw [c6b0] | (simp only [i64_w, i32_w]; rw [c6b0]) | skip)
   have H' := aM H
   clear H
   go_wp2
   go_meet
   case rel => exact ⟨_, (a0_0), (a0_1), (a0_2), H', ⟨by first | omega | exact Nat.le_refl _⟩, ⟨mB_ BK289.out⟩, ⟨mB_ BK290.out⟩, ⟨zt GE289.out GE290.out⟩⟩
  rw [if_pos c6] at H
  have c6b0 : decide (24 ≤ a1) = true := decide_eq_true c6
  clear c6
  (first | rw [c6b0] | (simp only [i64_w, i32_w]; rw [c6b0]) | skip)
  have H' := aM H
  clear H
  have hnb7 := NB289_290.out
  have hnc7 := NB290_289.out
  have hcz8_0 : w5.cell? ⟨gb289, 0, none⟩ = some (.int .i64 a0_0) := (blk_cell BK289.out 0).trans rfl
  have hcz8_1 : w5.cell? ⟨gb289, 1, none⟩ = some (.int .i64 a0_1) := (blk_cell BK289.out 1).trans rfl
  have hcz8_2 : w5.cell? ⟨gb289, 2, none⟩ = some (.int .i64 a0_2) := (blk_cell BK289.out 2).trans rfl
  have hfz8_0 := blk_frozen BK289.out 0
  have hfz8_1 := blk_frozen BK289.out 1
  have hfz8_2 := blk_frozen BK289.out 2
  go_wp2
  go_meet
  case rel => exact ⟨_, (wrap64 (-a0_0)), (a0_1), (a0_2), H', ⟨by first | omega | exact Nat.le_refl _⟩, ⟨by (with_reducible repeat (first | refine blk_drewN ?_ _ | refine blk_drew ?_ | refine blk_alloc ?_ _)); refine blk_put (cs := #[.int .i64 (wrap64 (-a0_0)), .int .i64 a0_1, .int .i64 a0_2]) ?_ 2 _ rfl; (with_reducible repeat (first | refine blk_drewN ?_ _ | refine blk_drew ?_ | refine blk_alloc ?_ _)); refine blk_put (cs := #[.int .i64 (wrap64 (-a0_0)), .int .i64 a0_1, .int .i64 a0_2]) ?_ 1 _ rfl; (with_reducible repeat (first | refine blk_drewN ?_ _ | refine blk_drew ?_ | refine blk_alloc ?_ _)); refine blk_put (cs := #[.int .i64 a0_0, .int .i64 a0_1, .int .i64 a0_2]) ?_ 0 _ rfl; (with_reducible repeat (first | refine blk_drewN ?_ _ | refine blk_drew ?_ | refine blk_alloc ?_ _)); exact BK289.out⟩, ⟨by (with_reducible repeat (first | refine blk_drewN ?_ _ | refine blk_drew ?_ | refine blk_alloc ?_ _)); refine blk_far ?_ NB290_289.out _; (with_reducible repeat (first | refine blk_drewN ?_ _ | refine blk_drew ?_ | refine blk_alloc ?_ _)); refine blk_far ?_ NB290_289.out _; (with_reducible repeat (first | refine blk_drewN ?_ _ | refine blk_drew ?_ | refine blk_alloc ?_ _)); refine blk_far ?_ NB290_289.out _; (with_reducible repeat (first | refine blk_drewN ?_ _ | refine blk_drew ?_ | refine blk_alloc ?_ _)); exact BK290.out⟩, ⟨zt GE289.out GE290.out⟩⟩
 case rest =>
  clear HC3
  try clear p2
  try clear c6
  try clear c6b0
  try clear p6
  try clear c7
  try clear hcz8_0
  try clear hcz8_1
  try clear hcz8_2
  try clear hfz8_0
  try clear hfz8_1
  try clear hfz8_2
  obtain ⟨kq, x290000_2, x290001_2, x290002_2, HA, HJ2, BK289, BK290, HB⟩ := hcut
  cases kq with
  | zero => exact absurd HA.out (by simp [spec_l09Turn.j0])
  | succ kj2 =>
   have H := HA.out
   clear HA
   simp only [spec_l09Turn.j0] at H
   have H' := aM H
   clear H
   go_wp2
   go_loopg [5] kj2 (fun kq v5 w' => ∃ (x5_2 : Int) (x290000_2 : Int) (x290001_2 : Int) (x290002_2 : Int), v5 = .int .i64 x5_2 ∧ Aside0 (spec_l09Turn.l0 kq a1 x5_2 x290000_2 x290001_2 x290002_2 = some (r1, r2, r3)) ∧ Aside0 (kq ≤ kj2) ∧ Aside0 (w'.heap[gb289]? = some (.cells #[.int .i64 x290000_2, .int .i64 x290001_2, .int .i64 x290002_2] 43 (0, 0))) ∧ Aside0 (w'.heap[gb290]? = some (.cells #[.int .i64 0, .int .i64 0, .int .i64 0] 43 (0, 0))) ∧ Aside0 (Below w.heap.size w w'))
   case atStart => exact ⟨(Int.tmod a1 4), (x290000_2), (x290001_2), (x290002_2), zr, H', ⟨Nat.le_refl _⟩, ⟨mB_ BK289.out⟩, ⟨mB_ BK290.out⟩, ⟨zt GE289.out GE290.out⟩⟩
   case round =>
    clear H'
    try clear p2
    try clear c6
    try clear c6b0
    try clear p6
    try clear c7
    try clear hcz8_0
    try clear hcz8_1
    try clear hcz8_2
    try clear hfz8_0
    try clear hfz8_1
    try clear hfz8_2
    try clear p2
    try clear p6
    obtain ⟨x5_2, x290000_2, x290001_2, x290002_2, rfl, HA, HK2, BK289, BK290, HB⟩ := hrel
    cases gk with
    | zero => exact absurd HA.out (by simp [spec_l09Turn.l0])
    | succ k2 =>
     have H := HA.out
     clear HA
     simp only [spec_l09Turn.l0] at H
     by_cases c9 : x5_2 > 0
     ·rw [if_pos c9] at H
      have c9b0 : decide (0 < x5_2) = true := decide_eq_true c9
      clear c9
      have H' := aM H
      clear H
      have hnb10 := NB289_290.out
      have hnc10 := NB290_289.out
      have hcz11_0 : wr.cell? ⟨gb289, 0, none⟩ = some (.int .i64 x290000_2) := (blk_cell BK289.out 0).trans rfl
      have hcz11_1 : wr.cell? ⟨gb289, 1, none⟩ = some (.int .i64 x290001_2) := (blk_cell BK289.out 1).trans rfl
      have hcz11_2 : wr.cell? ⟨gb289, 2, none⟩ = some (.int .i64 x290002_2) := (blk_cell BK289.out 2).trans rfl
      have hfz11_0 := blk_frozen BK289.out 0
      have hfz11_1 := blk_frozen BK289.out 1
      have hfz11_2 := blk_frozen BK289.out 2
      go_wp2
      go_roundg k2
      case measure => have := HJ2.out; have := HK2.out; omega
      case rel => exact ⟨(wrap64 (x5_2 - 1)), (wrap64 (-x290001_2)), (x290000_2), (x290002_2), zr, H', ⟨by have := HJ2.out; have := HK2.out; omega⟩, ⟨by (with_reducible repeat (first | refine blk_drewN ?_ _ | refine blk_drew ?_ | refine blk_alloc ?_ _)); refine blk_put (cs := #[.int .i64 (wrap64 (-x290001_2)), .int .i64 x290000_2, .int .i64 x290002_2]) ?_ 2 _ rfl; (with_reducible repeat (first | refine blk_drewN ?_ _ | refine blk_drew ?_ | refine blk_alloc ?_ _)); refine blk_put (cs := #[.int .i64 (wrap64 (-x290001_2)), .int .i64 x290001_2, .int .i64 x290002_2]) ?_ 1 _ rfl; (with_reducible repeat (first | refine blk_drewN ?_ _ | refine blk_drew ?_ | refine blk_alloc ?_ _)); refine blk_put (cs := #[.int .i64 x290000_2, .int .i64 x290001_2, .int .i64 x290002_2]) ?_ 0 _ rfl; (with_reducible repeat (first | refine blk_drewN ?_ _ | refine blk_drew ?_ | refine blk_alloc ?_ _)); exact BK289.out⟩, ⟨by (with_reducible repeat (first | refine blk_drewN ?_ _ | refine blk_drew ?_ | refine blk_alloc ?_ _)); refine blk_far ?_ NB290_289.out _; (with_reducible repeat (first | refine blk_drewN ?_ _ | refine blk_drew ?_ | refine blk_alloc ?_ _)); refine blk_far ?_ NB290_289.out _; (with_reducible repeat (first | refine blk_drewN ?_ _ | refine blk_drew ?_ | refine blk_alloc ?_ _)); refine blk_far ?_ NB290_289.out _; (with_reducible repeat (first | refine blk_drewN ?_ _ | refine blk_drew ?_ | refine blk_alloc ?_ _)); exact BK290.out⟩, ⟨zt GE289.out GE290.out⟩⟩
     rw [if_neg c9] at H
     have c9b0 : decide (0 < x5_2) = false := decide_eq_false c9
     clear c9
     by_cases c12 : (Int.tmod (wrap64 (Int.tdiv a1 4)) 6) = 4
     ·rw [if_pos c12] at H
      have c12b0 : ((Int.tmod (wrap64 (Int.tdiv a1 4)) 6) == 4) = true := beq_iff_eq.mpr c12
      have c12b1 : ((Int.tmod (wrap64 (Int.tdiv a1 4)) 6) != 4) = false := bne_eq_false_iff_eq.mpr c12
      clear c12
      simp only [Option.some.injEq, Prod.mk.injEq] at H
      obtain ⟨rfl, rfl, rfl⟩ := H
      have hnb13 := NB289_290.out
      have hnc13 := NB290_289.out
      have hcz14_0 : wr.cell? ⟨gb289, 0, none⟩ = some (.int .i64 x290000_2) := (blk_cell BK289.out 0).trans rfl
      have hcz14_1 : wr.cell? ⟨gb289, 1, none⟩ = some (.int .i64 x290001_2) := (blk_cell BK289.out 1).trans rfl
      have hcz14_2 : wr.cell? ⟨gb289, 2, none⟩ = some (.int .i64 x290002_2) := (blk_cell BK289.out 2).trans rfl
      have hfz14_0 := blk_frozen BK289.out 0
      have hfz14_1 := blk_frozen BK289.out 1
      have hfz14_2 := blk_frozen BK289.out 2
      have hcz15_0 : wr.cell? ⟨gb290, 0, none⟩ = some (.int .i64 0) := (blk_cell BK290.out 0).trans rfl
      have hcz15_1 : wr.cell? ⟨gb290, 1, none⟩ = some (.int .i64 0) := (blk_cell BK290.out 1).trans rfl
      have hcz15_2 : wr.cell? ⟨gb290, 2, none⟩ = some (.int .i64 0) := (blk_cell BK290.out 2).trans rfl
      have hfz15_0 := blk_frozen BK290.out 0
      have hfz15_1 := blk_frozen BK290.out 1
      have hfz15_2 := blk_frozen BK290.out 2
      go_wp2
      refine bodyPost_ret (results_cell_row rfl _ _ gb290 43 #[.int .i64 x290002_2, .int .i64 x290001_2, .int .i64 (wrap64 (-x290000_2))] (0, 0) _ rfl (by (with_reducible repeat (first | refine blk_drewN ?_ _ | refine blk_drew ?_ | refine blk_alloc ?_ _)); refine blk_put (cs := #[.int .i64 x290002_2, .int .i64 x290001_2, .int .i64 0]) ?_ 2 _ rfl; (with_reducible repeat (first | refine blk_drewN ?_ _ | refine blk_drew ?_ | refine blk_alloc ?_ _)); refine blk_put (cs := #[.int .i64 x290002_2, .int .i64 0, .int .i64 0]) ?_ 1 _ rfl; (with_reducible repeat (first | refine blk_drewN ?_ _ | refine blk_drew ?_ | refine blk_alloc ?_ _)); refine blk_put (cs := #[.int .i64 0, .int .i64 0, .int .i64 0]) ?_ 0 _ rfl; (with_reducible repeat (first | refine blk_drewN ?_ _ | refine blk_drew ?_ | refine blk_alloc ?_ _)); exact BK290.out) Try.underlying43 rfl (by kernel_rfl)) rfl ?_
      exact ⟨zw, zt GE289.out GE290.out⟩
     rw [if_neg c12] at H
     have c12b0 : ((Int.tmod (wrap64 (Int.tdiv a1 4)) 6) == 4) = false := beq_eq_false_iff_ne.mpr c12
     have c12b1 : ((Int.tmod (wrap64 (Int.tdiv a1 4)) 6) != 4) = true := bne_iff_ne.mpr c12
     by_cases c16 : (Int.tmod (wrap64 (Int.tdiv a1 4)) 6) = 5
     ·rw [if_pos c16] at H
      have c16b0 : ((Int.tmod (wrap64 (Int.tdiv a1 4)) 6) == 5) = true := beq_iff_eq.mpr c16
      have c16b1 : ((Int.tmod (wrap64 (Int.tdiv a1 4)) 6) != 5) = false := bne_eq_false_iff_eq.mpr c16
      clear c16
      simp only [Option.some.injEq, Prod.mk.injEq] at H
      obtain ⟨rfl, rfl, rfl⟩ := H
      have hnb17 := NB289_290.out
      have hnc17 := NB290_289.out
      have hcz18_0 : wr.cell? ⟨gb289, 0, none⟩ = some (.int .i64 x290000_2) := (blk_cell BK289.out 0).trans rfl
      have hcz18_1 : wr.cell? ⟨gb289, 1, none⟩ = some (.int .i64 x290001_2) := (blk_cell BK289.out 1).trans rfl
      have hcz18_2 : wr.cell? ⟨gb289, 2, none⟩ = some (.int .i64 x290002_2) := (blk_cell BK289.out 2).trans rfl
      have hfz18_0 := blk_frozen BK289.out 0
      have hfz18_1 := blk_frozen BK289.out 1
      have hfz18_2 := blk_frozen BK289.out 2
      have hcz19_0 : wr.cell? ⟨gb290, 0, none⟩ = some (.int .i64 0) := (blk_cell BK290.out 0).trans rfl
      have hcz19_1 : wr.cell? ⟨gb290, 1, none⟩ = some (.int .i64 0) := (blk_cell BK290.out 1).trans rfl
      have hcz19_2 : wr.cell? ⟨gb290, 2, none⟩ = some (.int .i64 0) := (blk_cell BK290.out 2).trans rfl
      have hfz19_0 := blk_frozen BK290.out 0
      have hfz19_1 := blk_frozen BK290.out 1
      have hfz19_2 := blk_frozen BK290.out 2
      go_wp2
      refine bodyPost_ret (results_cell_row rfl _ _ gb290 43 #[.int .i64 (wrap64 (-x290002_2)), .int .i64 x290001_2, .int .i64 x290000_2] (0, 0) _ rfl (by (with_reducible repeat (first | refine blk_drewN ?_ _ | refine blk_drew ?_ | refine blk_alloc ?_ _)); refine blk_put (cs := #[.int .i64 (wrap64 (-x290002_2)), .int .i64 x290001_2, .int .i64 0]) ?_ 2 _ rfl; (with_reducible repeat (first | refine blk_drewN ?_ _ | refine blk_drew ?_ | refine blk_alloc ?_ _)); refine blk_put (cs := #[.int .i64 (wrap64 (-x290002_2)), .int .i64 0, .int .i64 0]) ?_ 1 _ rfl; (with_reducible repeat (first | refine blk_drewN ?_ _ | refine blk_drew ?_ | refine blk_alloc ?_ _)); refine blk_put (cs := #[.int .i64 0, .int .i64 0, .int .i64 0]) ?_ 0 _ rfl; (with_reducible repeat (first | refine blk_drewN ?_ _ | refine blk_drew ?_ | refine blk_alloc ?_ _)); exact BK290.out) Try.underlying43 rfl (by kernel_rfl)) rfl ?_
      exact ⟨zw, zt GE289.out GE290.out⟩
     rw [if_neg c16] at H
     have c16b0 : ((Int.tmod (wrap64 (Int.tdiv a1 4)) 6) == 5) = false := beq_eq_false_iff_ne.mpr c16
     have c16b1 : ((Int.tmod (wrap64 (Int.tdiv a1 4)) 6) != 5) = true := bne_iff_ne.mpr c16
     have H' := aM H
     clear H
     go_wp2
     go_loopg [6] k2 (fun kq v6 w' => ∃ (x6_3 : Int) (x290000_3 : Int) (x290001_3 : Int) (x290002_3 : Int), v6 = .int .i64 x6_3 ∧ Aside0 (spec_l09Turn.l1 kq x6_3 x290000_3 x290001_3 x290002_3 = some (r1, r2, r3)) ∧ Aside0 (kq ≤ k2) ∧ Aside0 (w'.heap[gb289]? = some (.cells #[.int .i64 x290000_3, .int .i64 x290001_3, .int .i64 x290002_3] 43 (0, 0))) ∧ Aside0 (w'.heap[gb290]? = some (.cells #[.int .i64 0, .int .i64 0, .int .i64 0] 43 (0, 0))) ∧ Aside0 (Below w.heap.size w w'))
     case atStart => exact ⟨(Int.tmod (wrap64 (Int.tdiv a1 4)) 6), (x290000_2), (x290001_2), (x290002_2), zr, H', ⟨Nat.le_refl _⟩, ⟨mB_ BK289.out⟩, ⟨mB_ BK290.out⟩, ⟨zt GE289.out GE290.out⟩⟩
     case round =>
      clear H'
      try clear c1
      try clear p2
      try clear c6
      try clear c6b0
      try clear p6
      try clear c7
      try clear c9
      try clear c9b0
      try clear c10
      try clear c12
      try clear c12b0
      try clear c12b1
      try clear c13
      try clear c16
      try clear c16b0
      try clear c16b1
      try clear c17
      try clear hcz11_0
      try clear hcz11_1
      try clear hcz11_2
      try clear hcz14_0
      try clear hcz14_1
      try clear hcz14_2
      try clear hcz15_0
      try clear hcz15_1
      try clear hcz15_2
      try clear hcz18_0
      try clear hcz18_1
      try clear hcz18_2
      try clear hcz19_0
      try clear hcz19_1
      try clear hcz19_2
      try clear hcz8_0
      try clear hcz8_1
      try clear hcz8_2
      try clear hfz11_0
      try clear hfz11_1
      try clear hfz11_2
      try clear hfz14_0
      try clear hfz14_1
      try clear hfz14_2
      try clear hfz15_0
      try clear hfz15_1
      try clear hfz15_2
      try clear hfz18_0
      try clear hfz18_1
      try clear hfz18_2
      try clear hfz19_0
      try clear hfz19_1
      try clear hfz19_2
      try clear hfz8_0
      try clear hfz8_1
      try clear hfz8_2
      try clear p2
      try clear p6
      obtain ⟨x6_3, x290000_3, x290001_3, x290002_3, rfl, HA, HK3, BK289, BK290, HB⟩ := hrel
      cases gk with
      | zero => exact absurd HA.out (by simp [spec_l09Turn.l1])
      | succ k3 =>
       have H := HA.out
       clear HA
       simp only [spec_l09Turn.l1] at H
       by_cases c20 : x6_3 > 0
       ·rw [if_pos c20] at H
        have c20b0 : decide (0 < x6_3) = true := decide_eq_true c20
        clear c20
        have H' := aM H
        clear H
        have hnb21 := NB289_290.out
        have hnc21 := NB290_289.out
        have hcz22_0 : wr.cell? ⟨gb289, 0, none⟩ = some (.int .i64 x290000_3) := (blk_cell BK289.out 0).trans rfl
        have hcz22_1 : wr.cell? ⟨gb289, 1, none⟩ = some (.int .i64 x290001_3) := (blk_cell BK289.out 1).trans rfl
        have hcz22_2 : wr.cell? ⟨gb289, 2, none⟩ = some (.int .i64 x290002_3) := (blk_cell BK289.out 2).trans rfl
        have hfz22_0 := blk_frozen BK289.out 0
        have hfz22_1 := blk_frozen BK289.out 1
        have hfz22_2 := blk_frozen BK289.out 2
        go_wp2
        go_roundg k3
        case measure => have := HJ2.out; have := HK2.out; have := HK3.out; omega
        case rel => exact ⟨(wrap64 (x6_3 - 1)), (x290000_3), (wrap64 (-x290002_3)), (x290001_3), zr, H', ⟨by have := HJ2.out; have := HK2.out; have := HK3.out; omega⟩, ⟨by (with_reducible repeat (first | refine blk_drewN ?_ _ | refine blk_drew ?_ | refine blk_alloc ?_ _)); refine blk_put (cs := #[.int .i64 x290000_3, .int .i64 (wrap64 (-x290002_3)), .int .i64 x290002_3]) ?_ 2 _ rfl; (with_reducible repeat (first | refine blk_drewN ?_ _ | refine blk_drew ?_ | refine blk_alloc ?_ _)); refine blk_put (cs := #[.int .i64 x290000_3, .int .i64 x290001_3, .int .i64 x290002_3]) ?_ 1 _ rfl; (with_reducible repeat (first | refine blk_drewN ?_ _ | refine blk_drew ?_ | refine blk_alloc ?_ _)); refine blk_put (cs := #[.int .i64 x290000_3, .int .i64 x290001_3, .int .i64 x290002_3]) ?_ 0 _ rfl; (with_reducible repeat (first | refine blk_drewN ?_ _ | refine blk_drew ?_ | refine blk_alloc ?_ _)); exact BK289.out⟩, ⟨by (with_reducible repeat (first | refine blk_drewN ?_ _ | refine blk_drew ?_ | refine blk_alloc ?_ _)); refine blk_far ?_ NB290_289.out _; (with_reducible repeat (first | refine blk_drewN ?_ _ | refine blk_drew ?_ | refine blk_alloc ?_ _)); refine blk_far ?_ NB290_289.out _; (with_reducible repeat (first | refine blk_drewN ?_ _ | refine blk_drew ?_ | refine blk_alloc ?_ _)); refine blk_far ?_ NB290_289.out _; (with_reducible repeat (first | refine blk_drewN ?_ _ | refine blk_drew ?_ | refine blk_alloc ?_ _)); exact BK290.out⟩, ⟨zt GE289.out GE290.out⟩⟩
       rw [if_neg c20] at H
       have c20b0 : decide (0 < x6_3) = false := decide_eq_false c20
       clear c20
       simp only [Option.some.injEq, Prod.mk.injEq] at H
       obtain ⟨rfl, rfl, rfl⟩ := H
       have hnb23 := NB289_290.out
       have hnc23 := NB290_289.out
       have hcz24_0 : wr.cell? ⟨gb289, 0, none⟩ = some (.int .i64 x290000_3) := (blk_cell BK289.out 0).trans rfl
       have hcz24_1 : wr.cell? ⟨gb289, 1, none⟩ = some (.int .i64 x290001_3) := (blk_cell BK289.out 1).trans rfl
       have hcz24_2 : wr.cell? ⟨gb289, 2, none⟩ = some (.int .i64 x290002_3) := (blk_cell BK289.out 2).trans rfl
       have hfz24_0 := blk_frozen BK289.out 0
       have hfz24_1 := blk_frozen BK289.out 1
       have hfz24_2 := blk_frozen BK289.out 2
       have hcz25_0 : wr.cell? ⟨gb290, 0, none⟩ = some (.int .i64 0) := (blk_cell BK290.out 0).trans rfl
       have hcz25_1 : wr.cell? ⟨gb290, 1, none⟩ = some (.int .i64 0) := (blk_cell BK290.out 1).trans rfl
       have hcz25_2 : wr.cell? ⟨gb290, 2, none⟩ = some (.int .i64 0) := (blk_cell BK290.out 2).trans rfl
       have hfz25_0 := blk_frozen BK290.out 0
       have hfz25_1 := blk_frozen BK290.out 1
       have hfz25_2 := blk_frozen BK290.out 2
       go_wp2
       refine bodyPost_ret (results_cell_row rfl _ _ gb290 43 #[.int .i64 x290000_3, .int .i64 x290001_3, .int .i64 x290002_3] (0, 0) _ rfl (by (with_reducible repeat (first | refine blk_drewN ?_ _ | refine blk_drew ?_ | refine blk_alloc ?_ _)); refine blk_put (cs := #[.int .i64 x290000_3, .int .i64 x290001_3, .int .i64 0]) ?_ 2 _ rfl; (with_reducible repeat (first | refine blk_drewN ?_ _ | refine blk_drew ?_ | refine blk_alloc ?_ _)); refine blk_put (cs := #[.int .i64 x290000_3, .int .i64 0, .int .i64 0]) ?_ 1 _ rfl; (with_reducible repeat (first | refine blk_drewN ?_ _ | refine blk_drew ?_ | refine blk_alloc ?_ _)); refine blk_put (cs := #[.int .i64 0, .int .i64 0, .int .i64 0]) ?_ 0 _ rfl; (with_reducible repeat (first | refine blk_drewN ?_ _ | refine blk_drew ?_ | refine blk_alloc ?_ _)); exact BK290.out) Try.underlying43 rfl (by kernel_rfl)) rfl ?_
       exact ⟨zw, zt GE289.out GE290.out⟩
def spec_l09Form.l0 : Nat → List (S43) → Int → List (S43) → Int → Option ((List (S43)))
 | 0, _, _, _, _ => none
 | k + 1, x0, x1, x5, x6 => if x6 < (x0.length : Int) then (if 0 ≤ x6 then ((spec_l09Turn.f k ((rd_T43 x0 x6).f0) ((rd_T43 x0 x6).f1) ((rd_T43 x0 x6).f2) x1).bind fun bt295 => (if x5.length < 5864062014805 then (spec_l09Form.l0 k x0 x1 (x5 ++ [(⟨bt295.1, bt295.2.1, bt295.2.2⟩ : S43)]) (wrap64 (x6 + 1))) else (none))) else (none)) else ((spec_l09Sort.f k x5).bind fun t301 => ((spec_l09Normal.f k t301).bind fun t304 => (some t304)))
def spec_l09Form.f (k : Nat) (l0 : List (S43)) (a1 : Int) : Option ((List (S43))) := spec_l09Form.l0 k l0 a1 (([] : List (S43))) 0
theorem spec_l09Form.calls (k : Nat) (A0 : Option Addr) (c0 : Nat) (l0 : List (S43)) (a1 : Int) (r : List (S43)) (w : World) (hr0 : Kd.C k43 w A0 l0.length l0) (hc0 : l0.length ≤ c0) (h : spec_l09Form.f k l0 a1 = some r) :
  Calls Try.prog 51 #[.slice A0 l0.length c0, .int .i64 a1] w fun e w' => ∃ v0_ : Value, e = .returned (v0_) ∧ Kd.R k43 43 w' w.heap.size (fun _ => True) v0_ r ∧ Below w.heap.size w w' := by
 have hu43 := Try.underlying43
 have HR0 := aM hr0
 have HC0 := aM hc0
 clear hr0 hc0
 have HB := aM (Below.refl w.heap.size w)
 have H : (spec_l09Form.l0 k l0 a1 (([] : List (S43))) 0) = some r := h
 clear h
 obtain ⟨y291, hy291⟩ : ∃ y_ : List (S43), y_ = (([] : List (S43))) := ⟨_, rfl⟩
 replace H : (spec_l09Form.l0 k l0 a1 y291 0) = some r := zy H hy291
 have Ny291 := aM hy291
 clear hy291
 have H' := aM H
 clear H
 go_enter Try.func51, Try.ntmps51
 go_wp2_with (first | ((with_reducible refine gate_dst (N := 7) rfl ?_); refine Kd.R_lit k43 _ 43 ?hg (N := 7) ?hd (xs := ([] : List (S43))) (inner := []) (ok := fun _ => True) (okp := fun _ => True) ?hr ?hp (fun _ hk => hk) trivial (Below.refl _ _) (Nat.le_refl _) (by simp) ?_; (case hd => rfl); (case hg => rfl); (case hr => first | (go_simp; done) | (go_simp; rfl)); (case hp => exact (Reps.none _ _)); intro v292 w3 ho4 hb hg_ hnew_; clear hg_ hnew_; (first | rw [← Ny291.out] at ho4 | (simp only [Int.reduceToNat] at ho4; rw [← Ny291.out] at ho4)); have n0_ := aM (Kd.R_lower ho4 (below_size zb)); have n1_ := aM (below_step zb hb); clear HB; have HO293 := n0_; have HB := n1_; clear n0_ n1_; clear hb ho4))
 go_loopg [5, 6] k (fun kq v5 v6 w' => ∃ (x5_1 : List (S43)) (x6_1 : Int), v6 = .int .i64 x6_1 ∧ Aside0 (spec_l09Form.l0 kq l0 a1 x5_1 x6_1 = some r) ∧ Aside0 (kq ≤ k) ∧ Aside0 (Kd.R k43 43 w' w.heap.size (fun _ => True) v5 x5_1) ∧ Aside0 (Below w.heap.size w w'))
 case atStart => exact ⟨(y291), (0), zr, H', ⟨Nat.le_refl _⟩, ⟨mR_ HO293.out⟩, ⟨zb⟩⟩
 case round =>
  clear H'
  try clear p2
  obtain ⟨x5_1, x6_1, rfl, HA, HK1, HO_5, HB⟩ := hrel
  cases gk with
  | zero => exact absurd HA.out (by simp [spec_l09Form.l0])
  | succ k1 =>
   have H := HA.out
   clear HA
   simp only [spec_l09Form.l0] at H
   by_cases c5 : x6_1 < (l0.length : Int)
   rotate_left
   ·rw [if_neg c5] at H
    have c5b0 : decide (x6_1 < (l0.length : Int)) = false := decide_eq_false c5
    clear c5
    replace H := Option.bind_eq_some_iff.mp H
    obtain ⟨t301, A110, H⟩ := H
    replace H : ((spec_l09Normal.f k1 t301).bind fun t304 => (some t304)) = some r := H
    have A11 := aM A110
    clear A110
    replace H := Option.bind_eq_some_iff.mp H
    obtain ⟨t304, A120, H⟩ := H
    replace H : (some t304) = some r := H
    have A12 := aM A120
    clear A120
    obtain rfl := Option.some.inj H
    obtain ⟨Ao13, co13, eo13⟩ := Kd.R_slice HO_5.out
    subst eo13
    go_wp2_with (first | ((with_reducible refine gate_callee (f := 30) rfl ?_); refine goesL_ (some 24) rfl rfl Try.func30 (by kernel_rfl) rfl #[.slice Ao13 x5_1.length co13] rfl zm ?_; (with_reducible refine (spec_l09Sort.calls k1 _ _ x5_1 t301 _ ?side1 ?side2 A11.out).mono ?_); (case side1 => exact zc HO_5.out); (case side2 => exact (Kd.R_reads' HO_5.out).2.1); rintro e w14 ⟨v302, rfl, ho0, hb⟩; refine ⟨_, rfl, ?_⟩; have n0_ := aM (Kd.R_elder' (mR_ HO_5.out) (Kd.R_base ho0) hb); have n1_ := aM (Kd.R_lower (Kd.R_new' ho0 (Kd.R_lt (mR_ HO_5.out))) (below_size zb)); have n2_ := aM (below_step zb hb); clear HO_5 HB; have HO_5 := n0_; have HO303 := n1_; have HB := n2_; clear n0_ n1_ n2_; (try clear hb); (try clear hb2); (try clear hk); (try clear hi); (try clear ho0); obtain ⟨Ao15, co15, eo15⟩ := Kd.R_slice HO303.out; subst eo15) | ((with_reducible refine gate_callee (f := 29) rfl ?_); refine goesL_ (some 25) rfl rfl Try.func29 (by kernel_rfl) rfl #[.slice Ao15 t301.length co15] rfl zm ?_; (with_reducible refine (spec_l09Normal.calls k1 _ _ t301 t304 _ ?side1 ?side2 A12.out).mono ?_); (case side1 => exact zc HO303.out); (case side2 => exact (Kd.R_reads' HO303.out).2.1); rintro e w16 ⟨v305, rfl, ho0, hb⟩; refine ⟨_, rfl, ?_⟩; have n0_ := aM (Kd.R_elder' (mR_ HO_5.out) (Kd.R_base ho0) hb); have n1_ := aM (Kd.R_elder' (mR_ HO303.out) (Kd.R_base ho0) hb); have n2_ := aM (Kd.R_lower (Kd.R_new' (Kd.R_new' ho0 (Kd.R_lt (mR_ HO_5.out))) (Kd.R_lt (mR_ HO303.out))) (below_size zb)); have n3_ := aM (below_step zb hb); clear HO_5 HO303 HB; have HO_5 := n0_; have HO303 := n1_; have HO306 := n2_; have HB := n3_; clear n0_ n1_ n2_ n3_; (try clear hb); (try clear hb2); (try clear hk); (try clear hi); (try clear ho0)))
    go_ret
    exact ⟨_, zw, zd6 HO306.out, zb⟩
   rw [if_pos c5] at H
   have c5b0 : decide (x6_1 < (l0.length : Int)) = true := decide_eq_true c5
   clear c5
   by_cases c6 : 0 ≤ x6_1
   rotate_left
   ·rw [if_neg c6] at H
    exact absurd H (by simp)
   rw [if_pos c6] at H
   have c6b0 : decide (0 ≤ x6_1) = true := decide_eq_true c6
   clear c6
   replace H := Option.bind_eq_some_iff.mp H
   obtain ⟨⟨t295, t296, t297⟩, A70, H⟩ := H
   replace H : (if x5_1.length < 5864062014805 then (spec_l09Form.l0 k1 l0 a1 (x5_1 ++ [(⟨t295, t296, t297⟩ : S43)]) (wrap64 (x6_1 + 1))) else (none)) = some r := H
   have A7 := aM A70
   clear A70
   by_cases c8 : x5_1.length < 5864062014805
   rotate_left
   ·rw [if_neg c8] at H
    exact absurd H (by simp)
   rw [if_pos c8] at H
   have LMc8 := aM c8
   clear c8
   obtain ⟨y298, hy298⟩ : ∃ y_ : List (S43), y_ = (x5_1 ++ [(⟨t295, t296, t297⟩ : S43)]) := ⟨_, rfl⟩
   replace H : (spec_l09Form.l0 k1 l0 a1 y298 (wrap64 (x6_1 + 1))) = some r := zy H hy298
   have Ny298 := aM hy298
   clear hy298
   have H' := aM H
   clear H
   have p294 : 0 ≤ (x6_1 : Int) := of_decide_eq_true za
   have q294 : x6_1 < (l0.length : Int) := of_decide_eq_true za
   obtain ⟨ad294, e294, hx294_0, hx294_1, hx294_2⟩ := at_T43 HR0.out x6_1 p294 q294
   cases e294
   replace hx294_0 := zk HB.out hx294_0
   replace hx294_1 := zk HB.out hx294_1
   replace hx294_2 := zk HB.out hx294_2
   replace p294 := eq_true p294
   replace q294 := eq_true q294
   go_wp2_with (first | ((with_reducible refine gate_callee (f := 61) rfl ?_); refine goesL_ (some 20) rfl rfl Try.func61 (by kernel_rfl) rfl #[.agg #[.int .i64 ((rd_T43 l0 x6_1).f0), .int .i64 ((rd_T43 l0 x6_1).f1), .int .i64 ((rd_T43 l0 x6_1).f2)], .int .i64 a1] rfl zm ?_; (with_reducible refine (spec_l09Turn.calls k1 ((rd_T43 l0 x6_1).f0) ((rd_T43 l0 x6_1).f1) ((rd_T43 l0 x6_1).f2) a1 t295 t296 t297 _ A7.out).mono ?_); rintro e w9 ⟨rfl, hb⟩; refine ⟨_, rfl, ?_⟩; have n0_ := aM (Kd.R_below (mR_ HO_5.out) hb); have n1_ := aM (below_step zb hb); clear HO_5 HB; have HO_5 := n0_; have HB := n1_; clear n0_ n1_; (try clear hb); (try clear hb2); (try clear hk); (try clear hi)) | ((with_reducible refine gate_builtin (b := .append) (xs := #[.tmp 14, .tmp 21]) rfl ?_); at_builtin; refine Kd.R_append k43 (w0 := w) w.heap.size rfl (.tmp 14) (.tmp 21) 40 43 (.agg #[(.int .i64 0), (.int .i64 0), (.int .i64 0)]) 24 rfl Try.underlying40 info43 rfl (by decide) (by omega) u5 x5_1 (⟨t295, t296, t297⟩ : S43) [.int .i64 t295, .int .i64 t296, .int .i64 t297] (fun _ => True) (fun _ => False) rfl rfl ?aP (fun _ hk => hk.elim) ?aF ?aO ?aB ?aS ?aL ?_; (case aP => exact k43_mkM _ _ _ (⟨t295, t296, t297⟩ : S43)); (case aB => exact zb); (case aF => exact (fun _ _ => trivial)); (case aO => exact (mR_ HO_5.out)); (case aS => exact (below_size zb)); (case aL => have := LMc8.out; omega); intro v299 w10 ho hb hg hat; rw [← Ny298.out] at ho; have n0_ := aM (hb); have n1_ := aM (ho); clear HB HO_5; have HB := n0_; have HO300 := n1_; clear n0_ n1_; clear ho hb hg hat))
   go_roundg k1
   case measure => have := HK1.out; omega
   case rel => exact ⟨(y298), (wrap64 (x6_1 + 1)), zr, H', ⟨by have := HK1.out; omega⟩, ⟨mR_ HO300.out⟩, ⟨zb⟩⟩
def spec_l09Least.l0 : Nat → List (S43) → Int → List (S43) → Int → Option ((List (S43)))
 | 0, _, _, _, _ => none
 | k + 1, x0, x1, x5, x6 => if x6 < x1 then ((spec_l09Form.f k x0 x6).bind fun t310 => ((spec_l09Compare.f k t310 x5).bind fun t313 => (if t313 < 0 then (spec_l09Least.l0 k x0 x1 t310 (wrap64 (x6 + 1))) else (spec_l09Least.l0 k x0 x1 x5 (wrap64 (x6 + 1)))))) else (some x5)
def spec_l09Least.f (k : Nat) (l0 : List (S43)) (a1 : Int) : Option ((List (S43))) := (spec_l09Form.f k l0 0).bind fun t307 => (spec_l09Least.l0 k l0 a1 t307 1)
theorem spec_l09Least.calls (k : Nat) (A0 : Option Addr) (c0 : Nat) (l0 : List (S43)) (a1 : Int) (r : List (S43)) (w : World) (hr0 : Kd.C k43 w A0 l0.length l0) (hc0 : l0.length ≤ c0) (h : spec_l09Least.f k l0 a1 = some r) :
  Calls Try.prog 32 #[.slice A0 l0.length c0, .int .i64 a1] w fun e w' => ∃ v0_ : Value, e = .returned (v0_) ∧ Kd.R k43 43 w' w.heap.size (fun _ => True) v0_ r ∧ Below w.heap.size w w' := by
 have HR0 := aM hr0
 have HC0 := aM hc0
 clear hr0 hc0
 have HB := aM (Below.refl w.heap.size w)
 have H : ((spec_l09Form.f k l0 0).bind fun t307 => (spec_l09Least.l0 k l0 a1 t307 1)) = some r := h
 clear h
 replace H := Option.bind_eq_some_iff.mp H
 obtain ⟨t307, A30, H⟩ := H
 replace H : (spec_l09Least.l0 k l0 a1 t307 1) = some r := H
 have A3 := aM A30
 clear A30
 have H' := aM H
 clear H
 go_enter Try.func32, Try.ntmps32
 go_wp2_with (first | ((with_reducible refine gate_callee (f := 51) rfl ?_); refine goesL_ (some 9) rfl rfl Try.func51 (by kernel_rfl) rfl #[.slice A0 l0.length c0, .int .i64 0] rfl zm ?_; (with_reducible refine (spec_l09Form.calls k _ _ l0 0 t307 _ ?side1 ?side2 A3.out).mono ?_); (case side1 => repeat (first | exact HR0.out | (with_reducible refine Kd.C_alloc ?_ _) | (with_reducible refine Kd.C_drewN ?_ _) | (with_reducible refine Kd.C_drew ?_))); (case side2 => exact HC0.out); rintro e w4 ⟨v308, rfl, ho0, hb⟩; refine ⟨_, rfl, ?_⟩; have n0_ := aM (Kd.R_lower ho0 (below_size zb)); have n1_ := aM (below_step zb hb); clear HB; have HO309 := n0_; have HB := n1_; clear n0_ n1_; (try clear hb); (try clear hb2); (try clear hk); (try clear hi); (try clear ho0)))
 go_loopg [5, 6] k (fun kq v5 v6 w' => ∃ (x5_1 : List (S43)) (x6_1 : Int), v6 = .int .i64 x6_1 ∧ Aside0 (spec_l09Least.l0 kq l0 a1 x5_1 x6_1 = some r) ∧ Aside0 (kq ≤ k) ∧ Aside0 (Kd.R k43 43 w' w.heap.size (fun _ => True) v5 x5_1) ∧ Aside0 (Below w.heap.size w w'))
 case atStart => exact ⟨(t307), (1), zr, H', ⟨Nat.le_refl _⟩, ⟨mR_ HO309.out⟩, ⟨zb⟩⟩
 case round =>
  clear H'
  try clear p2
  try clear c3
  obtain ⟨x5_1, x6_1, rfl, HA, HK1, HO_5, HB⟩ := hrel
  cases gk with
  | zero => exact absurd HA.out (by simp [spec_l09Least.l0])
  | succ k1 =>
   have H := HA.out
   clear HA
   simp only [spec_l09Least.l0] at H
   by_cases c5 : x6_1 < a1
   rotate_left
   ·rw [if_neg c5] at H
    have c5b0 : decide (x6_1 < a1) = false := decide_eq_false c5
    clear c5
    obtain rfl := Option.some.inj H
    go_wp2
    go_ret
    exact ⟨_, zw, mR_ HO_5.out, zb⟩
   rw [if_pos c5] at H
   have c5b0 : decide (x6_1 < a1) = true := decide_eq_true c5
   clear c5
   replace H := Option.bind_eq_some_iff.mp H
   obtain ⟨t310, A60, H⟩ := H
   replace H : ((spec_l09Compare.f k1 t310 x5_1).bind fun t313 => (if t313 < 0 then (spec_l09Least.l0 k1 l0 a1 t310 (wrap64 (x6_1 + 1))) else (spec_l09Least.l0 k1 l0 a1 x5_1 (wrap64 (x6_1 + 1))))) = some r := H
   have A6 := aM A60
   clear A60
   replace H := Option.bind_eq_some_iff.mp H
   obtain ⟨t313, A70, H⟩ := H
   replace H : (if t313 < 0 then (spec_l09Least.l0 k1 l0 a1 t310 (wrap64 (x6_1 + 1))) else (spec_l09Least.l0 k1 l0 a1 x5_1 (wrap64 (x6_1 + 1)))) = some r := H
   have A7 := aM A70
   clear A70
   by_cases c8 : t313 < 0
   ·rw [if_pos c8] at H
    have c8b0 : decide (t313 < 0) = true := decide_eq_true c8
    clear c8
    have H' := aM H
    clear H
    go_wp2_with (first | ((with_reducible refine gate_callee (f := 51) rfl ?_); refine goesL_ (some 17) rfl rfl Try.func51 (by kernel_rfl) rfl #[.slice A0 l0.length c0, .int .i64 x6_1] rfl zm ?_; (with_reducible refine (spec_l09Form.calls k1 _ _ l0 x6_1 t310 _ ?side1 ?side2 A6.out).mono ?_); (case side1 => repeat (first | exact (Kd.C_below HR0.out HB.out) | (with_reducible refine Kd.C_alloc ?_ _) | (with_reducible refine Kd.C_drewN ?_ _) | (with_reducible refine Kd.C_drew ?_))); (case side2 => exact HC0.out); rintro e w9 ⟨v311, rfl, ho0, hb⟩; refine ⟨_, rfl, ?_⟩; have n0_ := aM (Kd.R_elder' (mR_ HO_5.out) (Kd.R_base ho0) hb); have n1_ := aM (Kd.R_lower (Kd.R_new' ho0 (Kd.R_lt (mR_ HO_5.out))) (below_size zb)); have n2_ := aM (below_step zb hb); clear HO_5 HB; have HO_5 := n0_; have HO312 := n1_; have HB := n2_; clear n0_ n1_ n2_; (try clear hb); (try clear hb2); (try clear hk); (try clear hi); (try clear ho0); obtain ⟨Ao10, co10, eo10⟩ := Kd.R_slice HO312.out; subst eo10; obtain ⟨Ao11, co11, eo11⟩ := Kd.R_slice HO_5.out; subst eo11) | ((with_reducible refine gate_callee (f := 31) rfl ?_); refine goesL_ (some 20) rfl rfl Try.func31 (by kernel_rfl) rfl #[.slice Ao10 t310.length co10, .slice Ao11 x5_1.length co11] rfl zm ?_; (with_reducible refine (spec_l09Compare.calls k1 _ _ t310 _ _ x5_1 t313 _ ?side1 ?side2 ?side3 ?side4 A7.out).mono ?_); (case side1 => exact zc HO312.out); (case side2 => exact (Kd.R_reads' HO312.out).2.1); (case side3 => exact zc HO_5.out); (case side4 => exact (Kd.R_reads' HO_5.out).2.1); rintro e w12 ⟨rfl, hb⟩; refine ⟨_, rfl, ?_⟩; have n0_ := aM (Kd.R_below (mR_ HO_5.out) hb); have n1_ := aM (Kd.R_below (mR_ HO312.out) hb); have n2_ := aM (below_step zb hb); clear HO_5 HO312 HB; have HO_5 := n0_; have HO312 := n1_; have HB := n2_; clear n0_ n1_ n2_; (try clear hb); (try clear hb2); (try clear hk); (try clear hi)))
    go_roundg k1
    case measure => have := HK1.out; omega
    case rel => exact ⟨(t310), (wrap64 (x6_1 + 1)), zr, H', ⟨by have := HK1.out; omega⟩, ⟨zd6 HO312.out⟩, ⟨zb⟩⟩
   rw [if_neg c8] at H
   have c8b0 : decide (t313 < 0) = false := decide_eq_false c8
   clear c8
   have H' := aM H
   clear H
   go_wp2_with (first | ((with_reducible refine gate_callee (f := 51) rfl ?_); refine goesL_ (some 17) rfl rfl Try.func51 (by kernel_rfl) rfl #[.slice A0 l0.length c0, .int .i64 x6_1] rfl zm ?_; (with_reducible refine (spec_l09Form.calls k1 _ _ l0 x6_1 t310 _ ?side1 ?side2 A6.out).mono ?_); (case side1 => repeat (first | exact (Kd.C_below HR0.out HB.out) | (with_reducible refine Kd.C_alloc ?_ _) | (with_reducible refine Kd.C_drewN ?_ _) | (with_reducible refine Kd.C_drew ?_))); (case side2 => exact HC0.out); rintro e w13 ⟨v311, rfl, ho0, hb⟩; refine ⟨_, rfl, ?_⟩; have n0_ := aM (Kd.R_elder' (mR_ HO_5.out) (Kd.R_base ho0) hb); have n1_ := aM (Kd.R_lower (Kd.R_new' ho0 (Kd.R_lt (mR_ HO_5.out))) (below_size zb)); have n2_ := aM (below_step zb hb); clear HO_5 HB; have HO_5 := n0_; have HO312 := n1_; have HB := n2_; clear n0_ n1_ n2_; (try clear hb); (try clear hb2); (try clear hk); (try clear hi); (try clear ho0); obtain ⟨Ao14, co14, eo14⟩ := Kd.R_slice HO312.out; subst eo14; obtain ⟨Ao15, co15, eo15⟩ := Kd.R_slice HO_5.out; subst eo15) | ((with_reducible refine gate_callee (f := 31) rfl ?_); refine goesL_ (some 20) rfl rfl Try.func31 (by kernel_rfl) rfl #[.slice Ao14 t310.length co14, .slice Ao15 x5_1.length co15] rfl zm ?_; (with_reducible refine (spec_l09Compare.calls k1 _ _ t310 _ _ x5_1 t313 _ ?side1 ?side2 ?side3 ?side4 A7.out).mono ?_); (case side1 => exact zc HO312.out); (case side2 => exact (Kd.R_reads' HO312.out).2.1); (case side3 => exact zc HO_5.out); (case side4 => exact (Kd.R_reads' HO_5.out).2.1); rintro e w16 ⟨rfl, hb⟩; refine ⟨_, rfl, ?_⟩; have n0_ := aM (Kd.R_below (mR_ HO_5.out) hb); have n1_ := aM (Kd.R_below (mR_ HO312.out) hb); have n2_ := aM (below_step zb hb); clear HO_5 HO312 HB; have HO_5 := n0_; have HO312 := n1_; have HB := n2_; clear n0_ n1_ n2_; (try clear hb); (try clear hb2); (try clear hk); (try clear hi)))
   go_roundg k1
   case measure => have := HK1.out; omega
   case rel => exact ⟨(x5_1), (wrap64 (x6_1 + 1)), zr, H', ⟨by have := HK1.out; omega⟩, ⟨zd6 HO_5.out⟩, ⟨zb⟩⟩
def spec_l09Turns.f (a0 : Bool) : Option (Int) := if a0 = true then (some 48) else (some 24)
theorem spec_l09Turns.calls (a0 : Bool) (r : Int) (w : World) (h : spec_l09Turns.f a0 = some r) :
  Calls Try.prog 33 #[.bool a0] w fun e w' => e = .returned (.int .i64 r) ∧ Drawn0 w w' := by
 have H : (if a0 = true then (some 48) else (some 24)) = some r := h
 clear h
 by_cases c2 : a0 = true
 ·subst c2
  have H1 : (some 48) = some r := by rw [if_pos rfl] at H; exact H
  clear H
  have H := H1
  clear H1
  obtain rfl := Option.some.inj H
  go_enter Try.func33, Try.ntmps33
  go_wp2
  go_ret
  exact ⟨by first | rfl | (simp; done) | (simp [*]; done), by repeat (first | exact Drawn0.refl _ | apply Drawn0.step)⟩
 replace c2 := Bool.eq_false_iff.mpr c2
 subst c2
 have H1 : (some 24) = some r := by rw [if_neg (show ¬ (false = true) by decide)] at H; exact H
 clear H
 have H := H1
 clear H1
 obtain rfl := Option.some.inj H
 go_enter Try.func33, Try.ntmps33
 go_wp2
 go_ret
 exact ⟨by first | rfl | (simp; done) | (simp [*]; done), by repeat (first | exact Drawn0.refl _ | apply Drawn0.step)⟩
end Go.Proofs.Ytlompfboheiliaa.F
end
section
namespace Go.Proofs.Ytlompfboheiliaa.F
open Go.RowKit Go.Proofs.YtlompfboheiliaaW.PrintWords Go.Proofs.YtlompfboheiliaaW.PrintLast Go.Proofs.YtlompfboheiliaaW.PrintMore
attribute [local go_sem] max2_int min2_int max_two min_two max_three min_three max_four min_four
set_option linter.unusedVariables false
set_option linter.unusedSimpArgs false
attribute [local go_sem high] eqA43
def spec_l09Own.l0 : Nat → List (List (S43)) → Bool → List (List (S43)) → Int → Option ((List (List (S43))))
 | 0, _, _, _, _ => none
 | k + 1, x0, x1, x5, x6 => if x6 < (x0.length : Int) then (if 0 ≤ x6 then ((spec_l09Turns.f x1).bind fun t318 => ((spec_l09Least.f k (rd_L2 x0 x6) t318).bind fun t319 => ((spec_l09Compare.f k t319 (rd_L2 x0 x6)).bind fun t323 => (if t323 = 0 then (if x5.length < 5864062014805 then (spec_l09Own.l0 k x0 x1 (x5 ++ [rd_L2 x0 x6]) (wrap64 (x6 + 1))) else (none)) else (spec_l09Own.l0 k x0 x1 x5 (wrap64 (x6 + 1))))))) else (none)) else (some x5)
def spec_l09Own.f (k : Nat) (l0 : List (List (S43))) (a1 : Bool) : Option ((List (List (S43)))) := spec_l09Own.l0 k l0 a1 (([] : List (List (S43)))) 0
def spec_l09Own.T5 : Bool × List (List Nat × List Nat) := (true, [([], []), ([], []), ([0, 1], [0, 1]), ([2], [2]), ([], []), ([4], [4]), ([3, 5, 5], [3, 5]), ([], []), ([], []), ([7, 8], [7, 8]), ([9], [9]), ([6, 10, 6], [6, 10]), ([11], [11])])
def spec_l09Own.B5 : List Nat := [0, 0, 3, 7, 0, 16, 63, 0, 0, 384, 896, 2047, 4095]
theorem spec_l09Own.tab5 : rtab .any (opsOf Try.f17 5) = spec_l09Own.T5 := by kernel_rfl
theorem spec_l09Own.bits5 : waitsOk spec_l09Own.T5.2 spec_l09Own.B5 = true := by kernel_rfl
theorem spec_l09Own.calls (k : Nat) (P0_ : Nat → Prop) (A0 : Option Addr) (c0 : Nat) (l0 : List (List (S43))) (a1 : Bool) (r : List (List (S43))) (w : World) (hs0 : Kd.V (Kd.slice 43 k43) 40 w w.heap.size (fun k_ => P0_ k_) (.slice A0 l0.length c0) l0) (h : spec_l09Own.f k l0 a1 = some r) :
  Calls Try.prog 17 #[.slice A0 l0.length c0, .bool a1] w fun e w' => ∃ v0_ : Value, e = .returned (v0_) ∧ Kd.N (Kd.slice 43 k43) 40 w' w.heap.size (fun k_ => (P0_ k_ ∨ w.heap.size ≤ k_)) v0_ r ∧ Below w.heap.size w w' := by
 have HO0 := aM (show Kd.V (Kd.slice 43 k43) 40 w w.heap.size (fun k_ => (P0_ k_ ∨ w.heap.size ≤ k_)) (.slice A0 l0.length c0) l0 from Kd.V_mono hs0 (fun k_ hk => .inl hk))
 have HB := aM (Below.refl w.heap.size w)
 have H : (spec_l09Own.l0 k l0 a1 (([] : List (List (S43)))) 0) = some r := h
 clear h
 obtain ⟨y314, hy314⟩ : ∃ y_ : List (List (S43)), y_ = (([] : List (List (S43)))) := ⟨_, rfl⟩
 replace H : (spec_l09Own.l0 k l0 a1 y314 0) = some r := zy H hy314
 have Ny314 := aM hy314
 clear hy314
 have H' := aM H
 clear H
 go_enter Try.func17, Try.ntmps17
 go_wp2_with (first | ((with_reducible refine gate_dst (N := 7) rfl ?_); refine Kd.N_lit (Kd.slice 43 k43) _ 40 ?hg (N' := 7) ?hd (xs := ([] : List (List (S43)))) (inner := []) (ok := (fun k_ => (P0_ k_ ∨ w.heap.size ≤ k_))) (okp := (fun k_ => (P0_ k_ ∨ w.heap.size ≤ k_))) ?hr ?hp (fun _ hk => hk) ((show ∀ k_, w.heap.size ≤ k_ → (fun k_ => (P0_ k_ ∨ w.heap.size ≤ k_)) k_ from fun k_ hk => (.inr (Nat.le_trans (below_size zb) hk))) _ (Nat.le_refl _)) (Below.refl _ _) (Nat.le_refl _) (by simp) ?_; (case hd => rfl); (case hg => rfl); (case hr => first | (go_simp; done) | (go_simp; rfl)); (case hp => exact (Reps.none _ _)); intro v315 w3 ho4 hb hg_ hnew_; clear hg_ hnew_; (first | rw [← Ny314.out] at ho4 | (simp only [Int.reduceToNat] at ho4; rw [← Ny314.out] at ho4)); have n0_ := aM (Kd.V_elder' (mV_ HO0.out) (by first | exact Kd.N_base ho4 | exact Kd.S_base ho4 | exact Kd.R_base ho4) hb); have n1_ := aM (Kd.N_lower ho4 (below_size zb)); have n2_ := aM (below_step zb hb); clear HO0 HB; have HO0 := n0_; have HO316 := n1_; have HB := n2_; clear n0_ n1_ n2_; clear hb ho4))
 go_loopg [5, 6] k (fun kq v5 v6 w' => ∃ (x5_1 : List (List (S43))) (x6_1 : Int), v6 = .int .i64 x6_1 ∧ Aside0 (spec_l09Own.l0 kq l0 a1 x5_1 x6_1 = some r) ∧ Aside0 (kq ≤ k) ∧ Aside0 (Kd.V (Kd.slice 43 k43) 40 w' w.heap.size (fun k_ => (P0_ k_ ∨ w.heap.size ≤ k_) ∧ some k_ ≠ (v5 : Value).ownBlock) (.slice A0 l0.length c0) l0) ∧ Aside0 (Kd.N (Kd.slice 43 k43) 40 w' w.heap.size (fun k_ => (P0_ k_ ∨ w.heap.size ≤ k_)) v5 x5_1) ∧ Aside0 (Below w.heap.size w w'))
 case atStart => exact ⟨(y314), (0), zr, H', ⟨Nat.le_refl _⟩, ⟨mV_ HO0.out⟩, ⟨mN_ HO316.out⟩, ⟨zb⟩⟩
 case round =>
  clear H'
  try clear c1
  try clear p2
  obtain ⟨x5_1, x6_1, rfl, HA, HK1, HO_0, HO_5, HB⟩ := hrel
  cases gk with
  | zero => exact absurd HA.out (by simp [spec_l09Own.l0])
  | succ k1 =>
   have H := HA.out
   clear HA
   simp only [spec_l09Own.l0] at H
   by_cases c5 : x6_1 < (l0.length : Int)
   rotate_left
   ·rw [if_neg c5] at H
    have c5b0 : decide (x6_1 < (l0.length : Int)) = false := decide_eq_false c5
    clear c5
    obtain rfl := Option.some.inj H
    go_wp2
    go_ret
    exact ⟨_, zw, mN_ HO_5.out, zb⟩
   rw [if_pos c5] at H
   have c5b0 : decide (x6_1 < (l0.length : Int)) = true := decide_eq_true c5
   clear c5
   by_cases c6 : 0 ≤ x6_1
   rotate_left
   ·rw [if_neg c6] at H
    exact absurd H (by simp)
   rw [if_pos c6] at H
   have c6b0 : decide (0 ≤ x6_1) = true := decide_eq_true c6
   clear c6
   replace H := Option.bind_eq_some_iff.mp H
   obtain ⟨t318, A70, H⟩ := H
   replace H : ((spec_l09Least.f k1 (rd_L2 l0 x6_1) t318).bind fun t319 => ((spec_l09Compare.f k1 t319 (rd_L2 l0 x6_1)).bind fun t323 => (if t323 = 0 then (if x5_1.length < 5864062014805 then (spec_l09Own.l0 k1 l0 a1 (x5_1 ++ [rd_L2 l0 x6_1]) (wrap64 (x6_1 + 1))) else (none)) else (spec_l09Own.l0 k1 l0 a1 x5_1 (wrap64 (x6_1 + 1)))))) = some r := H
   have A7 := aM A70
   clear A70
   replace H := Option.bind_eq_some_iff.mp H
   obtain ⟨t319, A80, H⟩ := H
   replace H : ((spec_l09Compare.f k1 t319 (rd_L2 l0 x6_1)).bind fun t323 => (if t323 = 0 then (if x5_1.length < 5864062014805 then (spec_l09Own.l0 k1 l0 a1 (x5_1 ++ [rd_L2 l0 x6_1]) (wrap64 (x6_1 + 1))) else (none)) else (spec_l09Own.l0 k1 l0 a1 x5_1 (wrap64 (x6_1 + 1))))) = some r := H
   have A8 := aM A80
   clear A80
   replace H := Option.bind_eq_some_iff.mp H
   obtain ⟨t323, A90, H⟩ := H
   replace H : (if t323 = 0 then (if x5_1.length < 5864062014805 then (spec_l09Own.l0 k1 l0 a1 (x5_1 ++ [rd_L2 l0 x6_1]) (wrap64 (x6_1 + 1))) else (none)) else (spec_l09Own.l0 k1 l0 a1 x5_1 (wrap64 (x6_1 + 1)))) = some r := H
   have A9 := aM A90
   clear A90
   by_cases c10 : t323 = 0
   rotate_left
   ·rw [if_neg c10] at H
    have c10b0 : (t323 == 0) = false := beq_eq_false_iff_ne.mpr c10
    have c10b1 : (t323 != 0) = true := bne_iff_ne.mpr c10
    have H' := aM H
    clear H
    try go_wp2
    have n0_ := aM (Kd.V_drew HO_0.out)
    have n1_ := aM (Kd.N_drew HO_5.out)
    have n2_ := aM (below_drew1 HB.out)
    clear HO_0
    clear HO_5
    clear HB
    have HO_0 := n0_
    have HO_5 := n1_
    have HB := n2_
    clear n0_ n1_ n2_
    have p317 : 0 ≤ (x6_1 : Int) := of_decide_eq_true za
    have q317 : x6_1 < (l0.length : Int) := of_decide_eq_true za
    obtain ⟨ad317, A317_0, c317_0, e317, hx317_0, hl317_0, hi317_0⟩ := at_L2 (Kd.V_reads' HO_0.out).2.2 x6_1 p317 q317
    cases e317
    obtain ⟨ce317, hce317, hMe317, hcc317⟩ := Kd.V_get HO_0.out [] x6_1 p317 (by first | exact q317 | exact of_decide_eq_true za | (have e_ := (Kd.V_reads' HO_0.out).1; omega))
    obtain ⟨ua317_0, uc317_0, rfl, ul317_0, ge317_0⟩ := Kd.FK_slice_open hMe317
    have hv317_0 := hcc317 0 _ rfl
    rw [Nat.add_zero, show ((Kd.slice 43 k43)).sz = 1 from rfl, Nat.mul_one] at hv317_0
    replace hv317_0 := Option.some.inj (hv317_0.symm.trans hx317_0)
    injection hv317_0 with hva_ hvn_ hvc_
    rw [hva_] at ge317_0
    rw [hvc_] at ul317_0
    have HL317_0 := aM (show Kd.V k43 43 _ w.heap.size _ _ (rd_L2 l0 x6_1) from Kd.V_mk ul317_0 ge317_0)
    clear hva_ hvn_ hvc_ ge317_0 ul317_0
    clear hcc317 hce317
    have HR317_0 := aM hi317_0
    have HC317_0 := aM hl317_0
    clear hi317_0 hl317_0
    replace p317 := eq_true p317
    replace q317 := eq_true q317
    have p322 : 0 ≤ (x6_1 : Int) := of_decide_eq_true za
    have q322 : x6_1 < (l0.length : Int) := of_decide_eq_true za
    obtain ⟨ad322, A322_0, c322_0, e322, hx322_0, hl322_0, hi322_0⟩ := at_L2 (Kd.V_reads' HO_0.out).2.2 x6_1 p322 q322
    obtain rfl : ad317 = ad322 := (by injection e322)
    obtain ⟨ce322, hce322, hMe322, hcc322⟩ := Kd.V_get HO_0.out [] x6_1 p322 (by first | exact q322 | exact of_decide_eq_true za | (have e_ := (Kd.V_reads' HO_0.out).1; omega))
    obtain ⟨ua322_0, uc322_0, rfl, ul322_0, ge322_0⟩ := Kd.FK_slice_open hMe322
    have hv322_0 := hcc322 0 _ rfl
    rw [Nat.add_zero, show ((Kd.slice 43 k43)).sz = 1 from rfl, Nat.mul_one] at hv322_0
    replace hv322_0 := Option.some.inj (hv322_0.symm.trans hx322_0)
    injection hv322_0 with hva_ hvn_ hvc_
    rw [hva_] at ge322_0
    rw [hvc_] at ul322_0
    have HL322_0 := aM (show Kd.V k43 43 _ w.heap.size _ _ (rd_L2 l0 x6_1) from Kd.V_mk ul322_0 ge322_0)
    clear hva_ hvn_ hvc_ ge322_0 ul322_0
    clear hcc322 hce322
    have HR322_0 := aM hi322_0
    have HC322_0 := aM hl322_0
    clear hi322_0 hl322_0
    replace p322 := eq_true p322
    replace q322 := eq_true q322
    have ea_ := Option.some.inj (hx317_0.symm.trans hx322_0)
    injection ea_ with ea_ en_ ec_
    subst ea_
    subst ec_
    clear en_
    refine start_ (n := 13) (S := fun w' => w'.cell? (ad317.add (x6_1).toNat) = some (.slice A317_0 (rd_L2 l0 x6_1).length c317_0) ∧ w'.cell? (ad317.add (x6_1).toNat) = some (.slice A317_0 (rd_L2 l0 x6_1).length c317_0)) (ds := []) zA5 (by kernel_rfl) rfl rfl ⟨hx317_0, hx322_0⟩ (fun hHeld => ?_); refine with_tabW spec_l09Own.tab5 spec_l09Own.bits5 (fun HT_ HW_ => ?_)
    generalize wr.drew = w17 at HO_0 HO_5 HB HL317_0 HL322_0 HR317_0 HR322_0 hx317_0 hx322_0 hHeld ⊢
    refine zp 0 (some 14) ?_ zA98 rfl rfl (Or.inl ⟨by rfl, ?_⟩) ?_ ?_ ?_
    rotate_left
    ·intro w'
     go_simp
     with_reducible rfl
    rotate_left
    ·simp only [Act.put, xA, xB, xC, i64_w, i32_w]
     rfl
    refine zp 1 (some 15) ?_ zA99 rfl rfl (Or.inl ⟨by rfl, ?_⟩) ?_ ?_ ?_
    rotate_left
    ·intro w'
     go_simp
     with_reducible rfl
    rotate_left
    ·simp only [Act.put, xA, xB, xC, i64_w, i32_w]
     rfl
    refine zp 2 (some 16) ?_ zA100 rfl rfl (Or.inl ⟨by rfl, ?_⟩) ?_ ?_ ?_
    rotate_left
    ·intro w'
     go_simp
     with_reducible rfl
    rotate_left
    ·simp only [Act.put, xA, xB, xC, i64_w, i32_w]
     rfl
    refine zp 4 (some 18) ?_ zA101 rfl rfl (Or.inl ⟨by rfl, ?_⟩) ?_ ?_ ?_
    rotate_left
    ·intro w'
     go_simp
     with_reducible rfl
    rotate_left
    ·simp only [Act.put, xA, xB, xC, i64_w, i32_w]
     rfl
    refine zp 7 (some 21) ?_ zA102 rfl rfl (Or.inl ⟨by rfl, ?_⟩) ?_ ?_ ?_
    rotate_left
    ·intro w'
     go_simp
     with_reducible rfl
    rotate_left
    ·simp only [Act.put, xA, xB, xC, i64_w, i32_w]
     rfl
    refine zp 8 (some 22) ?_ zA103 rfl rfl (Or.inl ⟨by rfl, ?_⟩) ?_ ?_ ?_
    rotate_left
    ·intro w'
     go_simp
     with_reducible rfl
    rotate_left
    ·simp only [Act.put, xA, xB, xC, i64_w, i32_w]
     rfl
    refine zp 9 (some 23) ?_ zA104 rfl rfl (Or.inl ⟨by rfl, ?_⟩) ?_ ?_ ?_
    rotate_left
    ·intro w'
     go_simp
     with_reducible rfl
    rotate_left
    ·simp only [Act.put, xA, xB, xC, i64_w, i32_w]
     rfl
    refine zu 3 (some 17) ?_ zA105 rfl rfl (Or.inl ⟨by rfl, ?_⟩) hHeld ?_ ?_ ?_
    rotate_left
    ·rintro w' ⟨s0, s1⟩
     go_simp
     with_reducible rfl
    rotate_left
    ·simp only [Act.put, xA, xB, xC, i64_w, i32_w]
     rfl
    refine zu 10 (some 24) ?_ zA106 rfl rfl (Or.inl ⟨by rfl, ?_⟩) hHeld ?_ ?_ ?_
    rotate_left
    ·rintro w' ⟨s0, s1⟩
     go_simp
     with_reducible rfl
    rotate_left
    ·simp only [Act.put, xA, xB, xC, i64_w, i32_w]
     rfl
    refine one_ (i := 5) (N := some 19) zA107 rfl rfl (one_of HT_.out (by kernel_rfl)) (by decide) (fun K hK => ?_)
    refine goes_ Try.func33 (by kernel_rfl) rfl #[.bool a1] (by rfl) rfl rfl zm ?_
    with_reducible refine (spec_l09Turns.calls a1 t318 _ A7.out).mono ?_
    rintro e w' ⟨rfl, ⟨nd, rfl⟩⟩
    refine ⟨_, rfl, ?_⟩
    refine hK.out _ _ ⟨hHeld.1, hHeld.2⟩ (fun hHeld => ?_)
    clear hK K
    refine norm_ (a' := ?_) ?_ ?_
    rotate_left
    ·show Act.put _ (some 19) _ = _
     simp only [Act.put, xA, xB, xC, i64_w, i32_w]
     rfl
    refine one_ (i := 6) (N := some 20) zA18 rfl rfl (one_of HT_.out (by kernel_rfl)) (by decide) (fun K hK => ?_)
    refine goes_ Try.func32 (by kernel_rfl) rfl #[.slice A317_0 (rd_L2 l0 x6_1).length c317_0, .int .i64 t318] (by rfl) rfl rfl zm ?_
    with_reducible refine (spec_l09Least.calls k1 _ _ (rd_L2 l0 x6_1) t318 t319 _ ?side1 ?side2 A8.out).mono ?_
    (case side1 => repeat (first | exact (mQ_ HR317_0.out) | (with_reducible refine Kd.C_alloc ?_ _) | (with_reducible refine Kd.C_drewN ?_ _) | (with_reducible refine Kd.C_drew ?_)))
    (case side2 => exact HC317_0.out)
    rintro e w18 ⟨v320, rfl, ho0, hb⟩
    have HS0_ := zk hb (hHeld.1)
    have HS1_ := zk hb (hHeld.2)
    refine ⟨_, rfl, ?_⟩
    have n0_ := aM (Kd.V_elder' (mV_ HO_0.out) (Kd.R_base ho0) hb)
    have n1_ := aM (Kd.N_elder' (mN_ HO_5.out) (Kd.R_base ho0) hb)
    have n2_ := aM (Kd.V_elder' (mV_ HL317_0.out) (Kd.R_base ho0) hb)
    have n3_ := aM (Kd.V_elder' (mV_ HL322_0.out) (Kd.R_base ho0) hb)
    have n4_ := aM (Kd.R_lower (Kd.R_newM (M := fun k_ => (w.heap.size ≤ k_)) ho0 (below_size zb) (fun k_ h_ => h_)) (below_size zb))
    have n5_ := aM (Kd.C_below (mQ_ HR317_0.out) hb)
    have n6_ := aM (Kd.C_below (mQ_ HR322_0.out) hb)
    have n7_ := aM (below_step zb hb)
    clear HO_0
    clear HO_5
    clear HL317_0
    clear HL322_0
    clear HR317_0
    clear HR322_0
    clear HB
    have HO_0 := n0_
    have HO_5 := n1_
    have HL317_0 := n2_
    have HL322_0 := n3_
    have HO321 := n4_
    have HR317_0 := n5_
    have HR322_0 := n6_
    have HB := n7_
    clear n0_ n1_ n2_ n3_ n4_ n5_ n6_ n7_
    (try clear hb)
    (try clear hb2)
    (try clear hk)
    (try clear hi)
    (try clear ho0)
    obtain ⟨Ao19, co19, eo19⟩ := Kd.R_slice HO321.out
    (first | subst eo19 | (injection eo19 with f1_ f2_ f3_; have f4_ := f1_.symm; have f5_ := f3_.symm; clear f1_ f2_ f3_; subst f4_; subst f5_))
    refine hK.out _ _ ⟨HS0_, HS1_⟩ (fun hHeld => ?_)
    clear hK K
    refine norm_ (a' := ?_) ?_ ?_
    rotate_left
    ·show Act.put _ (some 20) _ = _
     simp only [Act.put, xA, xB, xC, i64_w, i32_w]
     rfl
    refine one_ (i := 11) (N := some 25) zA19 rfl rfl (one_of HT_.out (by kernel_rfl)) (by decide) (fun K hK => ?_)
    refine goes_ Try.func31 (by kernel_rfl) rfl #[.slice Ao19 t319.length co19, .slice A317_0 (rd_L2 l0 x6_1).length c317_0] (by rfl) rfl rfl zm ?_
    with_reducible refine (spec_l09Compare.calls k1 _ _ t319 _ _ (rd_L2 l0 x6_1) t323 _ ?side1 ?side2 ?side3 ?side4 A9.out).mono ?_
    (case side1 => exact zc HO321.out)
    (case side2 => exact (Kd.R_reads' HO321.out).2.1)
    (case side3 => repeat (first | exact (mQ_ HR322_0.out) | (with_reducible refine Kd.C_alloc ?_ _) | (with_reducible refine Kd.C_drewN ?_ _) | (with_reducible refine Kd.C_drew ?_)))
    (case side4 => exact HC322_0.out)
    rintro e w20 ⟨rfl, hb⟩
    have HS0_ := zk hb (hHeld.1)
    have HS1_ := zk hb (hHeld.2)
    refine ⟨_, rfl, ?_⟩
    have n0_ := aM (Kd.V_below (mV_ HO_0.out) hb)
    have n1_ := aM (Kd.N_below (mN_ HO_5.out) hb)
    have n2_ := aM (Kd.V_below (mV_ HL317_0.out) hb)
    have n3_ := aM (Kd.V_below (mV_ HL322_0.out) hb)
    have n4_ := aM (Kd.R_below (mR_ HO321.out) hb)
    have n5_ := aM (Kd.C_below (mQ_ HR317_0.out) hb)
    have n6_ := aM (Kd.C_below (mQ_ HR322_0.out) hb)
    have n7_ := aM (below_step zb hb)
    clear HO_0
    clear HO_5
    clear HL317_0
    clear HL322_0
    clear HO321
    clear HR317_0
    clear HR322_0
    clear HB
    have HO_0 := n0_
    have HO_5 := n1_
    have HL317_0 := n2_
    have HL322_0 := n3_
    have HO321 := n4_
    have HR317_0 := n5_
    have HR322_0 := n6_
    have HB := n7_
    clear n0_ n1_ n2_ n3_ n4_ n5_ n6_ n7_
    (try clear hb)
    (try clear hb2)
    (try clear hk)
    (try clear hi)
    refine hK.out _ _ ⟨HS0_, HS1_⟩ (fun hHeld => ?_)
    clear hK K
    refine norm_ (a' := ?_) ?_ ?_
    rotate_left
    ·show Act.put _ (some 25) _ = _
     simp only [Act.put, xA, xB, xC, i64_w, i32_w]
     rfl
    refine zp 12 (some 26) ?_ zA20 rfl rfl (Or.inl ⟨by rfl, ?_⟩) ?_ ?_ ?_
    rotate_left
    ·intro w'
     go_simp
     with_reducible rfl
    rotate_left
    ·simp only [Act.put, xA, xB, xC, i64_w, i32_w]
     rfl
    refine done_ (done_of HT_.out (by kernel_rfl)) ?_; (try clear HS0_); (try clear HS1_); (try clear hHeld)
    try go_wp2
    go_roundg k1
    case measure => have := HK1.out; omega
    case rel => exact ⟨(x5_1), (wrap64 (x6_1 + 1)), zr, H', ⟨by have := HK1.out; omega⟩, ⟨zd31 HO_0.out⟩, ⟨zd4 HO_5.out⟩, ⟨zb⟩⟩
   rw [if_pos c10] at H
   have c10b0 : (t323 == 0) = true := beq_iff_eq.mpr c10
   have c10b1 : (t323 != 0) = false := bne_eq_false_iff_eq.mpr c10
   clear c10
   by_cases c11 : x5_1.length < 5864062014805
   rotate_left
   ·rw [if_neg c11] at H
    exact absurd H (by simp)
   rw [if_pos c11] at H
   have LMc11 := aM c11
   clear c11
   obtain ⟨y325, hy325⟩ : ∃ y_ : List (List (S43)), y_ = (x5_1 ++ [rd_L2 l0 x6_1]) := ⟨_, rfl⟩
   replace H : (spec_l09Own.l0 k1 l0 a1 y325 (wrap64 (x6_1 + 1))) = some r := zy H hy325
   have Ny325 := aM hy325
   clear hy325
   have H' := aM H
   clear H
   try go_wp2
   have n0_ := aM (Kd.V_drew HO_0.out)
   have n1_ := aM (Kd.N_drew HO_5.out)
   have n2_ := aM (below_drew1 HB.out)
   clear HO_0
   clear HO_5
   clear HB
   have HO_0 := n0_
   have HO_5 := n1_
   have HB := n2_
   clear n0_ n1_ n2_
   have p317 : 0 ≤ (x6_1 : Int) := of_decide_eq_true za
   have q317 : x6_1 < (l0.length : Int) := of_decide_eq_true za
   obtain ⟨ad317, A317_0, c317_0, e317, hx317_0, hl317_0, hi317_0⟩ := at_L2 (Kd.V_reads' HO_0.out).2.2 x6_1 p317 q317
   cases e317
   obtain ⟨ce317, hce317, hMe317, hcc317⟩ := Kd.V_get HO_0.out [] x6_1 p317 (by first | exact q317 | exact of_decide_eq_true za | (have e_ := (Kd.V_reads' HO_0.out).1; omega))
   obtain ⟨ua317_0, uc317_0, rfl, ul317_0, ge317_0⟩ := Kd.FK_slice_open hMe317
   have hv317_0 := hcc317 0 _ rfl
   rw [Nat.add_zero, show ((Kd.slice 43 k43)).sz = 1 from rfl, Nat.mul_one] at hv317_0
   replace hv317_0 := Option.some.inj (hv317_0.symm.trans hx317_0)
   injection hv317_0 with hva_ hvn_ hvc_
   rw [hva_] at ge317_0
   rw [hvc_] at ul317_0
   have HL317_0 := aM (show Kd.V k43 43 _ w.heap.size _ _ (rd_L2 l0 x6_1) from Kd.V_mk ul317_0 ge317_0)
   clear hva_ hvn_ hvc_ ge317_0 ul317_0
   clear hcc317 hce317
   have HR317_0 := aM hi317_0
   have HC317_0 := aM hl317_0
   clear hi317_0 hl317_0
   replace p317 := eq_true p317
   replace q317 := eq_true q317
   have p322 : 0 ≤ (x6_1 : Int) := of_decide_eq_true za
   have q322 : x6_1 < (l0.length : Int) := of_decide_eq_true za
   obtain ⟨ad322, A322_0, c322_0, e322, hx322_0, hl322_0, hi322_0⟩ := at_L2 (Kd.V_reads' HO_0.out).2.2 x6_1 p322 q322
   obtain rfl : ad317 = ad322 := (by injection e322)
   obtain ⟨ce322, hce322, hMe322, hcc322⟩ := Kd.V_get HO_0.out [] x6_1 p322 (by first | exact q322 | exact of_decide_eq_true za | (have e_ := (Kd.V_reads' HO_0.out).1; omega))
   obtain ⟨ua322_0, uc322_0, rfl, ul322_0, ge322_0⟩ := Kd.FK_slice_open hMe322
   have hv322_0 := hcc322 0 _ rfl
   rw [Nat.add_zero, show ((Kd.slice 43 k43)).sz = 1 from rfl, Nat.mul_one] at hv322_0
   replace hv322_0 := Option.some.inj (hv322_0.symm.trans hx322_0)
   injection hv322_0 with hva_ hvn_ hvc_
   rw [hva_] at ge322_0
   rw [hvc_] at ul322_0
   have HL322_0 := aM (show Kd.V k43 43 _ w.heap.size _ _ (rd_L2 l0 x6_1) from Kd.V_mk ul322_0 ge322_0)
   clear hva_ hvn_ hvc_ ge322_0 ul322_0
   clear hcc322 hce322
   have HR322_0 := aM hi322_0
   have HC322_0 := aM hl322_0
   clear hi322_0 hl322_0
   replace p322 := eq_true p322
   replace q322 := eq_true q322
   have ea_ := Option.some.inj (hx317_0.symm.trans hx322_0)
   injection ea_ with ea_ en_ ec_
   subst ea_
   subst ec_
   clear en_
   refine start_ (n := 13) (S := fun w' => w'.cell? (ad317.add (x6_1).toNat) = some (.slice A317_0 (rd_L2 l0 x6_1).length c317_0) ∧ w'.cell? (ad317.add (x6_1).toNat) = some (.slice A317_0 (rd_L2 l0 x6_1).length c317_0)) (ds := []) zA5 (by kernel_rfl) rfl rfl ⟨hx317_0, hx322_0⟩ (fun hHeld => ?_); refine with_tabW spec_l09Own.tab5 spec_l09Own.bits5 (fun HT_ HW_ => ?_)
   generalize wr.drew = w12 at HO_0 HO_5 HB HL317_0 HL322_0 HR317_0 HR322_0 hx317_0 hx322_0 hHeld ⊢
   refine zp 0 (some 14) ?_ zA98 rfl rfl (Or.inl ⟨by rfl, ?_⟩) ?_ ?_ ?_
   rotate_left
   ·intro w'
    go_simp
    with_reducible rfl
   rotate_left
   ·simp only [Act.put, xA, xB, xC, i64_w, i32_w]
    rfl
   refine zp 1 (some 15) ?_ zA99 rfl rfl (Or.inl ⟨by rfl, ?_⟩) ?_ ?_ ?_
   rotate_left
   ·intro w'
    go_simp
    with_reducible rfl
   rotate_left
   ·simp only [Act.put, xA, xB, xC, i64_w, i32_w]
    rfl
   refine zp 2 (some 16) ?_ zA100 rfl rfl (Or.inl ⟨by rfl, ?_⟩) ?_ ?_ ?_
   rotate_left
   ·intro w'
    go_simp
    with_reducible rfl
   rotate_left
   ·simp only [Act.put, xA, xB, xC, i64_w, i32_w]
    rfl
   refine zp 4 (some 18) ?_ zA101 rfl rfl (Or.inl ⟨by rfl, ?_⟩) ?_ ?_ ?_
   rotate_left
   ·intro w'
    go_simp
    with_reducible rfl
   rotate_left
   ·simp only [Act.put, xA, xB, xC, i64_w, i32_w]
    rfl
   refine zp 7 (some 21) ?_ zA102 rfl rfl (Or.inl ⟨by rfl, ?_⟩) ?_ ?_ ?_
   rotate_left
   ·intro w'
    go_simp
    with_reducible rfl
   rotate_left
   ·simp only [Act.put, xA, xB, xC, i64_w, i32_w]
    rfl
   refine zp 8 (some 22) ?_ zA103 rfl rfl (Or.inl ⟨by rfl, ?_⟩) ?_ ?_ ?_
   rotate_left
   ·intro w'
    go_simp
    with_reducible rfl
   rotate_left
   ·simp only [Act.put, xA, xB, xC, i64_w, i32_w]
    rfl
   refine zp 9 (some 23) ?_ zA104 rfl rfl (Or.inl ⟨by rfl, ?_⟩) ?_ ?_ ?_
   rotate_left
   ·intro w'
    go_simp
    with_reducible rfl
   rotate_left
   ·simp only [Act.put, xA, xB, xC, i64_w, i32_w]
    rfl
   refine zu 3 (some 17) ?_ zA105 rfl rfl (Or.inl ⟨by rfl, ?_⟩) hHeld ?_ ?_ ?_
   rotate_left
   ·rintro w' ⟨s0, s1⟩
    go_simp
    with_reducible rfl
   rotate_left
   ·simp only [Act.put, xA, xB, xC, i64_w, i32_w]
    rfl
   refine zu 10 (some 24) ?_ zA106 rfl rfl (Or.inl ⟨by rfl, ?_⟩) hHeld ?_ ?_ ?_
   rotate_left
   ·rintro w' ⟨s0, s1⟩
    go_simp
    with_reducible rfl
   rotate_left
   ·simp only [Act.put, xA, xB, xC, i64_w, i32_w]
    rfl
   refine one_ (i := 5) (N := some 19) zA107 rfl rfl (one_of HT_.out (by kernel_rfl)) (by decide) (fun K hK => ?_)
   refine goes_ Try.func33 (by kernel_rfl) rfl #[.bool a1] (by rfl) rfl rfl zm ?_
   with_reducible refine (spec_l09Turns.calls a1 t318 _ A7.out).mono ?_
   rintro e w' ⟨rfl, ⟨nd, rfl⟩⟩
   refine ⟨_, rfl, ?_⟩
   refine hK.out _ _ ⟨hHeld.1, hHeld.2⟩ (fun hHeld => ?_)
   clear hK K
   refine norm_ (a' := ?_) ?_ ?_
   rotate_left
   ·show Act.put _ (some 19) _ = _
    simp only [Act.put, xA, xB, xC, i64_w, i32_w]
    rfl
   refine one_ (i := 6) (N := some 20) zA18 rfl rfl (one_of HT_.out (by kernel_rfl)) (by decide) (fun K hK => ?_)
   refine goes_ Try.func32 (by kernel_rfl) rfl #[.slice A317_0 (rd_L2 l0 x6_1).length c317_0, .int .i64 t318] (by rfl) rfl rfl zm ?_
   with_reducible refine (spec_l09Least.calls k1 _ _ (rd_L2 l0 x6_1) t318 t319 _ ?side1 ?side2 A8.out).mono ?_
   (case side1 => repeat (first | exact (mQ_ HR317_0.out) | (with_reducible refine Kd.C_alloc ?_ _) | (with_reducible refine Kd.C_drewN ?_ _) | (with_reducible refine Kd.C_drew ?_)))
   (case side2 => exact HC317_0.out)
   rintro e w13 ⟨v320, rfl, ho0, hb⟩
   have HS0_ := zk hb (hHeld.1)
   have HS1_ := zk hb (hHeld.2)
   refine ⟨_, rfl, ?_⟩
   have n0_ := aM (Kd.V_elder' (mV_ HO_0.out) (Kd.R_base ho0) hb)
   have n1_ := aM (Kd.N_elder' (mN_ HO_5.out) (Kd.R_base ho0) hb)
   have n2_ := aM (Kd.V_elder' (mV_ HL317_0.out) (Kd.R_base ho0) hb)
   have n3_ := aM (Kd.V_elder' (mV_ HL322_0.out) (Kd.R_base ho0) hb)
   have n4_ := aM (Kd.R_lower (Kd.R_newM (M := fun k_ => (w.heap.size ≤ k_)) ho0 (below_size zb) (fun k_ h_ => h_)) (below_size zb))
   have n5_ := aM (Kd.C_below (mQ_ HR317_0.out) hb)
   have n6_ := aM (Kd.C_below (mQ_ HR322_0.out) hb)
   have n7_ := aM (below_step zb hb)
   clear HO_0
   clear HO_5
   clear HL317_0
   clear HL322_0
   clear HR317_0
   clear HR322_0
   clear HB
   have HO_0 := n0_
   have HO_5 := n1_
   have HL317_0 := n2_
   have HL322_0 := n3_
   have HO321 := n4_
   have HR317_0 := n5_
   have HR322_0 := n6_
   have HB := n7_
   clear n0_ n1_ n2_ n3_ n4_ n5_ n6_ n7_
   (try clear hb)
   (try clear hb2)
   (try clear hk)
   (try clear hi)
   (try clear ho0)
   obtain ⟨Ao14, co14, eo14⟩ := Kd.R_slice HO321.out
   (first | subst eo14 | (injection eo14 with f1_ f2_ f3_; have f4_ := f1_.symm; have f5_ := f3_.symm; clear f1_ f2_ f3_; subst f4_; subst f5_))
   refine hK.out _ _ ⟨HS0_, HS1_⟩ (fun hHeld => ?_)
   clear hK K
   refine norm_ (a' := ?_) ?_ ?_
   rotate_left
   ·show Act.put _ (some 20) _ = _
    simp only [Act.put, xA, xB, xC, i64_w, i32_w]
    rfl
   refine one_ (i := 11) (N := some 25) zA19 rfl rfl (one_of HT_.out (by kernel_rfl)) (by decide) (fun K hK => ?_)
   refine goes_ Try.func31 (by kernel_rfl) rfl #[.slice Ao14 t319.length co14, .slice A317_0 (rd_L2 l0 x6_1).length c317_0] (by rfl) rfl rfl zm ?_
   with_reducible refine (spec_l09Compare.calls k1 _ _ t319 _ _ (rd_L2 l0 x6_1) t323 _ ?side1 ?side2 ?side3 ?side4 A9.out).mono ?_
   (case side1 => exact zc HO321.out)
   (case side2 => exact (Kd.R_reads' HO321.out).2.1)
   (case side3 => repeat (first | exact (mQ_ HR322_0.out) | (with_reducible refine Kd.C_alloc ?_ _) | (with_reducible refine Kd.C_drewN ?_ _) | (with_reducible refine Kd.C_drew ?_)))
   (case side4 => exact HC322_0.out)
   rintro e w15 ⟨rfl, hb⟩
   have HS0_ := zk hb (hHeld.1)
   have HS1_ := zk hb (hHeld.2)
   refine ⟨_, rfl, ?_⟩
   have n0_ := aM (Kd.V_below (mV_ HO_0.out) hb)
   have n1_ := aM (Kd.N_below (mN_ HO_5.out) hb)
   have n2_ := aM (Kd.V_below (mV_ HL317_0.out) hb)
   have n3_ := aM (Kd.V_below (mV_ HL322_0.out) hb)
   have n4_ := aM (Kd.R_below (mR_ HO321.out) hb)
   have n5_ := aM (Kd.C_below (mQ_ HR317_0.out) hb)
   have n6_ := aM (Kd.C_below (mQ_ HR322_0.out) hb)
   have n7_ := aM (below_step zb hb)
   clear HO_0
   clear HO_5
   clear HL317_0
   clear HL322_0
   clear HO321
   clear HR317_0
   clear HR322_0
   clear HB
   have HO_0 := n0_
   have HO_5 := n1_
   have HL317_0 := n2_
   have HL322_0 := n3_
   have HO321 := n4_
   have HR317_0 := n5_
   have HR322_0 := n6_
   have HB := n7_
   clear n0_ n1_ n2_ n3_ n4_ n5_ n6_ n7_
   (try clear hb)
   (try clear hb2)
   (try clear hk)
   (try clear hi)
   refine hK.out _ _ ⟨HS0_, HS1_⟩ (fun hHeld => ?_)
   clear hK K
   refine norm_ (a' := ?_) ?_ ?_
   rotate_left
   ·show Act.put _ (some 25) _ = _
    simp only [Act.put, xA, xB, xC, i64_w, i32_w]
    rfl
   refine zp 12 (some 26) ?_ zA20 rfl rfl (Or.inl ⟨by rfl, ?_⟩) ?_ ?_ ?_
   rotate_left
   ·intro w'
    go_simp
    with_reducible rfl
   rotate_left
   ·simp only [Act.put, xA, xB, xC, i64_w, i32_w]
    rfl
   refine done_ (done_of HT_.out (by kernel_rfl)) ?_; (try clear HS0_); (try clear HS1_); (try clear hHeld)
   have p324 : 0 ≤ (x6_1 : Int) := of_decide_eq_true za
   have q324 : x6_1 < (l0.length : Int) := of_decide_eq_true za
   obtain ⟨ad324, A324_0, c324_0, e324, hx324_0, hl324_0, hi324_0⟩ := at_L2 (Kd.V_reads' HO_0.out).2.2 x6_1 p324 q324
   obtain rfl : ad317 = ad324 := (by injection e324)
   obtain ⟨ce324, hce324, hMe324, hcc324⟩ := Kd.V_get HO_0.out [] x6_1 p324 (by first | exact q324 | exact of_decide_eq_true za | (have e_ := (Kd.V_reads' HO_0.out).1; omega))
   obtain ⟨ua324_0, uc324_0, rfl, ul324_0, ge324_0⟩ := Kd.FK_slice_open hMe324
   have hv324_0 := hcc324 0 _ rfl
   rw [Nat.add_zero, show ((Kd.slice 43 k43)).sz = 1 from rfl, Nat.mul_one] at hv324_0
   replace hv324_0 := Option.some.inj (hv324_0.symm.trans hx324_0)
   injection hv324_0 with hva_ hvn_ hvc_
   rw [hva_] at ge324_0
   rw [hvc_] at ul324_0
   have HL324_0 := aM (show Kd.V k43 43 _ w.heap.size _ _ (rd_L2 l0 x6_1) from Kd.V_mk ul324_0 ge324_0)
   clear hva_ hvn_ hvc_ ge324_0 ul324_0
   clear hcc324 hce324
   have HR324_0 := aM hi324_0
   have HC324_0 := aM hl324_0
   clear hi324_0 hl324_0
   replace p324 := eq_true p324
   replace q324 := eq_true q324
   try go_wp2_with (first | ((with_reducible refine gate_builtin (b := .append) (xs := #[.tmp 27, .tmp 32]) rfl ?_); at_builtin; refine Kd.N_append (Kd.slice 43 k43) (w0 := w) w.heap.size rfl (.tmp 27) (.tmp 32) 28 40 (.slice none 0 0) 24 rfl Try.underlying28 info40 rfl (by decide) (by omega) u5 x5_1 (rd_L2 l0 x6_1) [.slice A324_0 (rd_L2 l0 x6_1).length c324_0] (fun k_ => (P0_ k_ ∨ w.heap.size ≤ k_) ∧ some k_ ≠ (.slice Ao14 t319.length co14 : Value).ownBlock) (fun k_ => ((fun k_ => (P0_ k_ ∨ w.heap.size ≤ k_) ∧ some k_ ≠ (.slice Ao14 t319.length co14 : Value).ownBlock)) k_ ∧ some k_ ≠ (u5 : Value).ownBlock) rfl rfl ?aP (fun _ hk => hk) ?aF ?aO ?aB ?aS ?aL ?_; (case aP => first | exact (Kd.FK_slice_mk (Kd.V_reads' (Kd.V_mono (ok' := (fun k_ => ((fun k_ => (P0_ k_ ∨ w.heap.size ≤ k_) ∧ some k_ ≠ (.slice Ao14 t319.length co14 : Value).ownBlock)) k_ ∧ some k_ ≠ (u5 : Value).ownBlock)) (Kd.V_drewN HL324_0.out _) (fun k_ hk => ⟨⟨hk.1.1, hk.2⟩, hk.1.2⟩))).2.1 (Kd.V_F (Kd.V_mono (ok' := (fun k_ => ((fun k_ => (P0_ k_ ∨ w.heap.size ≤ k_) ∧ some k_ ≠ (.slice Ao14 t319.length co14 : Value).ownBlock)) k_ ∧ some k_ ≠ (u5 : Value).ownBlock)) (Kd.V_drewN HL324_0.out _) (fun k_ hk => ⟨⟨hk.1.1, hk.2⟩, hk.1.2⟩)))) | exact (Kd.FK_slice_mk (Kd.V_reads' (Kd.V_mono (ok' := (fun k_ => ((fun k_ => (P0_ k_ ∨ w.heap.size ≤ k_) ∧ some k_ ≠ (.slice Ao14 t319.length co14 : Value).ownBlock)) k_ ∧ some k_ ≠ (u5 : Value).ownBlock)) (HL324_0.out) (fun k_ hk => ⟨⟨hk.1.1, hk.2⟩, hk.1.2⟩))).2.1 (Kd.V_F (Kd.V_mono (ok' := (fun k_ => ((fun k_ => (P0_ k_ ∨ w.heap.size ≤ k_) ∧ some k_ ≠ (.slice Ao14 t319.length co14 : Value).ownBlock)) k_ ∧ some k_ ≠ (u5 : Value).ownBlock)) (HL324_0.out) (fun k_ hk => ⟨⟨hk.1.1, hk.2⟩, hk.1.2⟩)))) | exact (Kd.FK_slice_mk (Kd.V_reads' (Kd.V_mono (ok' := (fun k_ => ((fun k_ => (P0_ k_ ∨ w.heap.size ≤ k_) ∧ some k_ ≠ (.slice Ao14 t319.length co14 : Value).ownBlock)) k_ ∧ some k_ ≠ (u5 : Value).ownBlock)) (Kd.V_alloc (Kd.V_drewN HL324_0.out _) _) (fun k_ hk => ⟨⟨hk.1.1, hk.2⟩, hk.1.2⟩))).2.1 (Kd.V_F (Kd.V_mono (ok' := (fun k_ => ((fun k_ => (P0_ k_ ∨ w.heap.size ≤ k_) ∧ some k_ ≠ (.slice Ao14 t319.length co14 : Value).ownBlock)) k_ ∧ some k_ ≠ (u5 : Value).ownBlock)) (Kd.V_alloc (Kd.V_drewN HL324_0.out _) _) (fun k_ hk => ⟨⟨hk.1.1, hk.2⟩, hk.1.2⟩)))) | (have h2_ := Kd.V_mono (ok' := (fun k_ => ((fun k_ => (P0_ k_ ∨ w.heap.size ≤ k_) ∧ some k_ ≠ (.slice Ao14 t319.length co14 : Value).ownBlock)) k_ ∧ some k_ ≠ (u5 : Value).ownBlock)) (Kd.V_drewN HL324_0.out nd) (fun k_ hk => ⟨⟨hk.1.1, hk.2⟩, hk.1.2⟩); exact Kd.FK_slice_mk (Kd.V_reads' h2_).2.1 (Kd.V_F h2_))); (case aB => exact zb); (case aF => exact (fun k_ hk => ⟨(.inr (Nat.le_trans (below_size zb) hk)), Kd.fresh' (Kd.R_lt (mR_ HO321.out)) k_ hk⟩)); (case aO => exact (mN_ HO_5.out)); (case aS => exact (below_size zb)); (case aL => have := LMc11.out; omega); intro v326 w16 ho hb hg hat; rw [← Ny325.out] at ho; have n0_ := aM (Kd.V_afterv (ok := (fun k_ => (P0_ k_ ∨ w.heap.size ≤ k_) ∧ some k_ ≠ (.slice Ao14 t319.length co14 : Value).ownBlock)) (zd1 HO_0.out) hg hat); have n1_ := aM (Kd.V_afterv (ok := (fun k_ => (P0_ k_ ∨ w.heap.size ≤ k_) ∧ some k_ ≠ (.slice Ao14 t319.length co14 : Value).ownBlock)) (zd1 HL317_0.out) hg hat); have n2_ := aM (Kd.V_afterv (ok := (fun k_ => (P0_ k_ ∨ w.heap.size ≤ k_) ∧ some k_ ≠ (.slice Ao14 t319.length co14 : Value).ownBlock)) (zd1 HL322_0.out) hg hat); have n3_ := aM (Kd.R_over' (mR_ HO321.out) (Kd.N_typed (mN_ HO_5.out)) (by decide) hg); have n4_ := aM (Kd.V_afterv (ok := (fun k_ => (P0_ k_ ∨ w.heap.size ≤ k_) ∧ some k_ ≠ (.slice Ao14 t319.length co14 : Value).ownBlock)) (zd1 HL324_0.out) hg hat); have n5_ := aM (hb); have n6_ := aM (ho); clear HO_0 HL317_0 HL322_0 HO321 HL324_0 HB HO_5; have HO_0 := n0_; have HL317_0 := n1_; have HL322_0 := n2_; have HO321 := n3_; have HL324_0 := n4_; have HB := n5_; have HO327 := n6_; clear n0_ n1_ n2_ n3_ n4_ n5_ n6_; clear ho hb hg hat))
   go_roundg k1
   case measure => have := HK1.out; omega
   case rel => exact ⟨(y325), (wrap64 (x6_1 + 1)), zr, H', ⟨by have := HK1.out; omega⟩, ⟨zd32 HO_0.out⟩, ⟨zd4 HO327.out⟩, ⟨zb⟩⟩
def impl_within.f (a0 : Int) (a1 : Int) (a2 : Int) : Option (Bool) := if a0 ≥ a1 then (some (decide (a0 ≤ a2))) else (some false)
theorem impl_within.calls (a0 : Int) (a1 : Int) (a2 : Int) (r : Bool) (w : World) (h : impl_within.f a0 a1 a2 = some r) :
  Calls Try.prog 18 #[.int .i64 a0, .int .i64 a1, .int .i64 a2] w fun e w' => e = .returned (.bool r) ∧ Drawn0 w w' := by
 have H : (if a0 ≥ a1 then (some (decide (a0 ≤ a2))) else (some false)) = some r := h
 clear h
 by_cases c4 : a0 ≥ a1
 ·rw [if_pos c4] at H
  have c4b0 : decide (a1 ≤ a0) = true := decide_eq_true c4
  clear c4
  obtain rfl := Option.some.inj H
  go_enter Try.func18, Try.ntmps18
  go_wp2
  go_ret
  exact ⟨by first | rfl | (simp; done) | (simp [*]; done), by repeat (first | exact Drawn0.refl _ | apply Drawn0.step)⟩
 rw [if_neg c4] at H
 have c4b0 : decide (a1 ≤ a0) = false := decide_eq_false c4
 clear c4
 obtain rfl := Option.some.inj H
 go_enter Try.func18, Try.ntmps18
 go_wp2
 go_ret
 exact ⟨by first | rfl | (simp; done) | (simp [*]; done), by repeat (first | exact Drawn0.refl _ | apply Drawn0.step)⟩
def impl_cubesAround.f (a0_0 : Int) (a0_1 : Int) (a0_2 : Int) : Option ((List (S43))) := some (([(⟨a0_0, a0_1, wrap64 (a0_2 - 1)⟩ : S43), (⟨a0_0, wrap64 (a0_1 - 1), a0_2⟩ : S43), (⟨wrap64 (a0_0 - 1), a0_1, a0_2⟩ : S43), (⟨wrap64 (a0_0 + 1), a0_1, a0_2⟩ : S43), (⟨a0_0, wrap64 (a0_1 + 1), a0_2⟩ : S43), (⟨a0_0, a0_1, wrap64 (a0_2 + 1)⟩ : S43)] : List (S43)))
theorem impl_cubesAround.calls (a0_0 : Int) (a0_1 : Int) (a0_2 : Int) (r : List (S43)) (w : World) (h : impl_cubesAround.f a0_0 a0_1 a0_2 = some r) :
  Calls Try.prog 34 #[.agg #[.int .i64 a0_0, .int .i64 a0_1, .int .i64 a0_2]] w fun e w' => ∃ v0_ : Value, e = .returned (v0_) ∧ Kd.R k43 43 w' w.heap.size (fun _ => True) v0_ r ∧ Below w.heap.size w w' := by
 have hu43 := Try.underlying43
 have HB := aM (Below.refl w.heap.size w)
 have H : (some (([(⟨a0_0, a0_1, wrap64 (a0_2 - 1)⟩ : S43), (⟨a0_0, wrap64 (a0_1 - 1), a0_2⟩ : S43), (⟨wrap64 (a0_0 - 1), a0_1, a0_2⟩ : S43), (⟨wrap64 (a0_0 + 1), a0_1, a0_2⟩ : S43), (⟨a0_0, wrap64 (a0_1 + 1), a0_2⟩ : S43), (⟨a0_0, a0_1, wrap64 (a0_2 + 1)⟩ : S43)] : List (S43)))) = some r := h
 clear h
 obtain ⟨y339, hy339⟩ : ∃ y_ : List (S43), y_ = (([(⟨a0_0, a0_1, wrap64 (a0_2 - 1)⟩ : S43), (⟨a0_0, wrap64 (a0_1 - 1), a0_2⟩ : S43), (⟨wrap64 (a0_0 - 1), a0_1, a0_2⟩ : S43), (⟨wrap64 (a0_0 + 1), a0_1, a0_2⟩ : S43), (⟨a0_0, wrap64 (a0_1 + 1), a0_2⟩ : S43), (⟨a0_0, a0_1, wrap64 (a0_2 + 1)⟩ : S43)] : List (S43))) := ⟨_, rfl⟩
 replace H : (some y339) = some r := zy H hy339
 have Ny339 := aM hy339
 clear hy339
 obtain rfl := Option.some.inj H
 go_enter Try.func34, Try.ntmps34
 go_wp2_with (first | ((with_reducible refine gate_dst (N := 1) rfl ?_); refine zx 1 #[.int .i64 a0_0, .int .i64 a0_1, .int .i64 a0_2] 43 ?_; intro gb338 hg w2 hbox hb; have n0_ := aM (below_step zb hb); have n1_ := aM (hbox); have n2_ := aM ((ze : w.heap.size ≤ gb338)); have n3_ := aM ((ze : w.heap.size ≤ gb338)); clear HB; have HB := n0_; have BK338 := n1_; have GW338 := n2_; have GE338 := n3_; clear n0_ n1_ n2_ n3_ hb hbox hg; have hcz3_0 : w2.cell? ⟨gb338, 0, none⟩ = some (.int .i64 a0_0) := (blk_cell BK338.out 0).trans rfl; have hcz3_1 : w2.cell? ⟨gb338, 1, none⟩ = some (.int .i64 a0_1) := (blk_cell BK338.out 1).trans rfl; have hcz3_2 : w2.cell? ⟨gb338, 2, none⟩ = some (.int .i64 a0_2) := (blk_cell BK338.out 2).trans rfl; have hfz3_0 := blk_frozen BK338.out 0; have hfz3_1 := blk_frozen BK338.out 1; have hfz3_2 := blk_frozen BK338.out 2) | ((with_reducible refine gate_dst (N := 51) rfl ?_); refine Kd.R_lit k43 _ 43 ?hg (N := 51) ?hd (xs := ([(⟨a0_0, a0_1, wrap64 (a0_2 - 1)⟩ : S43), (⟨a0_0, wrap64 (a0_1 - 1), a0_2⟩ : S43), (⟨wrap64 (a0_0 - 1), a0_1, a0_2⟩ : S43), (⟨wrap64 (a0_0 + 1), a0_1, a0_2⟩ : S43), (⟨a0_0, wrap64 (a0_1 + 1), a0_2⟩ : S43), (⟨a0_0, a0_1, wrap64 (a0_2 + 1)⟩ : S43)] : List (S43))) (inner := [.int .i64 a0_0, .int .i64 a0_1, .int .i64 (wrap64 (a0_2 - 1)), .int .i64 a0_0, .int .i64 (wrap64 (a0_1 - 1)), .int .i64 a0_2, .int .i64 (wrap64 (a0_0 - 1)), .int .i64 a0_1, .int .i64 a0_2, .int .i64 (wrap64 (a0_0 + 1)), .int .i64 a0_1, .int .i64 a0_2, .int .i64 a0_0, .int .i64 (wrap64 (a0_1 + 1)), .int .i64 a0_2, .int .i64 a0_0, .int .i64 a0_1, .int .i64 (wrap64 (a0_2 + 1))]) (ok := fun _ => True) (okp := fun _ => True) ?hr ?hp (fun _ hk => hk) trivial (Below.refl _ _) (Nat.le_refl _) (by simp) ?_; (case hd => rfl); (case hg => rfl); (case hr => first | (go_simp; done) | (go_simp; rfl)); (case hp => exact (Reps.c3 (show Kd.M k43 _ _ _ (⟨a0_0, a0_1, wrap64 (a0_2 - 1)⟩ : S43) [.int .i64 a0_0, .int .i64 a0_1, .int .i64 (wrap64 (a0_2 - 1))] from (k43_mkM _ _ _ (⟨a0_0, a0_1, wrap64 (a0_2 - 1)⟩ : S43) )) (Reps.c3 (show Kd.M k43 _ _ _ (⟨a0_0, wrap64 (a0_1 - 1), a0_2⟩ : S43) [.int .i64 a0_0, .int .i64 (wrap64 (a0_1 - 1)), .int .i64 a0_2] from (k43_mkM _ _ _ (⟨a0_0, wrap64 (a0_1 - 1), a0_2⟩ : S43) )) (Reps.c3 (show Kd.M k43 _ _ _ (⟨wrap64 (a0_0 - 1), a0_1, a0_2⟩ : S43) [.int .i64 (wrap64 (a0_0 - 1)), .int .i64 a0_1, .int .i64 a0_2] from (k43_mkM _ _ _ (⟨wrap64 (a0_0 - 1), a0_1, a0_2⟩ : S43) )) (Reps.c3 (show Kd.M k43 _ _ _ (⟨wrap64 (a0_0 + 1), a0_1, a0_2⟩ : S43) [.int .i64 (wrap64 (a0_0 + 1)), .int .i64 a0_1, .int .i64 a0_2] from (k43_mkM _ _ _ (⟨wrap64 (a0_0 + 1), a0_1, a0_2⟩ : S43) )) (Reps.c3 (show Kd.M k43 _ _ _ (⟨a0_0, wrap64 (a0_1 + 1), a0_2⟩ : S43) [.int .i64 a0_0, .int .i64 (wrap64 (a0_1 + 1)), .int .i64 a0_2] from (k43_mkM _ _ _ (⟨a0_0, wrap64 (a0_1 + 1), a0_2⟩ : S43) )) (Reps.c3 (show Kd.M k43 _ _ _ (⟨a0_0, a0_1, wrap64 (a0_2 + 1)⟩ : S43) [.int .i64 a0_0, .int .i64 a0_1, .int .i64 (wrap64 (a0_2 + 1))] from (k43_mkM _ _ _ (⟨a0_0, a0_1, wrap64 (a0_2 + 1)⟩ : S43) )) (Reps.none _ _)))))))); intro v340 w4 ho5 hb hg_ hnew_; clear hg_ hnew_; (first | rw [← Ny339.out] at ho5 | (simp only [Int.reduceToNat] at ho5; rw [← Ny339.out] at ho5)); have n0_ := aM (Kd.R_lower (Kd.R_newB ho5 (g := gb338) (o := .cells #[.int .i64 a0_0, .int .i64 a0_1, .int .i64 a0_2] 43 (0, 0)) (mB_ BK338.out)) (below_size (zs GE338.out))); have n1_ := aM (blk_below (g := gb338) (o := .cells #[.int .i64 a0_0, .int .i64 a0_1, .int .i64 a0_2] 43 (0, 0)) (mB_ BK338.out) hb); have n2_ := aM (below_step (zs GE338.out) hb); clear BK338 HB; have HO341 := n0_; have BK338 := n1_; have HB := n2_; clear n0_ n1_ n2_; clear hb ho5))
 go_ret
 exact ⟨_, zw, zd6 HO341.out, zs GE338.out⟩
def impl_Cube_52.l0 : Nat → List (S43) → Int → Int → Int → Int → Int → Option (Int)
 | 0, _, _, _, _, _, _ => none
 | k + 1, x0, x7, x8, x343000, x343001, x343002 => if x8 < x7 then (if 0 ≤ x8 then (if x8 < (x0.length : Int) then (if (x343000 == ((rd_T43 x0 x8).f0) && (x343001 == ((rd_T43 x0 x8).f1) && (x343002 == ((rd_T43 x0 x8).f2)))) = true then (some x8) else (impl_Cube_52.l0 k x0 x7 (wrap64 (x8 + 1)) x343000 x343001 x343002)) else (none)) else (none)) else (some (-1))
def impl_Cube_52.f (k : Nat) (l0 : List (S43)) (a1_0 : Int) (a1_1 : Int) (a1_2 : Int) : Option (Int) := impl_Cube_52.l0 k l0 (l0.length : Int) 0 a1_0 a1_1 a1_2
theorem impl_Cube_52.calls (k : Nat) (A0 : Option Addr) (c0 : Nat) (l0 : List (S43)) (a1_0 : Int) (a1_1 : Int) (a1_2 : Int) (r : Int) (w : World) (hr0 : Kd.C k43 w A0 l0.length l0) (hc0 : l0.length ≤ c0) (h : impl_Cube_52.f k l0 a1_0 a1_1 a1_2 = some r) :
  Calls Try.prog 52 #[.slice A0 l0.length c0, .agg #[.int .i64 a1_0, .int .i64 a1_1, .int .i64 a1_2]] w fun e w' => e = .returned (.int .i64 r) ∧ Below w.heap.size w w' := by
 have hu43 := Try.underlying43
 have HR0 := aM hr0
 have HC0 := aM hc0
 clear hr0 hc0
 have HB := aM (Below.refl w.heap.size w)
 have H : (impl_Cube_52.l0 k l0 (l0.length : Int) 0 a1_0 a1_1 a1_2) = some r := h
 clear h
 have H' := aM H
 clear H
 go_enter Try.func52, Try.ntmps52
 go_wp2_with (first | ((with_reducible refine gate_dst (N := 3) rfl ?_); refine zx 3 #[.int .i64 a1_0, .int .i64 a1_1, .int .i64 a1_2] 43 ?_; intro gb342 hg w3 hbox hb; have n0_ := aM (below_step zb hb); have n1_ := aM (hbox); have n2_ := aM ((ze : w.heap.size ≤ gb342)); have n3_ := aM ((ze : w.heap.size ≤ gb342)); clear HB; have HB := n0_; have BK342 := n1_; have GW342 := n2_; have GE342 := n3_; clear n0_ n1_ n2_ n3_; clear hb hbox hg))
 repeat (go_quiet (first | ((with_reducible refine gate_dst (N := 3) rfl ?_); refine zx 3 #[.int .i64 a1_0, .int .i64 a1_1, .int .i64 a1_2] 43 ?_; intro gb342 hg w3 hbox hb; have n0_ := aM (below_step zb hb); have n1_ := aM (hbox); have n2_ := aM ((ze : w.heap.size ≤ gb342)); have n3_ := aM ((ze : w.heap.size ≤ gb342)); clear HB; have HB := n0_; have BK342 := n1_; have GW342 := n2_; have GE342 := n3_; clear n0_ n1_ n2_ n3_; clear hb hbox hg)); try go_wp2_with (first | ((with_reducible refine gate_dst (N := 3) rfl ?_); refine zx 3 #[.int .i64 a1_0, .int .i64 a1_1, .int .i64 a1_2] 43 ?_; intro gb342 hg w3 hbox hb; have n0_ := aM (below_step zb hb); have n1_ := aM (hbox); have n2_ := aM ((ze : w.heap.size ≤ gb342)); have n3_ := aM ((ze : w.heap.size ≤ gb342)); clear HB; have HB := n0_; have BK342 := n1_; have GW342 := n2_; have GE342 := n3_; clear n0_ n1_ n2_ n3_; clear hb hbox hg)))
 go_loopg [8] k (fun kq v8 w' => ∃ (x8_1 : Int), v8 = .int .i64 x8_1 ∧ Aside0 (impl_Cube_52.l0 kq l0 (l0.length : Int) x8_1 a1_0 a1_1 a1_2 = some r) ∧ Aside0 (kq ≤ k) ∧ Aside0 (w'.heap[gb342]? = some (.cells #[.int .i64 a1_0, .int .i64 a1_1, .int .i64 a1_2] 43 (0, 0))) ∧ Aside0 (Below w.heap.size w w'))
 case atStart => exact ⟨(0), zr, H', ⟨Nat.le_refl _⟩, ⟨mB_ BK342.out⟩, ⟨zs GE342.out⟩⟩
 case round =>
  clear H'
  try clear p2
  obtain ⟨x8_1, rfl, HA, HK1, BK342, HB⟩ := hrel
  cases gk with
  | zero => exact absurd HA.out (by simp [impl_Cube_52.l0])
  | succ k1 =>
   have H := HA.out
   clear HA
   simp only [impl_Cube_52.l0] at H
   by_cases c4 : x8_1 < (l0.length : Int)
   rotate_left
   ·rw [if_neg c4] at H
    have c4b0 : decide (x8_1 < (l0.length : Int)) = false := decide_eq_false c4
    clear c4
    obtain rfl := Option.some.inj H
    go_wp2
    repeat (go_quiet (fail); try go_wp2)
    go_ret
    exact ⟨zw, zs GE342.out⟩
   rw [if_pos c4] at H
   have c4b0 : decide (x8_1 < (l0.length : Int)) = true := decide_eq_true c4
   clear c4
   by_cases c5 : 0 ≤ x8_1
   rotate_left
   ·rw [if_neg c5] at H
    exact absurd H (by simp)
   rw [if_pos c5] at H
   have c5b0 : decide (0 ≤ x8_1) = true := decide_eq_true c5
   clear c5
   by_cases c6 : x8_1 < (l0.length : Int)
   rotate_left
   ·rw [if_neg c6] at H
    exact absurd H (by simp)
   rw [if_pos c6] at H
   have c6b0 : decide (x8_1 < (l0.length : Int)) = true := decide_eq_true c6
   clear c6
   by_cases c7 : (a1_0 == ((rd_T43 l0 x8_1).f0) && (a1_1 == ((rd_T43 l0 x8_1).f1) && (a1_2 == ((rd_T43 l0 x8_1).f2)))) = true
   ·rw [if_pos c7] at H
    have c7b0 : (a1_0 == ((rd_T43 l0 x8_1).f0) && (a1_1 == ((rd_T43 l0 x8_1).f1) && (a1_2 == ((rd_T43 l0 x8_1).f2)))) = true := c7
    (try (have c7b1 : decide (a1_0 = ((rd_T43 l0 x8_1).f0) && (a1_1 == ((rd_T43 l0 x8_1).f1) && (a1_2 == ((rd_T43 l0 x8_1).f2)))) = true := by simpa using c7))
    (try (have c7b2 : (a1_0 == ((rd_T43 l0 x8_1).f0) && (a1_1 == ((rd_T43 l0 x8_1).f1) && (a1_2 == ((rd_T43 l0 x8_1).f2)))) = true := by simpa using c7))
    clear c7
    obtain rfl := Option.some.inj H
    have hcz8_0 : wr.cell? ⟨gb342, 0, none⟩ = some (.int .i64 a1_0) := (blk_cell BK342.out 0).trans rfl
    have hcz8_1 : wr.cell? ⟨gb342, 1, none⟩ = some (.int .i64 a1_1) := (blk_cell BK342.out 1).trans rfl
    have hcz8_2 : wr.cell? ⟨gb342, 2, none⟩ = some (.int .i64 a1_2) := (blk_cell BK342.out 2).trans rfl
    have hfz8_0 := blk_frozen BK342.out 0
    have hfz8_1 := blk_frozen BK342.out 1
    have hfz8_2 := blk_frozen BK342.out 2
    have p343 : 0 ≤ (x8_1 : Int) := of_decide_eq_true za
    have q343 : x8_1 < (l0.length : Int) := of_decide_eq_true za
    obtain ⟨ad343, e343, hx343_0, hx343_1, hx343_2⟩ := at_T43 HR0.out x8_1 p343 q343
    cases e343
    replace hx343_0 := zk HB.out hx343_0
    replace hx343_1 := zk HB.out hx343_1
    replace hx343_2 := zk HB.out hx343_2
    replace p343 := eq_true p343
    replace q343 := eq_true q343
    go_wp2
    repeat (go_quiet (fail); try go_wp2)
    go_ret
    exact ⟨zw, zs GE342.out⟩
   rw [if_neg c7] at H
   have c7b0 : (a1_0 == ((rd_T43 l0 x8_1).f0) && (a1_1 == ((rd_T43 l0 x8_1).f1) && (a1_2 == ((rd_T43 l0 x8_1).f2)))) = false := by simpa using c7
   (try (have c7b1 : decide (a1_0 = ((rd_T43 l0 x8_1).f0) && (a1_1 == ((rd_T43 l0 x8_1).f1) && (a1_2 == ((rd_T43 l0 x8_1).f2)))) = false := by simpa using c7))
   (try (have c7b2 : (a1_0 == ((rd_T43 l0 x8_1).f0) && (a1_1 == ((rd_T43 l0 x8_1).f1) && (a1_2 == ((rd_T43 l0 x8_1).f2)))) = false := by simpa using c7))
   (try (have c7b3 : ¬ (a1_0 = ((rd_T43 l0 x8_1).f0) && (a1_1 == ((rd_T43 l0 x8_1).f1) && (a1_2 == ((rd_T43 l0 x8_1).f2)))) := by simpa using c7))
   clear c7
   have H' := aM H
   clear H
   have hcz9_0 : wr.cell? ⟨gb342, 0, none⟩ = some (.int .i64 a1_0) := (blk_cell BK342.out 0).trans rfl
   have hcz9_1 : wr.cell? ⟨gb342, 1, none⟩ = some (.int .i64 a1_1) := (blk_cell BK342.out 1).trans rfl
   have hcz9_2 : wr.cell? ⟨gb342, 2, none⟩ = some (.int .i64 a1_2) := (blk_cell BK342.out 2).trans rfl
   have hfz9_0 := blk_frozen BK342.out 0
   have hfz9_1 := blk_frozen BK342.out 1
   have hfz9_2 := blk_frozen BK342.out 2
   have p343 : 0 ≤ (x8_1 : Int) := of_decide_eq_true za
   have q343 : x8_1 < (l0.length : Int) := of_decide_eq_true za
   obtain ⟨ad343, e343, hx343_0, hx343_1, hx343_2⟩ := at_T43 HR0.out x8_1 p343 q343
   cases e343
   replace hx343_0 := zk HB.out hx343_0
   replace hx343_1 := zk HB.out hx343_1
   replace hx343_2 := zk HB.out hx343_2
   replace p343 := eq_true p343
   replace q343 := eq_true q343
   go_wp2
   repeat (go_quiet (fail); try go_wp2)
   go_roundg k1
   case measure => have := HK1.out; omega
   case rel => exact ⟨(wrap64 (x8_1 + 1)), zr, H', ⟨by have := HK1.out; omega⟩, ⟨mB_ BK342.out⟩, ⟨zs GE342.out⟩⟩
def impl_Cube_35.f (k : Nat) (l0 : List (S43)) (a1_0 : Int) (a1_1 : Int) (a1_2 : Int) : Option (Bool) := (impl_Cube_52.f k l0 a1_0 a1_1 a1_2).bind fun t345 => (some (decide (t345 ≥ 0)))
theorem impl_Cube_35.calls (k : Nat) (A0 : Option Addr) (c0 : Nat) (l0 : List (S43)) (a1_0 : Int) (a1_1 : Int) (a1_2 : Int) (r : Bool) (w : World) (hr0 : Kd.C k43 w A0 l0.length l0) (hc0 : l0.length ≤ c0) (h : impl_Cube_35.f k l0 a1_0 a1_1 a1_2 = some r) :
  Calls Try.prog 35 #[.slice A0 l0.length c0, .agg #[.int .i64 a1_0, .int .i64 a1_1, .int .i64 a1_2]] w fun e w' => e = .returned (.bool r) ∧ Below w.heap.size w w' := by
 have hu43 := Try.underlying43
 have HR0 := aM hr0
 have HC0 := aM hc0
 clear hr0 hc0
 have HB := aM (Below.refl w.heap.size w)
 have H : ((impl_Cube_52.f k l0 a1_0 a1_1 a1_2).bind fun t345 => (some (decide (t345 ≥ 0)))) = some r := h
 clear h
 replace H := Option.bind_eq_some_iff.mp H
 obtain ⟨t345, A30, H⟩ := H
 replace H : (some (decide (t345 ≥ 0))) = some r := H
 have A3 := aM A30
 clear A30
 obtain rfl := Option.some.inj H
 go_enter Try.func35, Try.ntmps35
 go_wp2_with (first | ((with_reducible refine gate_dst (N := 3) rfl ?_); refine zx 3 #[.int .i64 a1_0, .int .i64 a1_1, .int .i64 a1_2] 43 ?_; intro gb344 hg w4 hbox hb; have n0_ := aM (below_step zb hb); have n1_ := aM (hbox); have n2_ := aM ((ze : w.heap.size ≤ gb344)); have n3_ := aM ((ze : w.heap.size ≤ gb344)); clear HB; have HB := n0_; have BK344 := n1_; have GW344 := n2_; have GE344 := n3_; clear n0_ n1_ n2_ n3_ hb hbox hg; have hcz5_0 : w4.cell? ⟨gb344, 0, none⟩ = some (.int .i64 a1_0) := (blk_cell BK344.out 0).trans rfl; have hcz5_1 : w4.cell? ⟨gb344, 1, none⟩ = some (.int .i64 a1_1) := (blk_cell BK344.out 1).trans rfl; have hcz5_2 : w4.cell? ⟨gb344, 2, none⟩ = some (.int .i64 a1_2) := (blk_cell BK344.out 2).trans rfl; have hfz5_0 := blk_frozen BK344.out 0; have hfz5_1 := blk_frozen BK344.out 1; have hfz5_2 := blk_frozen BK344.out 2) | ((with_reducible refine gate_callee (f := 52) rfl ?_); refine goesL_ (some 7) rfl rfl Try.func52 (by kernel_rfl) rfl #[.slice A0 l0.length c0, .agg #[.int .i64 a1_0, .int .i64 a1_1, .int .i64 a1_2]] rfl zm ?_; (with_reducible refine (impl_Cube_52.calls k _ _ l0 a1_0 a1_1 a1_2 t345 _ ?side1 ?side2 A3.out).mono ?_); (case side1 => repeat (first | exact (Kd.C_below HR0.out HB.out) | (with_reducible refine Kd.C_alloc ?_ _) | (with_reducible refine Kd.C_drewN ?_ _) | (with_reducible refine Kd.C_drew ?_))); (case side2 => exact HC0.out); rintro e w6 ⟨rfl, hb⟩; refine ⟨_, rfl, ?_⟩; have n0_ := aM (blk_below (g := gb344) (o := .cells #[.int .i64 a1_0, .int .i64 a1_1, .int .i64 a1_2] 43 (0, 0)) (mB_ BK344.out) hb); have n1_ := aM (below_step (zs GE344.out) hb); clear BK344 HB; have BK344 := n0_; have HB := n1_; clear n0_ n1_; (try clear hb); (try clear hb2); (try clear hk); (try clear hi)))
 go_ret
 exact ⟨zw, zs GE344.out⟩
def impl_Cube_36.f (l0 : List S43) : Option (List S43) := if l0.length ≤ 1000000000000 then some l0 else none
set_option maxHeartbeats 4000000 in
theorem impl_Cube_36.calls (A0 : Option Addr) (c0 : Nat) (l0 : List S43) (r : List S43) (w : World) (hr0 : Kd.C k43 w A0 l0.length l0) (hc0 : l0.length ≤ c0) (h : impl_Cube_36.f l0 = some r) :
    Calls Try.prog 36 #[.slice A0 l0.length c0] w fun e w' => ∃ v0_ : Value, e = .returned (v0_) ∧ Kd.R k43 43 w' w.heap.size (fun _ => True) v0_ r ∧ Below w.heap.size w w' := by
  unfold impl_Cube_36.f at h
  by_cases hl : l0.length ≤ 1000000000000
  · rw [if_pos hl] at h
    obtain rfl := Option.some.inj h
    have q22 : ∀ (w : World) (a : Option Addr) (n c n' c' : Nat), (binOp .eql 40 (.slice a n c) (.slice none n' c')).run Try.prog w = .ok (.bool a.isNone) w := fun w a n c n' c' => Lib.run_eql_slice_nil w _ _ a n c n' c' Try.underlying40
    have u22 : ∀ w, Sem.run Try.prog (underlying 40) w = .ok (TypeDesc.slice 43) w := run_underlying Try.underlying40
    cases A0 with
    | none =>
      have h0 : l0 = [] := by
        refine List.length_eq_zero_iff.1 (Nat.eq_zero_of_not_pos fun hp => ?_)
        obtain ⟨ad, he, _⟩ := hr0.2.2 hp
        cases he
      subst h0
      clear hr0
      go_enter Try.func36, Try.ntmps36
      go_wp2
      go_ret
      exact ⟨_, rfl, Kd.R_nil _ _ _ _ _, Below.refl _ _⟩
    | some ad =>
      obtain ⟨inner, hreps, hcell⟩ := ReadsRow.inner_ hr0
      obtain ⟨i0, hi, hzz⟩ := Option.map_eq_some_iff.1 info43
      simp only [Prod.mk.injEq] at hzz
      obtain ⟨hz0, hz1, hz2⟩ := hzz
      have hil : inner.length = l0.length * 3 := hreps.1
      have h1 : ∀ u ∈ inner, u.oneCell' = true := by
        intro u hu
        obtain ⟨j, hj, e⟩ := List.getElem_of_mem hu
        have hjl : j / 3 < l0.length := by omega
        have hk := hreps.2 (j / 3) l0[j / 3] (List.getElem?_eq_getElem hjl)
        refine k43.K_one hk u ?_
        refine List.mem_of_getElem? (i := j % 3) ?_
        rw [List.getElem?_take_of_lt (show j % 3 < k43.sz from Nat.mod_lt _ (by decide)), List.getElem?_drop]
        rw [show j / 3 * k43.sz + j % 3 = j from by show j / 3 * 3 + j % 3 = j; omega, List.getElem?_eq_getElem hj, e]
      have A := aM hcell
      have HR := aM hreps
      have H1 := aM h1
      clear hr0 hcell hreps h1
      go_enter Try.func36, Try.ntmps36
      go_wp2_with (at_builtin; refine wpList_append_own _ rfl _ _ 40 rfl w.heap.size 43 i0 _ 3 24 Try.underlying40 hi hz0 hz1 hz2 rfl (by decide) _ _ _ rfl (World.ownsRow_made w #[] 0 (Nat.le_refl _) (Nat.zero_le _) (by simp)) ad l0.length c0 inner rfl ?qc1 ?qc2 ?qc3 ?qc4 ?qc5 ?qc6 ?_)
      (try case qc1 => exact hil)
      case qc2 =>
        intro j u hj
        exact Lib.cell?_alloc_some _ (A.out j u hj)
      case qc3 => exact H1.out
      case qc4 => simp only [maxLen]; omega
      case qc5 => omega
      (try case qc6 => simp)
      intro v' w1 hown hgrow hnil
      go_wp2
      go_ret
      have hB : Below w.heap.size w w1 := ((Below.refl _ w).alloc (Nat.le_refl _) _).grown hgrow (by simp) (by intro k hk; simp [Value.ownBlock] at hk; omega)
      refine ⟨v', rfl, ⟨fun _ _ => trivial, inner, (show w1.ownsRow w.heap.size 43 3 v' l0.length inner by simpa using hown), HR.out.1, fun j p hp => ?_⟩, hB⟩
      exact HR.out.2 j p hp
  · rw [if_neg hl] at h
    exact absurd h (by simp)
end Go.Proofs.Ytlompfboheiliaa.F
end
section
namespace Go.Proofs.Ytlompfboheiliaa.F
open Go.RowKit Go.Proofs.YtlompfboheiliaaW.PrintWords Go.Proofs.YtlompfboheiliaaW.PrintLast Go.Proofs.YtlompfboheiliaaW.PrintMore
attribute [local go_sem] max2_int min2_int max_two min_two max_three min_three max_four min_four
set_option linter.unusedVariables false
set_option linter.unusedSimpArgs false
mutual
def impl_normalCubes.l0 : Nat → List (S43) → List (S43) → Int → Int → Int → Int → Int → Option ((List (S43)))
 | 0, _, _, _, _, _, _, _ => none
 | k + 1, x0, x12, x13, x14, x348000, x348001, x348002 => if x14 < x13 then (if 0 ≤ x14 then (if x14 < (x12.length : Int) then (impl_normalCubes.l0 k x0 x12 x13 (wrap64 (x14 + 1)) (mn x348000 ((rd_T43 x12 x14).f0)) (mn x348001 ((rd_T43 x12 x14).f1)) (mn x348002 ((rd_T43 x12 x14).f2))) else (none)) else (none)) else (if 0 ≤ (x0.length : Int) then (if ((x0.length : Int) : Int).toNat ≤ 11728124029610 then (impl_normalCubes.l1 k (([] : List (S43))) x0 (x0.length : Int) 0 x348000 x348001 x348002) else (none)) else (none))
def impl_normalCubes.l1 : Nat → List (S43) → List (S43) → Int → Int → Int → Int → Int → Option ((List (S43)))
 | 0, _, _, _, _, _, _, _ => none
 | k + 1, x6, x38, x39, x40, x348000, x348001, x348002 => if x40 < x39 then (if 0 ≤ x40 then (if x40 < (x38.length : Int) then (if x6.length < 5864062014805 then (impl_normalCubes.l1 k (x6 ++ [(⟨wrap64 (((rd_T43 x38 x40).f0) - x348000), wrap64 (((rd_T43 x38 x40).f1) - x348001), wrap64 (((rd_T43 x38 x40).f2) - x348002)⟩ : S43)]) x38 x39 (wrap64 (x40 + 1)) x348000 x348001 x348002) else (none)) else (none)) else (none)) else (some x6)
end
def impl_normalCubes.f (k : Nat) (l0 : List (S43)) : Option ((List (S43))) := if 0 < (l0.length : Int) then (impl_normalCubes.l0 k l0 l0 (l0.length : Int) 0 ((rd_T43 l0 0).f0) ((rd_T43 l0 0).f1) ((rd_T43 l0 0).f2)) else (none)
theorem impl_normalCubes.calls (k : Nat) (A0 : Option Addr) (c0 : Nat) (l0 : List (S43)) (r : List (S43)) (w : World) (hr0 : Kd.C k43 w A0 l0.length l0) (hc0 : l0.length ≤ c0) (h : impl_normalCubes.f k l0 = some r) :
  Calls Try.prog 39 #[.slice A0 l0.length c0] w fun e w' => ∃ v0_ : Value, e = .returned (v0_) ∧ Kd.R k43 43 w' w.heap.size (fun _ => True) v0_ r ∧ Below w.heap.size w w' := by
 have hu43 := Try.underlying43
 have HR0 := aM hr0
 have HC0 := aM hc0
 clear hr0 hc0
 have HB := aM (Below.refl w.heap.size w)
 have H : (if 0 < (l0.length : Int) then (impl_normalCubes.l0 k l0 l0 (l0.length : Int) 0 ((rd_T43 l0 0).f0) ((rd_T43 l0 0).f1) ((rd_T43 l0 0).f2)) else (none)) = some r := h
 clear h
 by_cases c2 : 0 < (l0.length : Int)
 rotate_left
 ·rw [if_neg c2] at H
  exact absurd H (by simp)
 rw [if_pos c2] at H
 have c2b0 : decide (0 < (l0.length : Int)) = true := decide_eq_true c2
 have c2b1 : decide (0 < l0.length) = true := decide_eq_true (by omega)
 clear c2
 have H' := aM H
 clear H
 have p346 : 0 ≤ (0 : Int) := (by omega)
 have q346 : 0 < (l0.length : Int) := of_decide_eq_true za
 obtain ⟨ad346, e346, hx346_0, hx346_1, hx346_2⟩ := at_T43 HR0.out 0 p346 q346
 cases e346
 have qi346 : (0 < l0.length) = True := eq_true (by omega)
 (try rw [show ((0 : Int)).toNat = 0 from rfl] at hx346_0)
 (try rw [show 0 * 3 = 0 from rfl] at hx346_0)
 (try rw [Addr.add_zero'] at hx346_0)
 (try rw [show ((0 : Int)).toNat = 0 from rfl] at hx346_1)
 (try rw [show 0 * 3 = 0 from rfl] at hx346_1)
 (try rw [Addr.add_zero'] at hx346_1)
 (try rw [show ((0 : Int)).toNat = 0 from rfl] at hx346_2)
 (try rw [show 0 * 3 = 0 from rfl] at hx346_2)
 (try rw [Addr.add_zero'] at hx346_2)
 replace p346 := eq_true p346
 replace q346 := eq_true q346
 go_enter Try.func39, Try.ntmps39
 go_wp2_with (first | ((with_reducible refine gate_dst (N := 3) rfl ?_); refine zx 3 #[.int .i64 0, .int .i64 0, .int .i64 0] 43 ?_; intro gb347 hg w3 hbox hb; have n0_ := aM (below_step zb hb); have n1_ := aM (hbox); have n2_ := aM ((ze : w.heap.size ≤ gb347)); have n3_ := aM ((ze : w.heap.size ≤ gb347)); clear HB; have HB := n0_; have BK347 := n1_; have GW347 := n2_; have GE347 := n3_; clear n0_ n1_ n2_ n3_ hb hbox hg; have hcz4_0 : w3.cell? ⟨gb347, 0, none⟩ = some (.int .i64 0) := (blk_cell BK347.out 0).trans rfl; have hcz4_1 : w3.cell? ⟨gb347, 1, none⟩ = some (.int .i64 0) := (blk_cell BK347.out 1).trans rfl; have hcz4_2 : w3.cell? ⟨gb347, 2, none⟩ = some (.int .i64 0) := (blk_cell BK347.out 2).trans rfl; have hfz4_0 := blk_frozen BK347.out 0; have hfz4_1 := blk_frozen BK347.out 1; have hfz4_2 := blk_frozen BK347.out 2))
 go_loopg [14] k (fun kq v14 w' => ∃ (x14_1 : Int) (x348000_1 : Int) (x348001_1 : Int) (x348002_1 : Int), v14 = .int .i64 x14_1 ∧ Aside0 (impl_normalCubes.l0 kq l0 l0 (l0.length : Int) x14_1 x348000_1 x348001_1 x348002_1 = some r) ∧ Aside0 (kq ≤ k) ∧ Aside0 (w'.heap[gb347]? = some (.cells #[.int .i64 x348000_1, .int .i64 x348001_1, .int .i64 x348002_1] 43 (0, 0))) ∧ Aside0 (Below w.heap.size w w'))
 case atStart => exact ⟨(0), ((rd_T43 l0 0).f0), ((rd_T43 l0 0).f1), ((rd_T43 l0 0).f2), zr, H', ⟨Nat.le_refl _⟩, ⟨by (with_reducible repeat (first | refine blk_drewN ?_ _ | refine blk_drew ?_ | refine blk_alloc ?_ _)); refine blk_put (cs := #[.int .i64 ((rd_T43 l0 0).f0), .int .i64 ((rd_T43 l0 0).f1), .int .i64 0]) ?_ 2 _ rfl; (with_reducible repeat (first | refine blk_drewN ?_ _ | refine blk_drew ?_ | refine blk_alloc ?_ _)); refine blk_put (cs := #[.int .i64 ((rd_T43 l0 0).f0), .int .i64 0, .int .i64 0]) ?_ 1 _ rfl; (with_reducible repeat (first | refine blk_drewN ?_ _ | refine blk_drew ?_ | refine blk_alloc ?_ _)); refine blk_put (cs := #[.int .i64 0, .int .i64 0, .int .i64 0]) ?_ 0 _ rfl; (with_reducible repeat (first | refine blk_drewN ?_ _ | refine blk_drew ?_ | refine blk_alloc ?_ _)); exact BK347.out⟩, ⟨zs GE347.out⟩⟩
 case round =>
  clear H'
  try clear c2
  try clear c2b0
  try clear c2b1
  try clear p2
  try clear c3
  try clear p3
  try clear q3
  try clear hx3
  try clear qi3
  try clear hcz4_0
  try clear hcz4_1
  try clear hcz4_2
  try clear hfz4_0
  try clear hfz4_1
  try clear hfz4_2
  try clear hx346_0
  try clear hx346_1
  try clear hx346_2
  try clear p346
  try clear q346
  obtain ⟨x14_1, x348000_1, x348001_1, x348002_1, rfl, HA, HK1, BK347, HB⟩ := hrel
  cases gk with
  | zero => exact absurd HA.out (by simp [impl_normalCubes.l0])
  | succ k1 =>
   have H := HA.out
   clear HA
   simp only [impl_normalCubes.l0] at H
   by_cases c5 : x14_1 < (l0.length : Int)
   ·rw [if_pos c5] at H
    have c5b0 : decide (x14_1 < (l0.length : Int)) = true := decide_eq_true c5
    clear c5
    by_cases c6 : 0 ≤ x14_1
    rotate_left
    ·rw [if_neg c6] at H
     exact absurd H (by simp)
    rw [if_pos c6] at H
    have c6b0 : decide (0 ≤ x14_1) = true := decide_eq_true c6
    clear c6
    by_cases c7 : x14_1 < (l0.length : Int)
    rotate_left
    ·rw [if_neg c7] at H
     exact absurd H (by simp)
    rw [if_pos c7] at H
    have c7b0 : decide (x14_1 < (l0.length : Int)) = true := decide_eq_true c7
    clear c7
    obtain ⟨ji8, hji8⟩ : ∃ j_ : Int, (mn x348000_1 ((rd_T43 l0 x14_1).f0)) = j_ := ⟨_, rfl⟩
    replace H : (impl_normalCubes.l0 k1 l0 l0 (l0.length : Int) (wrap64 (x14_1 + 1)) ji8 (mn x348001_1 ((rd_T43 l0 x14_1).f1)) (mn x348002_1 ((rd_T43 l0 x14_1).f2))) = some r := by first | (rw [hji8] at H; exact H) | (simp only [hji8] at H ⊢; exact H)
    have hji8_ : (if ((rd_T43 l0 x14_1).f0) < x348000_1 then ((rd_T43 l0 x14_1).f0) else x348000_1) = ji8 := hji8
    obtain ⟨ji9, hji9⟩ : ∃ j_ : Int, (mn x348001_1 ((rd_T43 l0 x14_1).f1)) = j_ := ⟨_, rfl⟩
    replace H : (impl_normalCubes.l0 k1 l0 l0 (l0.length : Int) (wrap64 (x14_1 + 1)) ji8 ji9 (mn x348002_1 ((rd_T43 l0 x14_1).f2))) = some r := by first | (rw [hji9] at H; exact H) | (simp only [hji9] at H ⊢; exact H)
    have hji9_ : (if ((rd_T43 l0 x14_1).f1) < x348001_1 then ((rd_T43 l0 x14_1).f1) else x348001_1) = ji9 := hji9
    obtain ⟨ji10, hji10⟩ : ∃ j_ : Int, (mn x348002_1 ((rd_T43 l0 x14_1).f2)) = j_ := ⟨_, rfl⟩
    replace H : (impl_normalCubes.l0 k1 l0 l0 (l0.length : Int) (wrap64 (x14_1 + 1)) ji8 ji9 ji10) = some r := by first | (rw [hji10] at H; exact H) | (simp only [hji10] at H ⊢; exact H)
    have hji10_ : (if ((rd_T43 l0 x14_1).f2) < x348002_1 then ((rd_T43 l0 x14_1).f2) else x348002_1) = ji10 := hji10
    have H' := aM H
    clear H
    have p348 : 0 ≤ (x14_1 : Int) := of_decide_eq_true za
    have q348 : x14_1 < (l0.length : Int) := of_decide_eq_true za
    obtain ⟨ad348, e348, hx348_0, hx348_1, hx348_2⟩ := at_T43 HR0.out x14_1 p348 q348
    obtain rfl : ad346 = ad348 := (by injection e348)
    replace hx348_0 := zk HB.out hx348_0
    replace hx348_1 := zk HB.out hx348_1
    replace hx348_2 := zk HB.out hx348_2
    replace p348 := eq_true p348
    replace q348 := eq_true q348
    go_wp2_with (first | ((with_reducible refine gate_dst (N := 5) rfl ?_); refine zx 5 #[.int .i64 0, .int .i64 0, .int .i64 0] 43 ?_; intro gb349 hg w11 hbox hb; have n0_ := aM (blk_below (g := gb347) (o := .cells #[.int .i64 x348000_1, .int .i64 x348001_1, .int .i64 x348002_1] 43 (0, 0)) (mB_ BK347.out) hb); have n1_ := aM (below_step (zs GE347.out) hb); have n2_ := aM (hbox); have n3_ := aM ((zf GE347.out : w.heap.size ≤ gb349)); have n4_ := aM ((zf GE347.out : w.heap.size ≤ gb349)); have n5_ := aM ((zl BK347.out : gb347 ≠ gb349)); have n6_ := aM ((zn BK347.out : gb349 ≠ gb347)); clear BK347 HB; have BK347 := n0_; have HB := n1_; have BK349 := n2_; have GW349 := n3_; have GE349 := n4_; have NB347_349 := n5_; have NB349_347 := n6_; clear n0_ n1_ n2_ n3_ n4_ n5_ n6_ hb hbox hg; have hnb12 := NB349_347.out; have hnc12 := NB347_349.out; have hcz13_0 : w11.cell? ⟨gb349, 0, none⟩ = some (.int .i64 0) := (blk_cell BK349.out 0).trans rfl; have hcz13_1 : w11.cell? ⟨gb349, 1, none⟩ = some (.int .i64 0) := (blk_cell BK349.out 1).trans rfl; have hcz13_2 : w11.cell? ⟨gb349, 2, none⟩ = some (.int .i64 0) := (blk_cell BK349.out 2).trans rfl; have hfz13_0 := blk_frozen BK349.out 0; have hfz13_1 := blk_frozen BK349.out 1; have hfz13_2 := blk_frozen BK349.out 2; have hcz14_0 : w11.cell? ⟨gb347, 0, none⟩ = some (.int .i64 x348000_1) := (blk_cell BK347.out 0).trans rfl; have hcz14_1 : w11.cell? ⟨gb347, 1, none⟩ = some (.int .i64 x348001_1) := (blk_cell BK347.out 1).trans rfl; have hcz14_2 : w11.cell? ⟨gb347, 2, none⟩ = some (.int .i64 x348002_1) := (blk_cell BK347.out 2).trans rfl; have hfz14_0 := blk_frozen BK347.out 0; have hfz14_1 := blk_frozen BK347.out 1; have hfz14_2 := blk_frozen BK347.out 2))
    go_roundg k1
    case measure => have := HK1.out; omega
    case rel => exact ⟨(wrap64 (x14_1 + 1)), (ji8), (ji9), (ji10), zr, H', ⟨by have := HK1.out; omega⟩, ⟨by (with_reducible repeat (first | refine blk_drewN ?_ _ | refine blk_drew ?_ | refine blk_alloc ?_ _)); refine blk_put (cs := #[.int .i64 ji8, .int .i64 ji9, .int .i64 x348002_1]) ?_ 2 _ rfl; (with_reducible repeat (first | refine blk_drewN ?_ _ | refine blk_drew ?_ | refine blk_alloc ?_ _)); refine blk_put (cs := #[.int .i64 ji8, .int .i64 x348001_1, .int .i64 x348002_1]) ?_ 1 _ rfl; (with_reducible repeat (first | refine blk_drewN ?_ _ | refine blk_drew ?_ | refine blk_alloc ?_ _)); refine blk_put (cs := #[.int .i64 x348000_1, .int .i64 x348001_1, .int .i64 x348002_1]) ?_ 0 _ rfl; (with_reducible repeat (first | refine blk_drewN ?_ _ | refine blk_drew ?_ | refine blk_alloc ?_ _)); refine blk_far ?_ NB347_349.out _; (with_reducible repeat (first | refine blk_drewN ?_ _ | refine blk_drew ?_ | refine blk_alloc ?_ _)); refine blk_far ?_ NB347_349.out _; (with_reducible repeat (first | refine blk_drewN ?_ _ | refine blk_drew ?_ | refine blk_alloc ?_ _)); refine blk_far ?_ NB347_349.out _; (with_reducible repeat (first | refine blk_drewN ?_ _ | refine blk_drew ?_ | refine blk_alloc ?_ _)); exact BK347.out⟩, ⟨zt GE347.out GE349.out⟩⟩
   rw [if_neg c5] at H
   have c5b0 : decide (x14_1 < (l0.length : Int)) = false := decide_eq_false c5
   clear c5
   by_cases c15 : 0 ≤ (l0.length : Int)
   rotate_left
   ·rw [if_neg c15] at H
    exact absurd H (by simp)
   rw [if_pos c15] at H
   have c15b0 := eq_true c15
   have c15b1 : decide (0 ≤ (l0.length : Int)) = true := decide_eq_true c15
   clear c15
   by_cases c16 : ((l0.length : Int) : Int).toNat ≤ 11728124029610
   rotate_left
   ·rw [if_neg c16] at H
    exact absurd H (by simp)
   rw [if_pos c16] at H
   have c16b0 := eq_true c16
   have c16b1 : decide (((l0.length : Int) : Int).toNat ≤ 11728124029610) = true := decide_eq_true c16
   clear c16
   obtain ⟨y350, hy350⟩ : ∃ y_ : List (S43), y_ = (([] : List (S43))) := ⟨_, rfl⟩
   replace H : (impl_normalCubes.l1 k1 y350 l0 (l0.length : Int) 0 x348000_1 x348001_1 x348002_1) = some r := zy H hy350
   have Ny350 := aM hy350
   clear hy350
   have H' := aM H
   clear H
   go_wp2_with (first | ((with_reducible refine gate_dst (N := 37) rfl ?_); refine Kd.R_make0 k43 _ 43 rfl (N := 37) rfl 40 _ _ rfl (l0.length : Int) rfl rfl Try.underlying40 (.agg #[(.int .i64 0), (.int .i64 0), (.int .i64 0)]) 24 info43 rfl (by decide) (by omega) z43 (ok := fun _ => True) (okp := fun _ => True) (k43_mkM _ _ _ z43 ) (fun _ hk => hk) trivial (of_decide_eq_true za) (Nat.le_trans (Nat.mul_le_mul_right _ (of_decide_eq_true za : (l0.length : Int).toNat ≤ 11728124029610)) (by omega)) (Below.refl _ _) (Nat.le_refl _) ?_; intro v351 w17 ho18 hb hg_ hnew_; clear hg_ hnew_; (first | rw [← Ny350.out] at ho18 | (simp only [Int.reduceToNat] at ho18; rw [← Ny350.out] at ho18)); have n0_ := aM (Kd.R_lower (Kd.R_newB ho18 (g := gb347) (o := .cells #[.int .i64 x348000_1, .int .i64 x348001_1, .int .i64 x348002_1] 43 (0, 0)) (mB_ BK347.out)) (below_size (zs GE347.out))); have n1_ := aM (blk_below (g := gb347) (o := .cells #[.int .i64 x348000_1, .int .i64 x348001_1, .int .i64 x348002_1] 43 (0, 0)) (mB_ BK347.out) hb); have n2_ := aM (below_step (zs GE347.out) hb); clear BK347 HB; have HO352 := n0_; have BK347 := n1_; have HB := n2_; clear n0_ n1_ n2_; clear hb ho18))
   go_loopg [6, 40] k1 (fun kq v6 v40 w' => ∃ (x6_2 : List (S43)) (x40_2 : Int), v40 = .int .i64 x40_2 ∧ Aside0 (impl_normalCubes.l1 kq x6_2 l0 (l0.length : Int) x40_2 x348000_1 x348001_1 x348002_1 = some r) ∧ Aside0 (kq ≤ k1) ∧ Aside0 (Kd.R k43 43 w' w.heap.size (fun k_ => k_ ≠ gb347) v6 x6_2) ∧ Aside0 (w'.heap[gb347]? = some (.cells #[.int .i64 x348000_1, .int .i64 x348001_1, .int .i64 x348002_1] 43 (0, 0))) ∧ Aside0 (Below w.heap.size w w'))
   case atStart => exact ⟨(y350), (0), zr, H', ⟨Nat.le_refl _⟩, ⟨zd5 HO352.out⟩, ⟨mB_ BK347.out⟩, ⟨zs GE347.out⟩⟩
   case round =>
    clear H'
    try clear c1
    try clear c2
    try clear c2b0
    try clear c2b1
    try clear p2
    try clear c3
    try clear p3
    try clear q3
    try clear hx3
    try clear qi3
    try clear c5
    try clear c5b0
    try clear c6
    try clear c6b0
    try clear p6
    try clear c7
    try clear c7b0
    try clear c12
    try clear c15
    try clear c15b0
    try clear c15b1
    try clear c16
    try clear c16b0
    try clear c16b1
    try clear hcz13_0
    try clear hcz13_1
    try clear hcz13_2
    try clear hcz14_0
    try clear hcz14_1
    try clear hcz14_2
    try clear hcz4_0
    try clear hcz4_1
    try clear hcz4_2
    try clear hfz13_0
    try clear hfz13_1
    try clear hfz13_2
    try clear hfz14_0
    try clear hfz14_1
    try clear hfz14_2
    try clear hfz4_0
    try clear hfz4_1
    try clear hfz4_2
    try clear hx346_0
    try clear hx346_1
    try clear hx346_2
    try clear hx348_0
    try clear hx348_1
    try clear hx348_2
    try clear p2
    try clear p3
    try clear p346
    try clear p348
    try clear q3
    try clear q346
    try clear q348
    obtain ⟨x6_2, x40_2, rfl, HA, HK2, HO_6, BK347, HB⟩ := hrel
    cases gk with
    | zero => exact absurd HA.out (by simp [impl_normalCubes.l1])
    | succ k2 =>
     have H := HA.out
     clear HA
     simp only [impl_normalCubes.l1] at H
     by_cases c19 : x40_2 < (l0.length : Int)
     rotate_left
     ·rw [if_neg c19] at H
      have c19b0 : decide (x40_2 < (l0.length : Int)) = false := decide_eq_false c19
      clear c19
      obtain rfl := Option.some.inj H
      go_wp2
      go_ret
      exact ⟨_, zw, zd6 HO_6.out, zs GE347.out⟩
     rw [if_pos c19] at H
     have c19b0 : decide (x40_2 < (l0.length : Int)) = true := decide_eq_true c19
     clear c19
     by_cases c20 : 0 ≤ x40_2
     rotate_left
     ·rw [if_neg c20] at H
      exact absurd H (by simp)
     rw [if_pos c20] at H
     have c20b0 : decide (0 ≤ x40_2) = true := decide_eq_true c20
     clear c20
     by_cases c21 : x40_2 < (l0.length : Int)
     rotate_left
     ·rw [if_neg c21] at H
      exact absurd H (by simp)
     rw [if_pos c21] at H
     have c21b0 : decide (x40_2 < (l0.length : Int)) = true := decide_eq_true c21
     clear c21
     by_cases c22 : x6_2.length < 5864062014805
     rotate_left
     ·rw [if_neg c22] at H
      exact absurd H (by simp)
     rw [if_pos c22] at H
     have LMc22 := aM c22
     clear c22
     obtain ⟨y355, hy355⟩ : ∃ y_ : List (S43), y_ = (x6_2 ++ [(⟨wrap64 (((rd_T43 l0 x40_2).f0) - x348000_1), wrap64 (((rd_T43 l0 x40_2).f1) - x348001_1), wrap64 (((rd_T43 l0 x40_2).f2) - x348002_1)⟩ : S43)]) := ⟨_, rfl⟩
     replace H : (impl_normalCubes.l1 k2 y355 l0 (l0.length : Int) (wrap64 (x40_2 + 1)) x348000_1 x348001_1 x348002_1) = some r := zy H hy355
     have Ny355 := aM hy355
     clear hy355
     have H' := aM H
     clear H
     have p353 : 0 ≤ (x40_2 : Int) := of_decide_eq_true za
     have q353 : x40_2 < (l0.length : Int) := of_decide_eq_true za
     obtain ⟨ad353, e353, hx353_0, hx353_1, hx353_2⟩ := at_T43 HR0.out x40_2 p353 q353
     obtain rfl : ad346 = ad353 := (by injection e353)
     replace hx353_0 := zk HB.out hx353_0
     replace hx353_1 := zk HB.out hx353_1
     replace hx353_2 := zk HB.out hx353_2
     replace p353 := eq_true p353
     replace q353 := eq_true q353
     go_wp2_with (first | ((with_reducible refine gate_dst (N := 8) rfl ?_); refine zx 8 #[.int .i64 0, .int .i64 0, .int .i64 0] 43 ?_; intro gb354 hg w23 hbox hb; have n0_ := aM (Kd.R_below (Kd.R_elderB (mR_ HO_6.out) gb354 (Nat.le_of_eq hg.symm)) hb); have n1_ := aM (blk_below (g := gb347) (o := .cells #[.int .i64 x348000_1, .int .i64 x348001_1, .int .i64 x348002_1] 43 (0, 0)) (mB_ BK347.out) hb); have n2_ := aM (below_step (zs GE347.out) hb); have n3_ := aM (hbox); have n4_ := aM ((zf GE347.out : w.heap.size ≤ gb354)); have n5_ := aM ((zf GE347.out : w.heap.size ≤ gb354)); have n6_ := aM ((zl BK347.out : gb347 ≠ gb354)); have n7_ := aM ((zn BK347.out : gb354 ≠ gb347)); clear HO_6 BK347 HB; have HO_6 := n0_; have BK347 := n1_; have HB := n2_; have BK354 := n3_; have GW354 := n4_; have GE354 := n5_; have NB347_354 := n6_; have NB354_347 := n7_; clear n0_ n1_ n2_ n3_ n4_ n5_ n6_ n7_ hb hbox hg; have hnb24 := NB354_347.out; have hnc24 := NB347_354.out; have hcz25_0 : w23.cell? ⟨gb354, 0, none⟩ = some (.int .i64 0) := (blk_cell BK354.out 0).trans rfl; have hcz25_1 : w23.cell? ⟨gb354, 1, none⟩ = some (.int .i64 0) := (blk_cell BK354.out 1).trans rfl; have hcz25_2 : w23.cell? ⟨gb354, 2, none⟩ = some (.int .i64 0) := (blk_cell BK354.out 2).trans rfl; have hfz25_0 := blk_frozen BK354.out 0; have hfz25_1 := blk_frozen BK354.out 1; have hfz25_2 := blk_frozen BK354.out 2; have hcz26_0 : w23.cell? ⟨gb347, 0, none⟩ = some (.int .i64 x348000_1) := (blk_cell BK347.out 0).trans rfl; have hcz26_1 : w23.cell? ⟨gb347, 1, none⟩ = some (.int .i64 x348001_1) := (blk_cell BK347.out 1).trans rfl; have hcz26_2 : w23.cell? ⟨gb347, 2, none⟩ = some (.int .i64 x348002_1) := (blk_cell BK347.out 2).trans rfl; have hfz26_0 := blk_frozen BK347.out 0; have hfz26_1 := blk_frozen BK347.out 1; have hfz26_2 := blk_frozen BK347.out 2) | ((with_reducible refine gate_builtin (b := .append) (xs := #[.tmp 44, .tmp 61]) rfl ?_); at_builtin; refine Kd.R_append k43 (w0 := w) w.heap.size rfl (.tmp 44) (.tmp 61) 40 43 (.agg #[(.int .i64 0), (.int .i64 0), (.int .i64 0)]) 24 rfl Try.underlying40 info43 rfl (by decide) (by omega) u6 x6_2 (⟨wrap64 (((rd_T43 l0 x40_2).f0) - x348000_1), wrap64 (((rd_T43 l0 x40_2).f1) - x348001_1), wrap64 (((rd_T43 l0 x40_2).f2) - x348002_1)⟩ : S43) [.int .i64 (wrap64 (((rd_T43 l0 x40_2).f0) - x348000_1)), .int .i64 (wrap64 (((rd_T43 l0 x40_2).f1) - x348001_1)), .int .i64 (wrap64 (((rd_T43 l0 x40_2).f2) - x348002_1))] (fun k_ => k_ ≠ gb347 ∧ k_ ≠ gb354) (fun _ => False) rfl (by first | (go_simp; done) | (go_simp; rfl)) ?aP (fun _ hk => hk.elim) ?aF ?aO ?aB ?aS ?aL ?_; (case aP => exact k43_mkM _ _ _ (⟨wrap64 (((rd_T43 l0 x40_2).f0) - x348000_1), wrap64 (((rd_T43 l0 x40_2).f1) - x348001_1), wrap64 (((rd_T43 l0 x40_2).f2) - x348002_1)⟩ : S43)); (case aB => exact (zt GE347.out GE354.out)); (case aF => exact (fun k_ hk => ⟨Kd.freshB (g := gb347) (o := .cells #[.int .i64 x348000_1, .int .i64 x348001_1, .int .i64 x348002_1] 43 (0, 0)) (by (with_reducible repeat (first | refine blk_drewN ?_ _ | refine blk_drew ?_ | refine blk_alloc ?_ _)); refine blk_far ?_ NB347_354.out _; (with_reducible repeat (first | refine blk_drewN ?_ _ | refine blk_drew ?_ | refine blk_alloc ?_ _)); refine blk_far ?_ NB347_354.out _; (with_reducible repeat (first | refine blk_drewN ?_ _ | refine blk_drew ?_ | refine blk_alloc ?_ _)); refine blk_far ?_ NB347_354.out _; (with_reducible repeat (first | refine blk_drewN ?_ _ | refine blk_drew ?_ | refine blk_alloc ?_ _)); exact BK347.out) k_ hk, Kd.freshB (g := gb354) (o := .cells #[.int .i64 ((rd_T43 l0 x40_2).f0), .int .i64 ((rd_T43 l0 x40_2).f1), .int .i64 ((rd_T43 l0 x40_2).f2)] 43 (0, 0)) (by (with_reducible repeat (first | refine blk_drewN ?_ _ | refine blk_drew ?_ | refine blk_alloc ?_ _)); refine blk_put (cs := #[.int .i64 ((rd_T43 l0 x40_2).f0), .int .i64 ((rd_T43 l0 x40_2).f1), .int .i64 0]) ?_ 2 _ rfl; (with_reducible repeat (first | refine blk_drewN ?_ _ | refine blk_drew ?_ | refine blk_alloc ?_ _)); refine blk_put (cs := #[.int .i64 ((rd_T43 l0 x40_2).f0), .int .i64 0, .int .i64 0]) ?_ 1 _ rfl; (with_reducible repeat (first | refine blk_drewN ?_ _ | refine blk_drew ?_ | refine blk_alloc ?_ _)); refine blk_put (cs := #[.int .i64 0, .int .i64 0, .int .i64 0]) ?_ 0 _ rfl; (with_reducible repeat (first | refine blk_drewN ?_ _ | refine blk_drew ?_ | refine blk_alloc ?_ _)); exact BK354.out) k_ hk⟩)); (case aO => exact (by (with_reducible repeat (first | apply Kd.R_alloc | apply Kd.R_drewN | apply Kd.R_drew)); exact Kd.R_mono (Kd.R_far (p := ⟨gb354, 2, none⟩) (Kd.R_far (p := ⟨gb354, 1, none⟩) (Kd.R_far (p := ⟨gb354, 0, none⟩) (Kd.R_mono HO_6.out (fun k_ hk => (⟨hk, hk.2⟩ : _ ∧ k_ ≠ gb354))) (fun _ hk => hk.2) (.int .i64 ((rd_T43 l0 x40_2).f0))) (fun _ hk => hk.2) (.int .i64 ((rd_T43 l0 x40_2).f1))) (fun _ hk => hk.2) (.int .i64 ((rd_T43 l0 x40_2).f2))) (fun _ hk => ⟨hk.1.1, hk.1.2⟩))); (case aS => exact (below_size (zt GE347.out GE354.out))); (case aL => have := LMc22.out; omega); intro v356 w27 ho hb hg hat; rw [← Ny355.out] at ho; have n0_ := aM (blk_grown (g := gb347) (o := .cells #[.int .i64 x348000_1, .int .i64 x348001_1, .int .i64 x348002_1] 43 (0, 0)) (by (with_reducible repeat (first | refine blk_drewN ?_ _ | refine blk_drew ?_ | refine blk_alloc ?_ _)); refine blk_far ?_ NB347_354.out _; (with_reducible repeat (first | refine blk_drewN ?_ _ | refine blk_drew ?_ | refine blk_alloc ?_ _)); refine blk_far ?_ NB347_354.out _; (with_reducible repeat (first | refine blk_drewN ?_ _ | refine blk_drew ?_ | refine blk_alloc ?_ _)); refine blk_far ?_ NB347_354.out _; (with_reducible repeat (first | refine blk_drewN ?_ _ | refine blk_drew ?_ | refine blk_alloc ?_ _)); exact BK347.out) hg (Kd.R_away HO_6.out (fun _ hk => hk.1))); have n1_ := aM (blk_grown (g := gb354) (o := .cells #[.int .i64 ((rd_T43 l0 x40_2).f0), .int .i64 ((rd_T43 l0 x40_2).f1), .int .i64 ((rd_T43 l0 x40_2).f2)] 43 (0, 0)) (by (with_reducible repeat (first | refine blk_drewN ?_ _ | refine blk_drew ?_ | refine blk_alloc ?_ _)); refine blk_put (cs := #[.int .i64 ((rd_T43 l0 x40_2).f0), .int .i64 ((rd_T43 l0 x40_2).f1), .int .i64 0]) ?_ 2 _ rfl; (with_reducible repeat (first | refine blk_drewN ?_ _ | refine blk_drew ?_ | refine blk_alloc ?_ _)); refine blk_put (cs := #[.int .i64 ((rd_T43 l0 x40_2).f0), .int .i64 0, .int .i64 0]) ?_ 1 _ rfl; (with_reducible repeat (first | refine blk_drewN ?_ _ | refine blk_drew ?_ | refine blk_alloc ?_ _)); refine blk_put (cs := #[.int .i64 0, .int .i64 0, .int .i64 0]) ?_ 0 _ rfl; (with_reducible repeat (first | refine blk_drewN ?_ _ | refine blk_drew ?_ | refine blk_alloc ?_ _)); exact BK354.out) hg (Kd.R_away HO_6.out (fun _ hk => hk.2))); have n2_ := aM (hb); have n3_ := aM (ho); clear BK347 BK354 HB HO_6; have BK347 := n0_; have BK354 := n1_; have HB := n2_; have HO357 := n3_; clear n0_ n1_ n2_ n3_; clear ho hb hg hat))
     go_roundg k2
     case measure => have := HK1.out; have := HK2.out; omega
     case rel => exact ⟨(y355), (wrap64 (x40_2 + 1)), zr, H', ⟨by have := HK1.out; have := HK2.out; omega⟩, ⟨zd33 HO357.out⟩, ⟨mB_ BK347.out⟩, ⟨zt GE347.out GE354.out⟩⟩
def cmp_isNaN_int64.f (a0 : Int) : Option (Bool) := some (a0 != a0)
theorem cmp_isNaN_int64.calls (a0 : Int) (r : Bool) (w : World) (h : cmp_isNaN_int64.f a0 = some r) :
  Calls Try.prog 72 #[.int .i64 a0] w fun e w' => e = .returned (.bool r) ∧ Drawn0 w w' := by
 have H : (some (a0 != a0)) = some r := h
 clear h
 obtain rfl := Option.some.inj H
 go_enter Try.func72, Try.ntmps72
 go_wp2
 go_ret
 exact ⟨by first | rfl | (simp; done) | (simp [*]; done), by repeat (first | exact Drawn0.refl _ | apply Drawn0.step)⟩
def cmp_Compare_int64.f (a0 : Int) (a1 : Int) : Option (Int) := (cmp_isNaN_int64.f a0).bind fun t358 => ((cmp_isNaN_int64.f a1).bind fun t359 => (if t358 = true then (if t359 = true then (some 0) else (some (-1))) else (if t359 = true then (some 1) else (if a0 < a1 then (some (-1)) else (if a0 > a1 then (some 1) else (some 0))))))
theorem cmp_Compare_int64.calls (a0 : Int) (a1 : Int) (r : Int) (w : World) (h : cmp_Compare_int64.f a0 a1 = some r) :
  Calls Try.prog 55 #[.int .i64 a0, .int .i64 a1] w fun e w' => e = .returned (.int .i64 r) ∧ Drawn0 w w' := by
 have H : ((cmp_isNaN_int64.f a0).bind fun t358 => ((cmp_isNaN_int64.f a1).bind fun t359 => (if t358 = true then (if t359 = true then (some 0) else (some (-1))) else (if t359 = true then (some 1) else (if a0 < a1 then (some (-1)) else (if a0 > a1 then (some 1) else (some 0))))))) = some r := h
 clear h
 replace H := Option.bind_eq_some_iff.mp H
 obtain ⟨t358, A30, H⟩ := H
 replace H : ((cmp_isNaN_int64.f a1).bind fun t359 => (if t358 = true then (if t359 = true then (some 0) else (some (-1))) else (if t359 = true then (some 1) else (if a0 < a1 then (some (-1)) else (if a0 > a1 then (some 1) else (some 0)))))) = some r := H
 have A3 := aM A30
 clear A30
 replace H := Option.bind_eq_some_iff.mp H
 obtain ⟨t359, A40, H⟩ := H
 replace H : (if t358 = true then (if t359 = true then (some 0) else (some (-1))) else (if t359 = true then (some 1) else (if a0 < a1 then (some (-1)) else (if a0 > a1 then (some 1) else (some 0))))) = some r := H
 have A4 := aM A40
 clear A40
 by_cases c5 : t358 = true
 ·subst c5
  have H1 : (if t359 = true then (some 0) else (some (-1))) = some r := by rw [if_pos rfl] at H; exact H
  clear H
  have H := H1
  clear H1
  by_cases c6 : t359 = true
  ·subst c6
   have H1 : (some 0) = some r := by rw [if_pos rfl] at H; exact H
   clear H
   have H := H1
   clear H1
   obtain rfl := Option.some.inj H
   go_enter Try.func55, Try.ntmps55
   go_wp2_with (first | ((with_reducible refine gate_callee (f := 72) rfl ?_); refine goesL_ (some 8) rfl rfl Try.func72 (by kernel_rfl) rfl #[.int .i64 a0] rfl zm ?_; (with_reducible refine (cmp_isNaN_int64.calls a0 true _ A3.out).mono ?_); rintro e w' ⟨rfl, ⟨nd, rfl⟩⟩; refine ⟨_, rfl, ?_⟩) | ((with_reducible refine gate_callee (f := 72) rfl ?_); refine goesL_ (some 10) rfl rfl Try.func72 (by kernel_rfl) rfl #[.int .i64 a1] rfl zm ?_; (with_reducible refine (cmp_isNaN_int64.calls a1 true _ A4.out).mono ?_); rintro e w' ⟨rfl, ⟨nd, rfl⟩⟩; refine ⟨_, rfl, ?_⟩))
   go_ret
   exact ⟨by first | rfl | (simp; done) | (simp [*]; done), by repeat (first | exact Drawn0.refl _ | apply Drawn0.step)⟩
  replace c6 := Bool.eq_false_iff.mpr c6
  subst c6
  have H1 : (some (-1)) = some r := by rw [if_neg (show ¬ (false = true) by decide)] at H; exact H
  clear H
  have H := H1
  clear H1
  obtain rfl := Option.some.inj H
  go_enter Try.func55, Try.ntmps55
  go_wp2_with (first | ((with_reducible refine gate_callee (f := 72) rfl ?_); refine goesL_ (some 8) rfl rfl Try.func72 (by kernel_rfl) rfl #[.int .i64 a0] rfl zm ?_; (with_reducible refine (cmp_isNaN_int64.calls a0 true _ A3.out).mono ?_); rintro e w' ⟨rfl, ⟨nd, rfl⟩⟩; refine ⟨_, rfl, ?_⟩) | ((with_reducible refine gate_callee (f := 72) rfl ?_); refine goesL_ (some 10) rfl rfl Try.func72 (by kernel_rfl) rfl #[.int .i64 a1] rfl zm ?_; (with_reducible refine (cmp_isNaN_int64.calls a1 false _ A4.out).mono ?_); rintro e w' ⟨rfl, ⟨nd, rfl⟩⟩; refine ⟨_, rfl, ?_⟩))
  go_ret
  exact ⟨by first | rfl | (simp; done) | (simp [*]; done), by repeat (first | exact Drawn0.refl _ | apply Drawn0.step)⟩
 replace c5 := Bool.eq_false_iff.mpr c5
 subst c5
 have H1 : (if t359 = true then (some 1) else (if a0 < a1 then (some (-1)) else (if a0 > a1 then (some 1) else (some 0)))) = some r := by rw [if_neg (show ¬ (false = true) by decide)] at H; exact H
 clear H
 have H := H1
 clear H1
 by_cases c7 : t359 = true
 ·subst c7
  have H1 : (some 1) = some r := by rw [if_pos rfl] at H; exact H
  clear H
  have H := H1
  clear H1
  obtain rfl := Option.some.inj H
  go_enter Try.func55, Try.ntmps55
  go_wp2_with (first | ((with_reducible refine gate_callee (f := 72) rfl ?_); refine goesL_ (some 8) rfl rfl Try.func72 (by kernel_rfl) rfl #[.int .i64 a0] rfl zm ?_; (with_reducible refine (cmp_isNaN_int64.calls a0 false _ A3.out).mono ?_); rintro e w' ⟨rfl, ⟨nd, rfl⟩⟩; refine ⟨_, rfl, ?_⟩) | ((with_reducible refine gate_callee (f := 72) rfl ?_); refine goesL_ (some 10) rfl rfl Try.func72 (by kernel_rfl) rfl #[.int .i64 a1] rfl zm ?_; (with_reducible refine (cmp_isNaN_int64.calls a1 true _ A4.out).mono ?_); rintro e w' ⟨rfl, ⟨nd, rfl⟩⟩; refine ⟨_, rfl, ?_⟩))
  go_ret
  exact ⟨by first | rfl | (simp; done) | (simp [*]; done), by repeat (first | exact Drawn0.refl _ | apply Drawn0.step)⟩
 replace c7 := Bool.eq_false_iff.mpr c7
 subst c7
 have H1 : (if a0 < a1 then (some (-1)) else (if a0 > a1 then (some 1) else (some 0))) = some r := by rw [if_neg (show ¬ (false = true) by decide)] at H; exact H
 clear H
 have H := H1
 clear H1
 by_cases c8 : a0 < a1
 ·rw [if_pos c8] at H
  have c8b0 : decide (a0 < a1) = true := decide_eq_true c8
  clear c8
  obtain rfl := Option.some.inj H
  go_enter Try.func55, Try.ntmps55
  go_wp2_with (first | ((with_reducible refine gate_callee (f := 72) rfl ?_); refine goesL_ (some 8) rfl rfl Try.func72 (by kernel_rfl) rfl #[.int .i64 a0] rfl zm ?_; (with_reducible refine (cmp_isNaN_int64.calls a0 false _ A3.out).mono ?_); rintro e w' ⟨rfl, ⟨nd, rfl⟩⟩; refine ⟨_, rfl, ?_⟩) | ((with_reducible refine gate_callee (f := 72) rfl ?_); refine goesL_ (some 10) rfl rfl Try.func72 (by kernel_rfl) rfl #[.int .i64 a1] rfl zm ?_; (with_reducible refine (cmp_isNaN_int64.calls a1 false _ A4.out).mono ?_); rintro e w' ⟨rfl, ⟨nd, rfl⟩⟩; refine ⟨_, rfl, ?_⟩))
  go_ret
  exact ⟨by first | rfl | (simp; done) | (simp [*]; done), by repeat (first | exact Drawn0.refl _ | apply Drawn0.step)⟩
 rw [if_neg c8] at H
 have c8b0 : decide (a0 < a1) = false := decide_eq_false c8
 clear c8
 by_cases c9 : a0 > a1
 ·rw [if_pos c9] at H
  have c9b0 : decide (a1 < a0) = true := decide_eq_true c9
  clear c9
  obtain rfl := Option.some.inj H
  go_enter Try.func55, Try.ntmps55
  go_wp2_with (first | ((with_reducible refine gate_callee (f := 72) rfl ?_); refine goesL_ (some 8) rfl rfl Try.func72 (by kernel_rfl) rfl #[.int .i64 a0] rfl zm ?_; (with_reducible refine (cmp_isNaN_int64.calls a0 false _ A3.out).mono ?_); rintro e w' ⟨rfl, ⟨nd, rfl⟩⟩; refine ⟨_, rfl, ?_⟩) | ((with_reducible refine gate_callee (f := 72) rfl ?_); refine goesL_ (some 10) rfl rfl Try.func72 (by kernel_rfl) rfl #[.int .i64 a1] rfl zm ?_; (with_reducible refine (cmp_isNaN_int64.calls a1 false _ A4.out).mono ?_); rintro e w' ⟨rfl, ⟨nd, rfl⟩⟩; refine ⟨_, rfl, ?_⟩))
  go_ret
  exact ⟨by first | rfl | (simp; done) | (simp [*]; done), by repeat (first | exact Drawn0.refl _ | apply Drawn0.step)⟩
 rw [if_neg c9] at H
 have c9b0 : decide (a1 < a0) = false := decide_eq_false c9
 clear c9
 obtain rfl := Option.some.inj H
 go_enter Try.func55, Try.ntmps55
 go_wp2_with (first | ((with_reducible refine gate_callee (f := 72) rfl ?_); refine goesL_ (some 8) rfl rfl Try.func72 (by kernel_rfl) rfl #[.int .i64 a0] rfl zm ?_; (with_reducible refine (cmp_isNaN_int64.calls a0 false _ A3.out).mono ?_); rintro e w' ⟨rfl, ⟨nd, rfl⟩⟩; refine ⟨_, rfl, ?_⟩) | ((with_reducible refine gate_callee (f := 72) rfl ?_); refine goesL_ (some 10) rfl rfl Try.func72 (by kernel_rfl) rfl #[.int .i64 a1] rfl zm ?_; (with_reducible refine (cmp_isNaN_int64.calls a1 false _ A4.out).mono ?_); rintro e w' ⟨rfl, ⟨nd, rfl⟩⟩; refine ⟨_, rfl, ?_⟩))
 go_ret
 exact ⟨by first | rfl | (simp; done) | (simp [*]; done), by repeat (first | exact Drawn0.refl _ | apply Drawn0.step)⟩
def impl_compareCells.f (a0_0 : Int) (a0_1 : Int) (a1_0 : Int) (a1_1 : Int) : Option (Int) := (cmp_Compare_int64.f a0_1 a1_1).bind fun t362 => (if t362 = 0 then ((cmp_Compare_int64.f a0_0 a1_0).bind fun t363 => (some t363)) else (some t362))
theorem impl_compareCells.calls (a0_0 : Int) (a0_1 : Int) (a1_0 : Int) (a1_1 : Int) (r : Int) (w : World) (h : impl_compareCells.f a0_0 a0_1 a1_0 a1_1 = some r) :
  Calls Try.prog 56 #[.agg #[.int .i64 a0_0, .int .i64 a0_1], .agg #[.int .i64 a1_0, .int .i64 a1_1]] w fun e w' => e = .returned (.int .i64 r) ∧ Below w.heap.size w w' := by
 have hu73 := Try.underlying73
 have HB := aM (Below.refl w.heap.size w)
 have H : ((cmp_Compare_int64.f a0_1 a1_1).bind fun t362 => (if t362 = 0 then ((cmp_Compare_int64.f a0_0 a1_0).bind fun t363 => (some t363)) else (some t362))) = some r := h
 clear h
 replace H := Option.bind_eq_some_iff.mp H
 obtain ⟨t362, A30, H⟩ := H
 replace H : (if t362 = 0 then ((cmp_Compare_int64.f a0_0 a1_0).bind fun t363 => (some t363)) else (some t362)) = some r := H
 have A3 := aM A30
 clear A30
 by_cases c4 : t362 = 0
 rotate_left
 ·rw [if_neg c4] at H
  have c4b0 : (t362 == 0) = false := beq_eq_false_iff_ne.mpr c4
  have c4b1 : (t362 != 0) = true := bne_iff_ne.mpr c4
  obtain rfl := Option.some.inj H
  go_enter Try.func56, Try.ntmps56
  go_wp2_with (first | ((with_reducible refine gate_dst (N := 2) rfl ?_); refine zx 2 #[.int .i64 a0_0, .int .i64 a0_1] 73 ?_; intro gb360 hg w11 hbox hb; have n0_ := aM (below_step zb hb); have n1_ := aM (hbox); have n2_ := aM ((ze : w.heap.size ≤ gb360)); have n3_ := aM ((ze : w.heap.size ≤ gb360)); clear HB; have HB := n0_; have BK360 := n1_; have GW360 := n2_; have GE360 := n3_; clear n0_ n1_ n2_ n3_; clear hb hbox hg) | ((with_reducible refine gate_dst (N := 3) rfl ?_); refine zx 3 #[.int .i64 a1_0, .int .i64 a1_1] 73 ?_; intro gb361 hg w12 hbox hb; have n0_ := aM (blk_below (g := gb360) (o := .cells #[.int .i64 a0_0, .int .i64 a0_1] 73 (0, 0)) (mB_ BK360.out) hb); have n1_ := aM (below_step (zs GE360.out) hb); have n2_ := aM (hbox); have n3_ := aM ((zf GE360.out : w.heap.size ≤ gb361)); have n4_ := aM ((zf GE360.out : w.heap.size ≤ gb361)); have n5_ := aM ((zl BK360.out : gb360 ≠ gb361)); have n6_ := aM ((zn BK360.out : gb361 ≠ gb360)); clear BK360 HB; have BK360 := n0_; have HB := n1_; have BK361 := n2_; have GW361 := n3_; have GE361 := n4_; have NB360_361 := n5_; have NB361_360 := n6_; clear n0_ n1_ n2_ n3_ n4_ n5_ n6_ hb hbox hg; have hnb13 := NB360_361.out; have hnc13 := NB361_360.out; have hcz14_0 : w12.cell? ⟨gb360, 0, none⟩ = some (.int .i64 a0_0) := (blk_cell BK360.out 0).trans rfl; have hcz14_1 : w12.cell? ⟨gb360, 1, none⟩ = some (.int .i64 a0_1) := (blk_cell BK360.out 1).trans rfl; have hfz14_0 := blk_frozen BK360.out 0; have hfz14_1 := blk_frozen BK360.out 1; have hcz15_0 : w12.cell? ⟨gb361, 0, none⟩ = some (.int .i64 a1_0) := (blk_cell BK361.out 0).trans rfl; have hcz15_1 : w12.cell? ⟨gb361, 1, none⟩ = some (.int .i64 a1_1) := (blk_cell BK361.out 1).trans rfl; have hfz15_0 := blk_frozen BK361.out 0; have hfz15_1 := blk_frozen BK361.out 1) | ((with_reducible refine gate_callee (f := 55) rfl ?_); refine goesL_ (some 10) rfl rfl Try.func55 (by kernel_rfl) rfl #[.int .i64 a0_1, .int .i64 a1_1] rfl zm ?_; (with_reducible refine (cmp_Compare_int64.calls a0_1 a1_1 t362 _ A3.out).mono ?_); rintro e w' ⟨rfl, ⟨nd, rfl⟩⟩; refine ⟨_, rfl, ?_⟩))
  go_ret
  exact ⟨zw, zt GE360.out GE361.out⟩
 rw [if_pos c4] at H
 have c4b0 : (t362 == 0) = true := beq_iff_eq.mpr c4
 have c4b1 : (t362 != 0) = false := bne_eq_false_iff_eq.mpr c4
 clear c4
 replace H := Option.bind_eq_some_iff.mp H
 obtain ⟨t363, A50, H⟩ := H
 replace H : (some t363) = some r := H
 have A5 := aM A50
 clear A50
 obtain rfl := Option.some.inj H
 go_enter Try.func56, Try.ntmps56
 go_wp2_with (first | ((with_reducible refine gate_dst (N := 2) rfl ?_); refine zx 2 #[.int .i64 a0_0, .int .i64 a0_1] 73 ?_; intro gb360 hg w6 hbox hb; have n0_ := aM (below_step zb hb); have n1_ := aM (hbox); have n2_ := aM ((ze : w.heap.size ≤ gb360)); have n3_ := aM ((ze : w.heap.size ≤ gb360)); clear HB; have HB := n0_; have BK360 := n1_; have GW360 := n2_; have GE360 := n3_; clear n0_ n1_ n2_ n3_; clear hb hbox hg) | ((with_reducible refine gate_dst (N := 3) rfl ?_); refine zx 3 #[.int .i64 a1_0, .int .i64 a1_1] 73 ?_; intro gb361 hg w7 hbox hb; have n0_ := aM (blk_below (g := gb360) (o := .cells #[.int .i64 a0_0, .int .i64 a0_1] 73 (0, 0)) (mB_ BK360.out) hb); have n1_ := aM (below_step (zs GE360.out) hb); have n2_ := aM (hbox); have n3_ := aM ((zf GE360.out : w.heap.size ≤ gb361)); have n4_ := aM ((zf GE360.out : w.heap.size ≤ gb361)); have n5_ := aM ((zl BK360.out : gb360 ≠ gb361)); have n6_ := aM ((zn BK360.out : gb361 ≠ gb360)); clear BK360 HB; have BK360 := n0_; have HB := n1_; have BK361 := n2_; have GW361 := n3_; have GE361 := n4_; have NB360_361 := n5_; have NB361_360 := n6_; clear n0_ n1_ n2_ n3_ n4_ n5_ n6_ hb hbox hg; have hnb8 := NB360_361.out; have hnc8 := NB361_360.out; have hcz9_0 : w7.cell? ⟨gb360, 0, none⟩ = some (.int .i64 a0_0) := (blk_cell BK360.out 0).trans rfl; have hcz9_1 : w7.cell? ⟨gb360, 1, none⟩ = some (.int .i64 a0_1) := (blk_cell BK360.out 1).trans rfl; have hfz9_0 := blk_frozen BK360.out 0; have hfz9_1 := blk_frozen BK360.out 1; have hcz10_0 : w7.cell? ⟨gb361, 0, none⟩ = some (.int .i64 a1_0) := (blk_cell BK361.out 0).trans rfl; have hcz10_1 : w7.cell? ⟨gb361, 1, none⟩ = some (.int .i64 a1_1) := (blk_cell BK361.out 1).trans rfl; have hfz10_0 := blk_frozen BK361.out 0; have hfz10_1 := blk_frozen BK361.out 1) | ((with_reducible refine gate_callee (f := 55) rfl ?_); refine goesL_ (some 10) rfl rfl Try.func55 (by kernel_rfl) rfl #[.int .i64 a0_1, .int .i64 a1_1] rfl zm ?_; (with_reducible refine (cmp_Compare_int64.calls a0_1 a1_1 t362 _ A3.out).mono ?_); rintro e w' ⟨rfl, ⟨nd, rfl⟩⟩; refine ⟨_, rfl, ?_⟩) | ((with_reducible refine gate_callee (f := 55) rfl ?_); refine goesL_ (some 18) rfl rfl Try.func55 (by kernel_rfl) rfl #[.int .i64 a0_0, .int .i64 a1_0] rfl zm ?_; (with_reducible refine (cmp_Compare_int64.calls a0_0 a1_0 t363 _ A5.out).mono ?_); rintro e w' ⟨rfl, ⟨nd, rfl⟩⟩; refine ⟨_, rfl, ?_⟩))
 go_ret
 exact ⟨zw, zt GE360.out GE361.out⟩
theorem impl_compareCells.callsG (a0_0 : Int) (a0_1 : Int) (a1_0 : Int) (a1_1 : Int) (r : Int) (w : World) (h : impl_compareCells.f a0_0 a0_1 a1_0 a1_1 = some r) :
  Calls Try.prog 56 #[.agg #[.int .i64 a0_0, .int .i64 a0_1], .agg #[.int .i64 a1_0, .int .i64 a1_1]] w fun e w' => e = .returned (.int .i64 r) ∧ BelG w.heap.size w w' := by
 have hu73 := Try.underlying73
 have HB := aM (BelG.refl w.heap.size w)
 have H : ((cmp_Compare_int64.f a0_1 a1_1).bind fun t362 => (if t362 = 0 then ((cmp_Compare_int64.f a0_0 a1_0).bind fun t363 => (some t363)) else (some t362))) = some r := h
 clear h
 replace H := Option.bind_eq_some_iff.mp H
 obtain ⟨t362, A30, H⟩ := H
 replace H : (if t362 = 0 then ((cmp_Compare_int64.f a0_0 a1_0).bind fun t363 => (some t363)) else (some t362)) = some r := H
 have A3 := aM A30
 clear A30
 by_cases c4 : t362 = 0
 rotate_left
 ·rw [if_neg c4] at H
  have c4b0 : (t362 == 0) = false := beq_eq_false_iff_ne.mpr c4
  have c4b1 : (t362 != 0) = true := bne_iff_ne.mpr c4
  obtain rfl := Option.some.inj H
  go_enter Try.func56, Try.ntmps56
  go_wp2_with (first | ((with_reducible refine gate_dst (N := 2) rfl ?_); refine box_eventD ?hg (N := 2) ?hd (cs := #[.int .i64 a0_0, .int .i64 a0_1]) (t := 73) ?hr ?_; (case hd => rfl); (case hg => rfl); (case hr => first | (go_simp; done) | (go_simp; rfl)); intro gb360 hg w11 hbox hb; have n0_ := aM (belG_step zg hb); have n1_ := aM (hbox); have n2_ := aM ((zi : w.heap.size ≤ gb360)); have n3_ := aM ((zi : w.heap.size ≤ gb360)); clear HB; have HB := n0_; have BK360 := n1_; have GW360 := n2_; have GE360 := n3_; clear n0_ n1_ n2_ n3_; clear hb hbox hg) | ((with_reducible refine gate_dst (N := 3) rfl ?_); refine box_eventD ?hg (N := 3) ?hd (cs := #[.int .i64 a1_0, .int .i64 a1_1]) (t := 73) ?hr ?_; (case hd => rfl); (case hg => rfl); (case hr => first | (go_simp; done) | (go_simp; rfl)); intro gb361 hg w12 hbox hb; have n0_ := aM (blk_belG (g := gb360) (o := .cells #[.int .i64 a0_0, .int .i64 a0_1] 73 (0, 0)) (mB_ BK360.out) hb); have n1_ := aM (belG_step (zh GE360.out) hb); have n2_ := aM (hbox); have n3_ := aM ((zj GE360.out : w.heap.size ≤ gb361)); have n4_ := aM ((zj GE360.out : w.heap.size ≤ gb361)); have n5_ := aM ((zl BK360.out : gb360 ≠ gb361)); have n6_ := aM ((zn BK360.out : gb361 ≠ gb360)); clear BK360 HB; have BK360 := n0_; have HB := n1_; have BK361 := n2_; have GW361 := n3_; have GE361 := n4_; have NB360_361 := n5_; have NB361_360 := n6_; clear n0_ n1_ n2_ n3_ n4_ n5_ n6_ hb hbox hg; have hnb13 := NB360_361.out; have hnc13 := NB361_360.out; have hcz14_0 : w12.cell? ⟨gb360, 0, none⟩ = some (.int .i64 a0_0) := (blk_cell BK360.out 0).trans rfl; have hcz14_1 : w12.cell? ⟨gb360, 1, none⟩ = some (.int .i64 a0_1) := (blk_cell BK360.out 1).trans rfl; have hfz14_0 := blk_frozen BK360.out 0; have hfz14_1 := blk_frozen BK360.out 1; have hcz15_0 : w12.cell? ⟨gb361, 0, none⟩ = some (.int .i64 a1_0) := (blk_cell BK361.out 0).trans rfl; have hcz15_1 : w12.cell? ⟨gb361, 1, none⟩ = some (.int .i64 a1_1) := (blk_cell BK361.out 1).trans rfl; have hfz15_0 := blk_frozen BK361.out 0; have hfz15_1 := blk_frozen BK361.out 1) | ((with_reducible refine gate_callee (f := 55) rfl ?_); refine goesL_ (some 10) rfl rfl Try.func55 (by kernel_rfl) rfl #[.int .i64 a0_1, .int .i64 a1_1] rfl zm ?_; (with_reducible refine (cmp_Compare_int64.calls a0_1 a1_1 t362 _ A3.out).mono ?_); rintro e w' ⟨rfl, ⟨nd, rfl⟩⟩; refine ⟨_, rfl, ?_⟩))
  go_ret
  exact ⟨zw, by repeat (first | (with_reducible first | exact HB.out | apply belG_alloc | apply pw_belG_drewN | apply belG_drew1 | refine belG_set ?_ GE360.out | refine belG_set ?_ GE361.out) | exact HB.out)⟩
 rw [if_pos c4] at H
 have c4b0 : (t362 == 0) = true := beq_iff_eq.mpr c4
 have c4b1 : (t362 != 0) = false := bne_eq_false_iff_eq.mpr c4
 clear c4
 replace H := Option.bind_eq_some_iff.mp H
 obtain ⟨t363, A50, H⟩ := H
 replace H : (some t363) = some r := H
 have A5 := aM A50
 clear A50
 obtain rfl := Option.some.inj H
 go_enter Try.func56, Try.ntmps56
 go_wp2_with (first | ((with_reducible refine gate_dst (N := 2) rfl ?_); refine box_eventD ?hg (N := 2) ?hd (cs := #[.int .i64 a0_0, .int .i64 a0_1]) (t := 73) ?hr ?_; (case hd => rfl); (case hg => rfl); (case hr => first | (go_simp; done) | (go_simp; rfl)); intro gb360 hg w6 hbox hb; have n0_ := aM (belG_step zg hb); have n1_ := aM (hbox); have n2_ := aM ((zi : w.heap.size ≤ gb360)); have n3_ := aM ((zi : w.heap.size ≤ gb360)); clear HB; have HB := n0_; have BK360 := n1_; have GW360 := n2_; have GE360 := n3_; clear n0_ n1_ n2_ n3_; clear hb hbox hg) | ((with_reducible refine gate_dst (N := 3) rfl ?_); refine box_eventD ?hg (N := 3) ?hd (cs := #[.int .i64 a1_0, .int .i64 a1_1]) (t := 73) ?hr ?_; (case hd => rfl); (case hg => rfl); (case hr => first | (go_simp; done) | (go_simp; rfl)); intro gb361 hg w7 hbox hb; have n0_ := aM (blk_belG (g := gb360) (o := .cells #[.int .i64 a0_0, .int .i64 a0_1] 73 (0, 0)) (mB_ BK360.out) hb); have n1_ := aM (belG_step (zh GE360.out) hb); have n2_ := aM (hbox); have n3_ := aM ((zj GE360.out : w.heap.size ≤ gb361)); have n4_ := aM ((zj GE360.out : w.heap.size ≤ gb361)); have n5_ := aM ((zl BK360.out : gb360 ≠ gb361)); have n6_ := aM ((zn BK360.out : gb361 ≠ gb360)); clear BK360 HB; have BK360 := n0_; have HB := n1_; have BK361 := n2_; have GW361 := n3_; have GE361 := n4_; have NB360_361 := n5_; have NB361_360 := n6_; clear n0_ n1_ n2_ n3_ n4_ n5_ n6_ hb hbox hg; have hnb8 := NB360_361.out; have hnc8 := NB361_360.out; have hcz9_0 : w7.cell? ⟨gb360, 0, none⟩ = some (.int .i64 a0_0) := (blk_cell BK360.out 0).trans rfl; have hcz9_1 : w7.cell? ⟨gb360, 1, none⟩ = some (.int .i64 a0_1) := (blk_cell BK360.out 1).trans rfl; have hfz9_0 := blk_frozen BK360.out 0; have hfz9_1 := blk_frozen BK360.out 1; have hcz10_0 : w7.cell? ⟨gb361, 0, none⟩ = some (.int .i64 a1_0) := (blk_cell BK361.out 0).trans rfl; have hcz10_1 : w7.cell? ⟨gb361, 1, none⟩ = some (.int .i64 a1_1) := (blk_cell BK361.out 1).trans rfl; have hfz10_0 := blk_frozen BK361.out 0; have hfz10_1 := blk_frozen BK361.out 1) | ((with_reducible refine gate_callee (f := 55) rfl ?_); refine goesL_ (some 10) rfl rfl Try.func55 (by kernel_rfl) rfl #[.int .i64 a0_1, .int .i64 a1_1] rfl zm ?_; (with_reducible refine (cmp_Compare_int64.calls a0_1 a1_1 t362 _ A3.out).mono ?_); rintro e w' ⟨rfl, ⟨nd, rfl⟩⟩; refine ⟨_, rfl, ?_⟩) | ((with_reducible refine gate_callee (f := 55) rfl ?_); refine goesL_ (some 18) rfl rfl Try.func55 (by kernel_rfl) rfl #[.int .i64 a0_0, .int .i64 a1_0] rfl zm ?_; (with_reducible refine (cmp_Compare_int64.calls a0_0 a1_0 t363 _ A5.out).mono ?_); rintro e w' ⟨rfl, ⟨nd, rfl⟩⟩; refine ⟨_, rfl, ?_⟩))
 go_ret
 exact ⟨zw, by repeat (first | (with_reducible first | exact HB.out | apply belG_alloc | apply pw_belG_drewN | apply belG_drew1 | refine belG_set ?_ GE360.out | refine belG_set ?_ GE361.out) | exact HB.out)⟩
def impl_compareCubes.f (a0_0 : Int) (a0_1 : Int) (a0_2 : Int) (a1_0 : Int) (a1_1 : Int) (a1_2 : Int) : Option (Int) := (cmp_Compare_int64.f a0_2 a1_2).bind fun t366 => (if t366 = 0 then ((impl_compareCells.f a0_0 a0_1 a1_0 a1_1).bind fun t367 => (some t367)) else (some t366))
theorem impl_compareCubes.calls (a0_0 : Int) (a0_1 : Int) (a0_2 : Int) (a1_0 : Int) (a1_1 : Int) (a1_2 : Int) (r : Int) (w : World) (h : impl_compareCubes.f a0_0 a0_1 a0_2 a1_0 a1_1 a1_2 = some r) :
  Calls Try.prog 38 #[.agg #[.int .i64 a0_0, .int .i64 a0_1, .int .i64 a0_2], .agg #[.int .i64 a1_0, .int .i64 a1_1, .int .i64 a1_2]] w fun e w' => e = .returned (.int .i64 r) ∧ Below w.heap.size w w' := by
 have hu43 := Try.underlying43
 have hu73 := Try.underlying73
 have HB := aM (Below.refl w.heap.size w)
 have H : ((cmp_Compare_int64.f a0_2 a1_2).bind fun t366 => (if t366 = 0 then ((impl_compareCells.f a0_0 a0_1 a1_0 a1_1).bind fun t367 => (some t367)) else (some t366))) = some r := h
 clear h
 replace H := Option.bind_eq_some_iff.mp H
 obtain ⟨t366, A30, H⟩ := H
 replace H : (if t366 = 0 then ((impl_compareCells.f a0_0 a0_1 a1_0 a1_1).bind fun t367 => (some t367)) else (some t366)) = some r := H
 have A3 := aM A30
 clear A30
 by_cases c4 : t366 = 0
 rotate_left
 ·rw [if_neg c4] at H
  have c4b0 : (t366 == 0) = false := beq_eq_false_iff_ne.mpr c4
  have c4b1 : (t366 != 0) = true := bne_iff_ne.mpr c4
  obtain rfl := Option.some.inj H
  go_enter Try.func38, Try.ntmps38
  go_wp2_with (first | ((with_reducible refine gate_dst (N := 2) rfl ?_); refine zx 2 #[.int .i64 a0_0, .int .i64 a0_1, .int .i64 a0_2] 43 ?_; intro gb364 hg w12 hbox hb; have n0_ := aM (below_step zb hb); have n1_ := aM (hbox); have n2_ := aM ((ze : w.heap.size ≤ gb364)); have n3_ := aM ((ze : w.heap.size ≤ gb364)); clear HB; have HB := n0_; have BK364 := n1_; have GW364 := n2_; have GE364 := n3_; clear n0_ n1_ n2_ n3_; clear hb hbox hg) | ((with_reducible refine gate_dst (N := 3) rfl ?_); refine zx 3 #[.int .i64 a1_0, .int .i64 a1_1, .int .i64 a1_2] 43 ?_; intro gb365 hg w13 hbox hb; have n0_ := aM (blk_below (g := gb364) (o := .cells #[.int .i64 a0_0, .int .i64 a0_1, .int .i64 a0_2] 43 (0, 0)) (mB_ BK364.out) hb); have n1_ := aM (below_step (zs GE364.out) hb); have n2_ := aM (hbox); have n3_ := aM ((zf GE364.out : w.heap.size ≤ gb365)); have n4_ := aM ((zf GE364.out : w.heap.size ≤ gb365)); have n5_ := aM ((zl BK364.out : gb364 ≠ gb365)); have n6_ := aM ((zn BK364.out : gb365 ≠ gb364)); clear BK364 HB; have BK364 := n0_; have HB := n1_; have BK365 := n2_; have GW365 := n3_; have GE365 := n4_; have NB364_365 := n5_; have NB365_364 := n6_; clear n0_ n1_ n2_ n3_ n4_ n5_ n6_ hb hbox hg; have hnb14 := NB364_365.out; have hnc14 := NB365_364.out; have hcz15_0 : w13.cell? ⟨gb364, 0, none⟩ = some (.int .i64 a0_0) := (blk_cell BK364.out 0).trans rfl; have hcz15_1 : w13.cell? ⟨gb364, 1, none⟩ = some (.int .i64 a0_1) := (blk_cell BK364.out 1).trans rfl; have hcz15_2 : w13.cell? ⟨gb364, 2, none⟩ = some (.int .i64 a0_2) := (blk_cell BK364.out 2).trans rfl; have hfz15_0 := blk_frozen BK364.out 0; have hfz15_1 := blk_frozen BK364.out 1; have hfz15_2 := blk_frozen BK364.out 2; have hcz16_0 : w13.cell? ⟨gb365, 0, none⟩ = some (.int .i64 a1_0) := (blk_cell BK365.out 0).trans rfl; have hcz16_1 : w13.cell? ⟨gb365, 1, none⟩ = some (.int .i64 a1_1) := (blk_cell BK365.out 1).trans rfl; have hcz16_2 : w13.cell? ⟨gb365, 2, none⟩ = some (.int .i64 a1_2) := (blk_cell BK365.out 2).trans rfl; have hfz16_0 := blk_frozen BK365.out 0; have hfz16_1 := blk_frozen BK365.out 1; have hfz16_2 := blk_frozen BK365.out 2) | ((with_reducible refine gate_callee (f := 55) rfl ?_); refine goesL_ (some 10) rfl rfl Try.func55 (by kernel_rfl) rfl #[.int .i64 a0_2, .int .i64 a1_2] rfl zm ?_; (with_reducible refine (cmp_Compare_int64.calls a0_2 a1_2 t366 _ A3.out).mono ?_); rintro e w' ⟨rfl, ⟨nd, rfl⟩⟩; refine ⟨_, rfl, ?_⟩))
  go_ret
  exact ⟨zw, zt GE364.out GE365.out⟩
 rw [if_pos c4] at H
 have c4b0 : (t366 == 0) = true := beq_iff_eq.mpr c4
 have c4b1 : (t366 != 0) = false := bne_eq_false_iff_eq.mpr c4
 clear c4
 replace H := Option.bind_eq_some_iff.mp H
 obtain ⟨t367, A50, H⟩ := H
 replace H : (some t367) = some r := H
 have A5 := aM A50
 clear A50
 obtain rfl := Option.some.inj H
 go_enter Try.func38, Try.ntmps38
 go_wp2_with (first | ((with_reducible refine gate_dst (N := 2) rfl ?_); refine zx 2 #[.int .i64 a0_0, .int .i64 a0_1, .int .i64 a0_2] 43 ?_; intro gb364 hg w6 hbox hb; have n0_ := aM (below_step zb hb); have n1_ := aM (hbox); have n2_ := aM ((ze : w.heap.size ≤ gb364)); have n3_ := aM ((ze : w.heap.size ≤ gb364)); clear HB; have HB := n0_; have BK364 := n1_; have GW364 := n2_; have GE364 := n3_; clear n0_ n1_ n2_ n3_; clear hb hbox hg) | ((with_reducible refine gate_dst (N := 3) rfl ?_); refine zx 3 #[.int .i64 a1_0, .int .i64 a1_1, .int .i64 a1_2] 43 ?_; intro gb365 hg w7 hbox hb; have n0_ := aM (blk_below (g := gb364) (o := .cells #[.int .i64 a0_0, .int .i64 a0_1, .int .i64 a0_2] 43 (0, 0)) (mB_ BK364.out) hb); have n1_ := aM (below_step (zs GE364.out) hb); have n2_ := aM (hbox); have n3_ := aM ((zf GE364.out : w.heap.size ≤ gb365)); have n4_ := aM ((zf GE364.out : w.heap.size ≤ gb365)); have n5_ := aM ((zl BK364.out : gb364 ≠ gb365)); have n6_ := aM ((zn BK364.out : gb365 ≠ gb364)); clear BK364 HB; have BK364 := n0_; have HB := n1_; have BK365 := n2_; have GW365 := n3_; have GE365 := n4_; have NB364_365 := n5_; have NB365_364 := n6_; clear n0_ n1_ n2_ n3_ n4_ n5_ n6_ hb hbox hg; have hnb8 := NB364_365.out; have hnc8 := NB365_364.out; have hcz9_0 : w7.cell? ⟨gb364, 0, none⟩ = some (.int .i64 a0_0) := (blk_cell BK364.out 0).trans rfl; have hcz9_1 : w7.cell? ⟨gb364, 1, none⟩ = some (.int .i64 a0_1) := (blk_cell BK364.out 1).trans rfl; have hcz9_2 : w7.cell? ⟨gb364, 2, none⟩ = some (.int .i64 a0_2) := (blk_cell BK364.out 2).trans rfl; have hfz9_0 := blk_frozen BK364.out 0; have hfz9_1 := blk_frozen BK364.out 1; have hfz9_2 := blk_frozen BK364.out 2; have hcz10_0 : w7.cell? ⟨gb365, 0, none⟩ = some (.int .i64 a1_0) := (blk_cell BK365.out 0).trans rfl; have hcz10_1 : w7.cell? ⟨gb365, 1, none⟩ = some (.int .i64 a1_1) := (blk_cell BK365.out 1).trans rfl; have hcz10_2 : w7.cell? ⟨gb365, 2, none⟩ = some (.int .i64 a1_2) := (blk_cell BK365.out 2).trans rfl; have hfz10_0 := blk_frozen BK365.out 0; have hfz10_1 := blk_frozen BK365.out 1; have hfz10_2 := blk_frozen BK365.out 2) | ((with_reducible refine gate_callee (f := 55) rfl ?_); refine goesL_ (some 10) rfl rfl Try.func55 (by kernel_rfl) rfl #[.int .i64 a0_2, .int .i64 a1_2] rfl zm ?_; (with_reducible refine (cmp_Compare_int64.calls a0_2 a1_2 t366 _ A3.out).mono ?_); rintro e w' ⟨rfl, ⟨nd, rfl⟩⟩; refine ⟨_, rfl, ?_⟩) | ((with_reducible refine gate_callee (f := 56) rfl ?_); refine goesL_ (some 24) rfl rfl Try.func56 (by kernel_rfl) rfl #[.agg #[.int .i64 a0_0, .int .i64 a0_1], .agg #[.int .i64 a1_0, .int .i64 a1_1]] rfl zm ?_; (with_reducible refine (impl_compareCells.calls a0_0 a0_1 a1_0 a1_1 t367 _ A5.out).mono ?_); rintro e w11 ⟨rfl, hb⟩; refine ⟨_, rfl, ?_⟩; have n0_ := aM (blk_below (g := gb364) (o := .cells #[.int .i64 a0_0, .int .i64 a0_1, .int .i64 a0_2] 43 (0, 0)) (mB_ BK364.out) hb); have n1_ := aM (blk_below (g := gb365) (o := .cells #[.int .i64 a1_0, .int .i64 a1_1, .int .i64 a1_2] 43 (0, 0)) (mB_ BK365.out) hb); have n2_ := aM (below_step (zt GE364.out GE365.out) hb); clear BK364 BK365 HB; have BK364 := n0_; have BK365 := n1_; have HB := n2_; clear n0_ n1_ n2_; (try clear hb); (try clear hb2); (try clear hk); (try clear hi)))
 go_ret
 exact ⟨zw, zt GE364.out GE365.out⟩
end Go.Proofs.Ytlompfboheiliaa.F
end
