/- The row of FnTriangles, with what it needs: text 8 of 13. -/
import Derived.Test.YtlnliahadgmbcaaGreatKFT6
set_option maxHeartbeats 8000000
set_option maxRecDepth 100000
section
namespace Go.Proofs.YtlnliahadgmbcaaGreat.F
open Go.RowKit Go.Proofs.YtlnliahadgmbcaaGreatW.PrintWords Go.Proofs.YtlnliahadgmbcaaGreatW.PrintLast Go.Proofs.YtlnliahadgmbcaaGreatW.PrintMore
attribute [local go_sem] max2_int min2_int max_two min_two max_three min_three max_four min_four
set_option linter.unusedVariables false
set_option linter.unusedSimpArgs false
attribute [local go_sem high] eqA25
theorem spec_l02Less.calls (a0_0 : Int) (a0_1 : Int) (a1_0 : Int) (a1_1 : Int) (r : Bool) (w : World) (h : spec_l02Less.f a0_0 a0_1 a1_0 a1_1 = some r) :
  Calls Tryz.prog 57 #[.agg #[.int .i64 a0_0, .int .i64 a0_1], .agg #[.int .i64 a1_0, .int .i64 a1_1]] w fun e w' => e = .returned (.bool r) ∧ Below w.heap.size w w' := by
 have hu25 := Tryz.underlying25
 have HB := aM (Below.refl w.heap.size w)
 have H : (if a0_1 < a1_1 then (some true) else (if a0_1 = a1_1 then (some (decide (a0_0 < a1_0))) else (some false))) = some r := h
 clear h
 by_cases c3 : a0_1 < a1_1
 ·rw [if_pos c3] at H
  have c3b0 : decide (a0_1 < a1_1) = true := decide_eq_true c3
  clear c3
  obtain rfl := Option.some.inj H
  go_enter Tryz.func57, Tryz.ntmps57
  go_wp2_with (first | ((with_reducible refine gate_dst (N := 2) rfl ?_); refine box_event ?hg (N := 2) ?hd (cs := #[.int .i64 a0_0, .int .i64 a0_1]) (t := 25) ?hr ?_; (case hd => rfl); (case hg => rfl); (case hr => first | (go_simp; done) | (go_simp; rfl)); intro gb376 hg w4 hbox hb; have n0_ := aM (below_step zb hb); have n1_ := aM (hbox); have n2_ := aM ((ze : w.heap.size ≤ gb376)); have n3_ := aM ((ze : w.heap.size ≤ gb376)); clear HB; have HB := n0_; have BK376 := n1_; have GW376 := n2_; have GE376 := n3_; clear n0_ n1_ n2_ n3_; clear hb hbox hg) | ((with_reducible refine gate_dst (N := 3) rfl ?_); refine box_event ?hg (N := 3) ?hd (cs := #[.int .i64 a1_0, .int .i64 a1_1]) (t := 25) ?hr ?_; (case hd => rfl); (case hg => rfl); (case hr => first | (go_simp; done) | (go_simp; rfl)); intro gb377 hg w5 hbox hb; have n0_ := aM (blk_below (g := gb376) (o := .cells #[.int .i64 a0_0, .int .i64 a0_1] 25 (0, 0)) (mB_ BK376.out) hb); have n1_ := aM (below_step (zs GE376.out) hb); have n2_ := aM (hbox); have n3_ := aM ((zf GE376.out : w.heap.size ≤ gb377)); have n4_ := aM ((zf GE376.out : w.heap.size ≤ gb377)); have n5_ := aM ((zl BK376.out : gb376 ≠ gb377)); have n6_ := aM ((zn BK376.out : gb377 ≠ gb376)); clear BK376; clear HB; have BK376 := n0_; have HB := n1_; have BK377 := n2_; have GW377 := n3_; have GE377 := n4_; have NB376_377 := n5_; have NB377_376 := n6_; clear n0_ n1_ n2_ n3_ n4_ n5_ n6_; clear hb hbox hg; have hnb6 := NB376_377.out; have hnc6 := NB377_376.out; have hcz7_0 : w5.cell? ⟨gb376, 0, none⟩ = some (.int .i64 a0_0) := (blk_cell BK376.out 0).trans rfl; have hcz7_1 : w5.cell? ⟨gb376, 1, none⟩ = some (.int .i64 a0_1) := (blk_cell BK376.out 1).trans rfl; have hfz7_0 := blk_frozen BK376.out 0; have hfz7_1 := blk_frozen BK376.out 1; have hcz8_0 : w5.cell? ⟨gb377, 0, none⟩ = some (.int .i64 a1_0) := (blk_cell BK377.out 0).trans rfl; have hcz8_1 : w5.cell? ⟨gb377, 1, none⟩ = some (.int .i64 a1_1) := (blk_cell BK377.out 1).trans rfl; have hfz8_0 := blk_frozen BK377.out 0; have hfz8_1 := blk_frozen BK377.out 1))
  go_ret
  exact ⟨zw, zt GE376.out GE377.out⟩
 rw [if_neg c3] at H
 have c3b0 : decide (a0_1 < a1_1) = false := decide_eq_false c3
 clear c3
 by_cases c9 : a0_1 = a1_1
 rotate_left
 ·rw [if_neg c9] at H
  have c9b0 : (a0_1 == a1_1) = false := beq_eq_false_iff_ne.mpr c9
  have c9b1 : (a0_1 != a1_1) = true := bne_iff_ne.mpr c9
  obtain rfl := Option.some.inj H
  go_enter Tryz.func57, Tryz.ntmps57
  go_wp2_with (first | ((with_reducible refine gate_dst (N := 2) rfl ?_); refine box_event ?hg (N := 2) ?hd (cs := #[.int .i64 a0_0, .int .i64 a0_1]) (t := 25) ?hr ?_; (case hd => rfl); (case hg => rfl); (case hr => first | (go_simp; done) | (go_simp; rfl)); intro gb376 hg w15 hbox hb; have n0_ := aM (below_step zb hb); have n1_ := aM (hbox); have n2_ := aM ((ze : w.heap.size ≤ gb376)); have n3_ := aM ((ze : w.heap.size ≤ gb376)); clear HB; have HB := n0_; have BK376 := n1_; have GW376 := n2_; have GE376 := n3_; clear n0_ n1_ n2_ n3_; clear hb hbox hg) | ((with_reducible refine gate_dst (N := 3) rfl ?_); refine box_event ?hg (N := 3) ?hd (cs := #[.int .i64 a1_0, .int .i64 a1_1]) (t := 25) ?hr ?_; (case hd => rfl); (case hg => rfl); (case hr => first | (go_simp; done) | (go_simp; rfl)); intro gb377 hg w16 hbox hb; have n0_ := aM (blk_below (g := gb376) (o := .cells #[.int .i64 a0_0, .int .i64 a0_1] 25 (0, 0)) (mB_ BK376.out) hb); have n1_ := aM (below_step (zs GE376.out) hb); have n2_ := aM (hbox); have n3_ := aM ((zf GE376.out : w.heap.size ≤ gb377)); have n4_ := aM ((zf GE376.out : w.heap.size ≤ gb377)); have n5_ := aM ((zl BK376.out : gb376 ≠ gb377)); have n6_ := aM ((zn BK376.out : gb377 ≠ gb376)); clear BK376; clear HB; have BK376 := n0_; have HB := n1_; have BK377 := n2_; have GW377 := n3_; have GE377 := n4_; have NB376_377 := n5_; have NB377_376 := n6_; clear n0_ n1_ n2_ n3_ n4_ n5_ n6_; clear hb hbox hg; have hnb17 := NB376_377.out; have hnc17 := NB377_376.out; have hcz18_0 : w16.cell? ⟨gb376, 0, none⟩ = some (.int .i64 a0_0) := (blk_cell BK376.out 0).trans rfl; have hcz18_1 : w16.cell? ⟨gb376, 1, none⟩ = some (.int .i64 a0_1) := (blk_cell BK376.out 1).trans rfl; have hfz18_0 := blk_frozen BK376.out 0; have hfz18_1 := blk_frozen BK376.out 1; have hcz19_0 : w16.cell? ⟨gb377, 0, none⟩ = some (.int .i64 a1_0) := (blk_cell BK377.out 0).trans rfl; have hcz19_1 : w16.cell? ⟨gb377, 1, none⟩ = some (.int .i64 a1_1) := (blk_cell BK377.out 1).trans rfl; have hfz19_0 := blk_frozen BK377.out 0; have hfz19_1 := blk_frozen BK377.out 1))
  go_ret
  exact ⟨zw, zt GE376.out GE377.out⟩
 rw [if_pos c9] at H
 have c9b0 : (a0_1 == a1_1) = true := beq_iff_eq.mpr c9
 have c9b1 : (a0_1 != a1_1) = false := bne_eq_false_iff_eq.mpr c9
 clear c9
 obtain rfl := Option.some.inj H
 go_enter Tryz.func57, Tryz.ntmps57
 go_wp2_with (first | ((with_reducible refine gate_dst (N := 2) rfl ?_); refine box_event ?hg (N := 2) ?hd (cs := #[.int .i64 a0_0, .int .i64 a0_1]) (t := 25) ?hr ?_; (case hd => rfl); (case hg => rfl); (case hr => first | (go_simp; done) | (go_simp; rfl)); intro gb376 hg w10 hbox hb; have n0_ := aM (below_step zb hb); have n1_ := aM (hbox); have n2_ := aM ((ze : w.heap.size ≤ gb376)); have n3_ := aM ((ze : w.heap.size ≤ gb376)); clear HB; have HB := n0_; have BK376 := n1_; have GW376 := n2_; have GE376 := n3_; clear n0_ n1_ n2_ n3_; clear hb hbox hg) | ((with_reducible refine gate_dst (N := 3) rfl ?_); refine box_event ?hg (N := 3) ?hd (cs := #[.int .i64 a1_0, .int .i64 a1_1]) (t := 25) ?hr ?_; (case hd => rfl); (case hg => rfl); (case hr => first | (go_simp; done) | (go_simp; rfl)); intro gb377 hg w11 hbox hb; have n0_ := aM (blk_below (g := gb376) (o := .cells #[.int .i64 a0_0, .int .i64 a0_1] 25 (0, 0)) (mB_ BK376.out) hb); have n1_ := aM (below_step (zs GE376.out) hb); have n2_ := aM (hbox); have n3_ := aM ((zf GE376.out : w.heap.size ≤ gb377)); have n4_ := aM ((zf GE376.out : w.heap.size ≤ gb377)); have n5_ := aM ((zl BK376.out : gb376 ≠ gb377)); have n6_ := aM ((zn BK376.out : gb377 ≠ gb376)); clear BK376; clear HB; have BK376 := n0_; have HB := n1_; have BK377 := n2_; have GW377 := n3_; have GE377 := n4_; have NB376_377 := n5_; have NB377_376 := n6_; clear n0_ n1_ n2_ n3_ n4_ n5_ n6_; clear hb hbox hg; have hnb12 := NB376_377.out; have hnc12 := NB377_376.out; have hcz13_0 : w11.cell? ⟨gb376, 0, none⟩ = some (.int .i64 a0_0) := (blk_cell BK376.out 0).trans rfl; have hcz13_1 : w11.cell? ⟨gb376, 1, none⟩ = some (.int .i64 a0_1) := (blk_cell BK376.out 1).trans rfl; have hfz13_0 := blk_frozen BK376.out 0; have hfz13_1 := blk_frozen BK376.out 1; have hcz14_0 : w11.cell? ⟨gb377, 0, none⟩ = some (.int .i64 a1_0) := (blk_cell BK377.out 0).trans rfl; have hcz14_1 : w11.cell? ⟨gb377, 1, none⟩ = some (.int .i64 a1_1) := (blk_cell BK377.out 1).trans rfl; have hfz14_0 := blk_frozen BK377.out 0; have hfz14_1 := blk_frozen BK377.out 1))
 go_ret
 exact ⟨zw, zt GE376.out GE377.out⟩
end Go.Proofs.YtlnliahadgmbcaaGreat.F
end
section
namespace Go.Proofs.YtlnliahadgmbcaaGreat.F
open Go.RowKit Go.Proofs.YtlnliahadgmbcaaGreatW.PrintWords Go.Proofs.YtlnliahadgmbcaaGreatW.PrintLast Go.Proofs.YtlnliahadgmbcaaGreatW.PrintMore
attribute [local go_sem] max2_int min2_int max_two min_two max_three min_three max_four min_four
set_option linter.unusedVariables false
set_option linter.unusedSimpArgs false
def spec_CompareShapes.l0 : Nat → List (S25) → List (S25) → Int → Option (Int)
 | 0, _, _, _ => none
 | k + 1, x0, x1, x5 => if x5 < (x0.length : Int) then (if 0 ≤ x5 then (if x5 < (x1.length : Int) then ((spec_l02Less.f ((rd_T25 x0 x5).f0) ((rd_T25 x0 x5).f1) ((rd_T25 x1 x5).f0) ((rd_T25 x1 x5).f1)).bind fun t380 => (if t380 = true then (some (-1)) else ((spec_l02Less.f ((rd_T25 x1 x5).f0) ((rd_T25 x1 x5).f1) ((rd_T25 x0 x5).f0) ((rd_T25 x0 x5).f1)).bind fun t383 => (if t383 = true then (some 1) else (spec_CompareShapes.l0 k x0 x1 (wrap64 (x5 + 1))))))) else (none)) else (none)) else (some 0)
def spec_CompareShapes.f (k : Nat) (l0 : List (S25)) (l1 : List (S25)) : Option (Int) := if (l0.length : Int) = (l1.length : Int) then (spec_CompareShapes.l0 k l0 l1 0) else (if (l0.length : Int) < (l1.length : Int) then (some (-1)) else (some 1))
def spec_CompareShapes.T8 : Bool × List (List Nat × List Nat) := (true, [([], []), ([], []), ([0, 1], [0, 1]), ([2], [2]), ([], []), ([], []), ([4, 5], [4, 5]), ([6], [6]), ([3, 7], [3, 7])])
def spec_CompareShapes.B8 : List Nat := [0, 0, 3, 7, 0, 0, 48, 112, 255]
theorem spec_CompareShapes.tab8 : rtab .any (opsOf Tryz.f44 8) = spec_CompareShapes.T8 := by kernel_rfl
theorem spec_CompareShapes.bits8 : waitsOk spec_CompareShapes.T8.2 spec_CompareShapes.B8 = true := by kernel_rfl
def spec_CompareShapes.T10 : Bool × List (List Nat × List Nat) := (true, [([], []), ([], []), ([0, 1], [0, 1]), ([2], [2]), ([], []), ([], []), ([4, 5], [4, 5]), ([6], [6]), ([3, 7], [3, 7])])
def spec_CompareShapes.B10 : List Nat := [0, 0, 3, 7, 0, 0, 48, 112, 255]
theorem spec_CompareShapes.tab10 : rtab .any (opsOf Tryz.f44 10) = spec_CompareShapes.T10 := by kernel_rfl
theorem spec_CompareShapes.bits10 : waitsOk spec_CompareShapes.T10.2 spec_CompareShapes.B10 = true := by kernel_rfl
theorem spec_CompareShapes.calls (k : Nat) (A0 : Option Addr) (c0 : Nat) (l0 : List (S25)) (A1 : Option Addr) (c1 : Nat) (l1 : List (S25)) (r : Int) (w : World) (hr0 : Kd.C k25 w A0 l0.length l0) (hc0 : l0.length ≤ c0) (hr1 : Kd.C k25 w A1 l1.length l1) (hc1 : l1.length ≤ c1) (h : spec_CompareShapes.f k l0 l1 = some r) :
  Calls Tryz.prog 44 #[.slice A0 l0.length c0, .slice A1 l1.length c1] w fun e w' => e = .returned (.int .i64 r) ∧ Below w.heap.size w w' := by
 have hu25 := Tryz.underlying25
 have HR0 := aM hr0
 have HC0 := aM hc0
 clear hr0 hc0
 have HR1 := aM hr1
 have HC1 := aM hc1
 clear hr1 hc1
 have HB := aM (Below.refl w.heap.size w)
 have H : (if (l0.length : Int) = (l1.length : Int) then (spec_CompareShapes.l0 k l0 l1 0) else (if (l0.length : Int) < (l1.length : Int) then (some (-1)) else (some 1))) = some r := h
 clear h
 by_cases c3 : (l0.length : Int) = (l1.length : Int)
 rotate_left
 ·rw [if_neg c3] at H
  have c3b0 : ((l0.length : Int) == (l1.length : Int)) = false := beq_eq_false_iff_ne.mpr c3
  have c3b1 : ((l0.length : Int) != (l1.length : Int)) = true := bne_iff_ne.mpr c3
  have c3b2 : (l0.length == l1.length) = false := by first | simpa using c3 | (simp at c3 ⊢; omega)
  by_cases c21 : (l0.length : Int) < (l1.length : Int)
  ·rw [if_pos c21] at H
   have c21b0 : decide ((l0.length : Int) < (l1.length : Int)) = true := decide_eq_true c21
   have c21b1 : decide (l0.length < l1.length) = true := decide_eq_true (Int.ofNat_lt.mp c21)
   clear c21
   obtain rfl := Option.some.inj H
   go_enter Tryz.func44, Tryz.ntmps44
   go_wp2
   go_ret
   exact ⟨zw, zb⟩
  rw [if_neg c21] at H
  have c21b0 : decide ((l0.length : Int) < (l1.length : Int)) = false := decide_eq_false c21
  have c21b1 : decide (l0.length < l1.length) = false := decide_eq_false (fun h => c21 (Int.ofNat_lt.mpr h))
  clear c21
  obtain rfl := Option.some.inj H
  go_enter Tryz.func44, Tryz.ntmps44
  go_wp2
  go_ret
  exact ⟨zw, zb⟩
 rw [if_pos c3] at H
 have c3b0 : ((l0.length : Int) == (l1.length : Int)) = true := beq_iff_eq.mpr c3
 have c3b1 : ((l0.length : Int) != (l1.length : Int)) = false := bne_eq_false_iff_eq.mpr c3
 have c3b2 : (l0.length == l1.length) = true := by first | simpa using c3 | (simp at c3 ⊢; omega)
 clear c3
 have H' := aM H
 clear H
 go_enter Tryz.func44, Tryz.ntmps44
 go_wp2
 go_loopg [5] k (fun kq v5 w' => ∃ (x5_1 : Int), v5 = .int .i64 x5_1 ∧ Aside0 (spec_CompareShapes.l0 kq l0 l1 x5_1 = some r) ∧ Aside0 (kq ≤ k) ∧ Aside0 (Below w.heap.size w w'))
 case atStart => exact ⟨(0), zr, H', ⟨Nat.le_refl _⟩, ⟨zb⟩⟩
 case round =>
  clear H'
  try clear c1
  try clear p2
  try clear c3
  try clear c3b0
  try clear c3b1
  try clear c3b2
  obtain ⟨x5_1, rfl, HA, HK1, HB⟩ := hrel
  cases gk with
  | zero => exact absurd HA.out (by simp [spec_CompareShapes.l0])
  | succ k1 =>
   have H := HA.out
   clear HA
   simp only [spec_CompareShapes.l0] at H
   by_cases c4 : x5_1 < (l0.length : Int)
   rotate_left
   ·rw [if_neg c4] at H
    have c4b0 : decide (x5_1 < (l0.length : Int)) = false := decide_eq_false c4
    clear c4
    obtain rfl := Option.some.inj H
    go_wp2
    go_ret
    exact ⟨zw, zb⟩
   rw [if_pos c4] at H
   have c4b0 : decide (x5_1 < (l0.length : Int)) = true := decide_eq_true c4
   clear c4
   by_cases c5 : 0 ≤ x5_1
   rotate_left
   ·rw [if_neg c5] at H
    exact absurd H (by simp)
   rw [if_pos c5] at H
   have c5b0 : decide (0 ≤ x5_1) = true := decide_eq_true c5
   clear c5
   by_cases c6 : x5_1 < (l1.length : Int)
   rotate_left
   ·rw [if_neg c6] at H
    exact absurd H (by simp)
   rw [if_pos c6] at H
   have c6b0 : decide (x5_1 < (l1.length : Int)) = true := decide_eq_true c6
   clear c6
   replace H := Option.bind_eq_some_iff.mp H
   obtain ⟨t380, A70, H⟩ := H
   replace H : (if t380 = true then (some (-1)) else ((spec_l02Less.f ((rd_T25 l1 x5_1).f0) ((rd_T25 l1 x5_1).f1) ((rd_T25 l0 x5_1).f0) ((rd_T25 l0 x5_1).f1)).bind fun t383 => (if t383 = true then (some 1) else (spec_CompareShapes.l0 k1 l0 l1 (wrap64 (x5_1 + 1)))))) = some r := H
   have A7 := aM A70
   clear A70
   by_cases c8 : t380 = true
   ·subst c8
    have H1 : (some (-1)) = some r := by rw [if_pos rfl] at H; exact H
    clear H
    have H := H1
    clear H1
    obtain rfl := Option.some.inj H
    try go_wp2
    have n0_ := aM (below_drew1 HB.out)
    clear HB
    have HB := n0_
    clear n0_
    have p378 : 0 ≤ (x5_1 : Int) := of_decide_eq_true za
    have q378 : x5_1 < (l0.length : Int) := of_decide_eq_true za
    obtain ⟨ad378, e378, hx378_0, hx378_1⟩ := at_T25 HR0.out x5_1 p378 q378
    have hw378_1 := hx378_1
    have hw378_0 := hx378_0
    cases e378
    replace hx378_0 := (HB.out.cell (World.block_lt_of_cell? w _ hx378_0)).trans hx378_0
    replace hx378_1 := (HB.out.cell (World.block_lt_of_cell? w _ hx378_1)).trans hx378_1
    replace p378 := eq_true p378
    replace q378 := eq_true q378
    have p379 : 0 ≤ (x5_1 : Int) := of_decide_eq_true za
    have q379 : x5_1 < (l1.length : Int) := of_decide_eq_true za
    obtain ⟨ad379, e379, hx379_0, hx379_1⟩ := at_T25 HR1.out x5_1 p379 q379
    have hw379_1 := hx379_1
    have hw379_0 := hx379_0
    cases e379
    replace hx379_0 := (HB.out.cell (World.block_lt_of_cell? w _ hx379_0)).trans hx379_0
    replace hx379_1 := (HB.out.cell (World.block_lt_of_cell? w _ hx379_1)).trans hx379_1
    replace p379 := eq_true p379
    replace q379 := eq_true q379
    refine start_ (n := 9) (S := fun w' => w'.cell? (ad378.add ((x5_1).toNat * 2)) = some (.int .i64 ((rd_T25 l0 x5_1).f0)) ∧ w'.cell? ⟨(ad378.add ((x5_1).toNat * 2)).block, (ad378.add ((x5_1).toNat * 2)).off + 1, none⟩ = some (.int .i64 ((rd_T25 l0 x5_1).f1)) ∧ w'.cell? (ad379.add ((x5_1).toNat * 2)) = some (.int .i64 ((rd_T25 l1 x5_1).f0)) ∧ w'.cell? ⟨(ad379.add ((x5_1).toNat * 2)).block, (ad379.add ((x5_1).toNat * 2)).off + 1, none⟩ = some (.int .i64 ((rd_T25 l1 x5_1).f1))) (ds := []) #[false, false, false, false, false, false, false, false, false] (by kernel_rfl) rfl rfl ⟨((HB.out.cell (World.block_lt_of_cell? w _ hw378_0)).trans hw378_0), ((HB.out.cell (World.block_lt_of_cell? w _ hw378_1)).trans hw378_1), ((HB.out.cell (World.block_lt_of_cell? w _ hw379_0)).trans hw379_0), ((HB.out.cell (World.block_lt_of_cell? w _ hw379_1)).trans hw379_1)⟩ (fun hHeld => ?_); refine with_tabW spec_CompareShapes.tab8 spec_CompareShapes.bits8 (fun HT_ HW_ => ?_)
    generalize wr.drew = w9 at HB hx378_0 hx378_1 hx379_0 hx379_1 hHeld ⊢
    refine pure_ (i := 0) (N := some 22) (v := ?_) (a' := ?_) #[true, false, false, false, false, false, false, false, false] rfl rfl zz (fun _ _ _ h => h) (Or.inl ⟨by rfl, ?_⟩) ?_ ?_
    rotate_left
    ·intro w'
     go_simp
     with_reducible rfl
    rotate_left
    ·simp only [Act.put, xA, xB, xC, i64_w, i32_w]
     rfl
    refine pure_ (i := 1) (N := some 23) (v := ?_) (a' := ?_) #[true, true, false, false, false, false, false, false, false] rfl rfl zz (fun _ _ _ h => h) (Or.inl ⟨by rfl, ?_⟩) ?_ ?_
    rotate_left
    ·intro w'
     go_simp
     with_reducible rfl
    rotate_left
    ·simp only [Act.put, xA, xB, xC, i64_w, i32_w]
     rfl
    refine pure_ (i := 2) (N := some 24) (v := ?_) (a' := ?_) #[true, true, true, false, false, false, false, false, false] rfl rfl zz (fun _ _ _ h => h) (Or.inl ⟨by rfl, ?_⟩) ?_ ?_
    rotate_left
    ·intro w'
     go_simp
     with_reducible rfl
    rotate_left
    ·simp only [Act.put, xA, xB, xC, i64_w, i32_w]
     rfl
    refine pure_ (i := 4) (N := some 26) (v := ?_) (a' := ?_) #[true, true, true, false, true, false, false, false, false] rfl rfl zz (fun _ _ _ h => h) (Or.inl ⟨by rfl, ?_⟩) ?_ ?_
    rotate_left
    ·intro w'
     go_simp
     with_reducible rfl
    rotate_left
    ·simp only [Act.put, xA, xB, xC, i64_w, i32_w]
     rfl
    refine pure_ (i := 5) (N := some 27) (v := ?_) (a' := ?_) #[true, true, true, false, true, true, false, false, false] rfl rfl zz (fun _ _ _ h => h) (Or.inl ⟨by rfl, ?_⟩) ?_ ?_
    rotate_left
    ·intro w'
     go_simp
     with_reducible rfl
    rotate_left
    ·simp only [Act.put, xA, xB, xC, i64_w, i32_w]
     rfl
    refine pure_ (i := 6) (N := some 28) (v := ?_) (a' := ?_) #[true, true, true, false, true, true, true, false, false] rfl rfl zz (fun _ _ _ h => h) (Or.inl ⟨by rfl, ?_⟩) ?_ ?_
    rotate_left
    ·intro w'
     go_simp
     with_reducible rfl
    rotate_left
    ·simp only [Act.put, xA, xB, xC, i64_w, i32_w]
     rfl
    refine take_ (i := 3) (N := some 25) (v := ?_) (a' := ?_) #[true, true, true, true, true, true, true, false, false] rfl rfl (take_ofW HT_.out HW_.out (by kernel_rfl)) (fun _ _ _ h => h) (Or.inl ⟨by rfl, ?_⟩) hHeld ?_ ?_
    rotate_left
    ·rintro w' ⟨s0, s1, s2, s3⟩
     go_simp
     with_reducible rfl
    rotate_left
    ·simp only [Act.put, xA, xB, xC, i64_w, i32_w]
     rfl
    refine take_ (i := 7) (N := some 29) (v := ?_) (a' := ?_) #[true, true, true, true, true, true, true, true, false] rfl rfl (take_ofW HT_.out HW_.out (by kernel_rfl)) (fun _ _ _ h => h) (Or.inl ⟨by rfl, ?_⟩) hHeld ?_ ?_
    rotate_left
    ·rintro w' ⟨s0, s1, s2, s3⟩
     go_simp
     with_reducible rfl
    rotate_left
    ·simp only [Act.put, xA, xB, xC, i64_w, i32_w]
     rfl
    refine one_ (i := 8) (N := some 30) #[true, true, true, true, true, true, true, true, true] rfl rfl (one_of HT_.out (by kernel_rfl)) (by decide) (fun K hK => ?_)
    refine goes_ Tryz.func57 (by kernel_rfl) rfl #[.agg #[.int .i64 ((rd_T25 l0 x5_1).f0), .int .i64 ((rd_T25 l0 x5_1).f1)], .agg #[.int .i64 ((rd_T25 l1 x5_1).f0), .int .i64 ((rd_T25 l1 x5_1).f1)]] (by rfl) rfl rfl zm ?_
    with_reducible refine (spec_l02Less.calls ((rd_T25 l0 x5_1).f0) ((rd_T25 l0 x5_1).f1) ((rd_T25 l1 x5_1).f0) ((rd_T25 l1 x5_1).f1) true _ A7.out).mono ?_
    rintro e w10 ⟨rfl, hb⟩
    refine ⟨_, rfl, ?_⟩
    have n0_ := aM (below_step zb hb)
    clear HB
    have HB := n0_
    clear n0_
    (try clear hb)
    (try clear hb2)
    (try clear hk)
    (try clear hi)
    refine hK.out _ _ ⟨((HB.out.cell (World.block_lt_of_cell? w _ hw378_0)).trans hw378_0), ((HB.out.cell (World.block_lt_of_cell? w _ hw378_1)).trans hw378_1), ((HB.out.cell (World.block_lt_of_cell? w _ hw379_0)).trans hw379_0), ((HB.out.cell (World.block_lt_of_cell? w _ hw379_1)).trans hw379_1)⟩ (fun hHeld => ?_)
    clear hK K
    refine norm_ (a' := ?_) ?_ ?_
    rotate_left
    ·show Act.put _ (some 30) _ = _
     simp only [Act.put, xA, xB, xC, i64_w, i32_w]
     rfl
    refine done_ (done_of HT_.out (by kernel_rfl)) ?_
    try go_wp2
    go_ret
    exact ⟨zw, zb⟩
   replace c8 := Bool.eq_false_iff.mpr c8
   subst c8
   have H1 : ((spec_l02Less.f ((rd_T25 l1 x5_1).f0) ((rd_T25 l1 x5_1).f1) ((rd_T25 l0 x5_1).f0) ((rd_T25 l0 x5_1).f1)).bind fun t383 => (if t383 = true then (some 1) else (spec_CompareShapes.l0 k1 l0 l1 (wrap64 (x5_1 + 1))))) = some r := by rw [if_neg (show ¬ (false = true) by decide)] at H; exact H
   clear H
   have H := H1
   clear H1
   replace H := Option.bind_eq_some_iff.mp H
   obtain ⟨t383, A110, H⟩ := H
   replace H : (if t383 = true then (some 1) else (spec_CompareShapes.l0 k1 l0 l1 (wrap64 (x5_1 + 1)))) = some r := H
   have A11 := aM A110
   clear A110
   by_cases c12 : t383 = true
   ·subst c12
    have H1 : (some 1) = some r := by rw [if_pos rfl] at H; exact H
    clear H
    have H := H1
    clear H1
    obtain rfl := Option.some.inj H
    try go_wp2
    have n0_ := aM (below_drew1 HB.out)
    clear HB
    have HB := n0_
    clear n0_
    have p378 : 0 ≤ (x5_1 : Int) := of_decide_eq_true za
    have q378 : x5_1 < (l0.length : Int) := of_decide_eq_true za
    obtain ⟨ad378, e378, hx378_0, hx378_1⟩ := at_T25 HR0.out x5_1 p378 q378
    have hw378_1 := hx378_1
    have hw378_0 := hx378_0
    cases e378
    replace hx378_0 := (HB.out.cell (World.block_lt_of_cell? w _ hx378_0)).trans hx378_0
    replace hx378_1 := (HB.out.cell (World.block_lt_of_cell? w _ hx378_1)).trans hx378_1
    replace p378 := eq_true p378
    replace q378 := eq_true q378
    have p379 : 0 ≤ (x5_1 : Int) := of_decide_eq_true za
    have q379 : x5_1 < (l1.length : Int) := of_decide_eq_true za
    obtain ⟨ad379, e379, hx379_0, hx379_1⟩ := at_T25 HR1.out x5_1 p379 q379
    have hw379_1 := hx379_1
    have hw379_0 := hx379_0
    cases e379
    replace hx379_0 := (HB.out.cell (World.block_lt_of_cell? w _ hx379_0)).trans hx379_0
    replace hx379_1 := (HB.out.cell (World.block_lt_of_cell? w _ hx379_1)).trans hx379_1
    replace p379 := eq_true p379
    replace q379 := eq_true q379
    refine start_ (n := 9) (S := fun w' => w'.cell? (ad378.add ((x5_1).toNat * 2)) = some (.int .i64 ((rd_T25 l0 x5_1).f0)) ∧ w'.cell? ⟨(ad378.add ((x5_1).toNat * 2)).block, (ad378.add ((x5_1).toNat * 2)).off + 1, none⟩ = some (.int .i64 ((rd_T25 l0 x5_1).f1)) ∧ w'.cell? (ad379.add ((x5_1).toNat * 2)) = some (.int .i64 ((rd_T25 l1 x5_1).f0)) ∧ w'.cell? ⟨(ad379.add ((x5_1).toNat * 2)).block, (ad379.add ((x5_1).toNat * 2)).off + 1, none⟩ = some (.int .i64 ((rd_T25 l1 x5_1).f1))) (ds := []) #[false, false, false, false, false, false, false, false, false] (by kernel_rfl) rfl rfl ⟨((HB.out.cell (World.block_lt_of_cell? w _ hw378_0)).trans hw378_0), ((HB.out.cell (World.block_lt_of_cell? w _ hw378_1)).trans hw378_1), ((HB.out.cell (World.block_lt_of_cell? w _ hw379_0)).trans hw379_0), ((HB.out.cell (World.block_lt_of_cell? w _ hw379_1)).trans hw379_1)⟩ (fun hHeld => ?_); refine with_tabW spec_CompareShapes.tab8 spec_CompareShapes.bits8 (fun HT_ HW_ => ?_)
    generalize wr.drew = w13 at HB hx378_0 hx378_1 hx379_0 hx379_1 hHeld ⊢
    refine pure_ (i := 0) (N := some 22) (v := ?_) (a' := ?_) #[true, false, false, false, false, false, false, false, false] rfl rfl zz (fun _ _ _ h => h) (Or.inl ⟨by rfl, ?_⟩) ?_ ?_
    rotate_left
    ·intro w'
     go_simp
     with_reducible rfl
    rotate_left
    ·simp only [Act.put, xA, xB, xC, i64_w, i32_w]
     rfl
    refine pure_ (i := 1) (N := some 23) (v := ?_) (a' := ?_) #[true, true, false, false, false, false, false, false, false] rfl rfl zz (fun _ _ _ h => h) (Or.inl ⟨by rfl, ?_⟩) ?_ ?_
    rotate_left
    ·intro w'
     go_simp
     with_reducible rfl
    rotate_left
    ·simp only [Act.put, xA, xB, xC, i64_w, i32_w]
     rfl
    refine pure_ (i := 2) (N := some 24) (v := ?_) (a' := ?_) #[true, true, true, false, false, false, false, false, false] rfl rfl zz (fun _ _ _ h => h) (Or.inl ⟨by rfl, ?_⟩) ?_ ?_
    rotate_left
    ·intro w'
     go_simp
     with_reducible rfl
    rotate_left
    ·simp only [Act.put, xA, xB, xC, i64_w, i32_w]
     rfl
    refine pure_ (i := 4) (N := some 26) (v := ?_) (a' := ?_) #[true, true, true, false, true, false, false, false, false] rfl rfl zz (fun _ _ _ h => h) (Or.inl ⟨by rfl, ?_⟩) ?_ ?_
    rotate_left
    ·intro w'
     go_simp
     with_reducible rfl
    rotate_left
    ·simp only [Act.put, xA, xB, xC, i64_w, i32_w]
     rfl
    refine pure_ (i := 5) (N := some 27) (v := ?_) (a' := ?_) #[true, true, true, false, true, true, false, false, false] rfl rfl zz (fun _ _ _ h => h) (Or.inl ⟨by rfl, ?_⟩) ?_ ?_
    rotate_left
    ·intro w'
     go_simp
     with_reducible rfl
    rotate_left
    ·simp only [Act.put, xA, xB, xC, i64_w, i32_w]
     rfl
    refine pure_ (i := 6) (N := some 28) (v := ?_) (a' := ?_) #[true, true, true, false, true, true, true, false, false] rfl rfl zz (fun _ _ _ h => h) (Or.inl ⟨by rfl, ?_⟩) ?_ ?_
    rotate_left
    ·intro w'
     go_simp
     with_reducible rfl
    rotate_left
    ·simp only [Act.put, xA, xB, xC, i64_w, i32_w]
     rfl
    refine take_ (i := 3) (N := some 25) (v := ?_) (a' := ?_) #[true, true, true, true, true, true, true, false, false] rfl rfl (take_ofW HT_.out HW_.out (by kernel_rfl)) (fun _ _ _ h => h) (Or.inl ⟨by rfl, ?_⟩) hHeld ?_ ?_
    rotate_left
    ·rintro w' ⟨s0, s1, s2, s3⟩
     go_simp
     with_reducible rfl
    rotate_left
    ·simp only [Act.put, xA, xB, xC, i64_w, i32_w]
     rfl
    refine take_ (i := 7) (N := some 29) (v := ?_) (a' := ?_) #[true, true, true, true, true, true, true, true, false] rfl rfl (take_ofW HT_.out HW_.out (by kernel_rfl)) (fun _ _ _ h => h) (Or.inl ⟨by rfl, ?_⟩) hHeld ?_ ?_
    rotate_left
    ·rintro w' ⟨s0, s1, s2, s3⟩
     go_simp
     with_reducible rfl
    rotate_left
    ·simp only [Act.put, xA, xB, xC, i64_w, i32_w]
     rfl
    refine one_ (i := 8) (N := some 30) #[true, true, true, true, true, true, true, true, true] rfl rfl (one_of HT_.out (by kernel_rfl)) (by decide) (fun K hK => ?_)
    refine goes_ Tryz.func57 (by kernel_rfl) rfl #[.agg #[.int .i64 ((rd_T25 l0 x5_1).f0), .int .i64 ((rd_T25 l0 x5_1).f1)], .agg #[.int .i64 ((rd_T25 l1 x5_1).f0), .int .i64 ((rd_T25 l1 x5_1).f1)]] (by rfl) rfl rfl zm ?_
    with_reducible refine (spec_l02Less.calls ((rd_T25 l0 x5_1).f0) ((rd_T25 l0 x5_1).f1) ((rd_T25 l1 x5_1).f0) ((rd_T25 l1 x5_1).f1) false _ A7.out).mono ?_
    rintro e w14 ⟨rfl, hb⟩
    refine ⟨_, rfl, ?_⟩
    have n0_ := aM (below_step zb hb)
    clear HB
    have HB := n0_
    clear n0_
    (try clear hb)
    (try clear hb2)
    (try clear hk)
    (try clear hi)
    refine hK.out _ _ ⟨((HB.out.cell (World.block_lt_of_cell? w _ hw378_0)).trans hw378_0), ((HB.out.cell (World.block_lt_of_cell? w _ hw378_1)).trans hw378_1), ((HB.out.cell (World.block_lt_of_cell? w _ hw379_0)).trans hw379_0), ((HB.out.cell (World.block_lt_of_cell? w _ hw379_1)).trans hw379_1)⟩ (fun hHeld => ?_)
    clear hK K
    refine norm_ (a' := ?_) ?_ ?_
    rotate_left
    ·show Act.put _ (some 30) _ = _
     simp only [Act.put, xA, xB, xC, i64_w, i32_w]
     rfl
    refine done_ (done_of HT_.out (by kernel_rfl)) ?_
    try go_wp2
    have n0_ := aM (below_drew1 HB.out)
    clear HB
    have HB := n0_
    clear n0_
    have p381 : 0 ≤ (x5_1 : Int) := of_decide_eq_true za
    have q381 : x5_1 < (l1.length : Int) := of_decide_eq_true za
    obtain ⟨ad381, e381, hx381_0, hx381_1⟩ := at_T25 HR1.out x5_1 p381 q381
    have hw381_1 := hx381_1
    have hw381_0 := hx381_0
    obtain rfl : ad379 = ad381 := (by injection e381)
    replace hx381_0 := (HB.out.cell (World.block_lt_of_cell? w _ hx381_0)).trans hx381_0
    replace hx381_1 := (HB.out.cell (World.block_lt_of_cell? w _ hx381_1)).trans hx381_1
    replace p381 := eq_true p381
    replace q381 := eq_true q381
    have p382 : 0 ≤ (x5_1 : Int) := of_decide_eq_true za
    have q382 : x5_1 < (l0.length : Int) := of_decide_eq_true za
    obtain ⟨ad382, e382, hx382_0, hx382_1⟩ := at_T25 HR0.out x5_1 p382 q382
    have hw382_1 := hx382_1
    have hw382_0 := hx382_0
    obtain rfl : ad378 = ad382 := (by injection e382)
    replace hx382_0 := (HB.out.cell (World.block_lt_of_cell? w _ hx382_0)).trans hx382_0
    replace hx382_1 := (HB.out.cell (World.block_lt_of_cell? w _ hx382_1)).trans hx382_1
    replace p382 := eq_true p382
    replace q382 := eq_true q382
    refine start_ (n := 9) (S := fun w' => w'.cell? (ad379.add ((x5_1).toNat * 2)) = some (.int .i64 ((rd_T25 l1 x5_1).f0)) ∧ w'.cell? ⟨(ad379.add ((x5_1).toNat * 2)).block, (ad379.add ((x5_1).toNat * 2)).off + 1, none⟩ = some (.int .i64 ((rd_T25 l1 x5_1).f1)) ∧ w'.cell? (ad378.add ((x5_1).toNat * 2)) = some (.int .i64 ((rd_T25 l0 x5_1).f0)) ∧ w'.cell? ⟨(ad378.add ((x5_1).toNat * 2)).block, (ad378.add ((x5_1).toNat * 2)).off + 1, none⟩ = some (.int .i64 ((rd_T25 l0 x5_1).f1))) (ds := []) #[false, false, false, false, false, false, false, false, false] (by kernel_rfl) rfl rfl ⟨((HB.out.cell (World.block_lt_of_cell? w _ hw381_0)).trans hw381_0), ((HB.out.cell (World.block_lt_of_cell? w _ hw381_1)).trans hw381_1), ((HB.out.cell (World.block_lt_of_cell? w _ hw382_0)).trans hw382_0), ((HB.out.cell (World.block_lt_of_cell? w _ hw382_1)).trans hw382_1)⟩ (fun hHeld => ?_); refine with_tabW spec_CompareShapes.tab10 spec_CompareShapes.bits10 (fun HT_ HW_ => ?_)
    generalize w14.drew = w15 at HB hx381_0 hx381_1 hx382_0 hx382_1 hHeld ⊢
    refine pure_ (i := 0) (N := some 31) (v := ?_) (a' := ?_) #[true, false, false, false, false, false, false, false, false] rfl rfl zz (fun _ _ _ h => h) (Or.inl ⟨by rfl, ?_⟩) ?_ ?_
    rotate_left
    ·intro w'
     go_simp
     with_reducible rfl
    rotate_left
    ·simp only [Act.put, xA, xB, xC, i64_w, i32_w]
     rfl
    refine pure_ (i := 1) (N := some 32) (v := ?_) (a' := ?_) #[true, true, false, false, false, false, false, false, false] rfl rfl zz (fun _ _ _ h => h) (Or.inl ⟨by rfl, ?_⟩) ?_ ?_
    rotate_left
    ·intro w'
     go_simp
     with_reducible rfl
    rotate_left
    ·simp only [Act.put, xA, xB, xC, i64_w, i32_w]
     rfl
    refine pure_ (i := 2) (N := some 33) (v := ?_) (a' := ?_) #[true, true, true, false, false, false, false, false, false] rfl rfl zz (fun _ _ _ h => h) (Or.inl ⟨by rfl, ?_⟩) ?_ ?_
    rotate_left
    ·intro w'
     go_simp
     with_reducible rfl
    rotate_left
    ·simp only [Act.put, xA, xB, xC, i64_w, i32_w]
     rfl
    refine pure_ (i := 4) (N := some 35) (v := ?_) (a' := ?_) #[true, true, true, false, true, false, false, false, false] rfl rfl zz (fun _ _ _ h => h) (Or.inl ⟨by rfl, ?_⟩) ?_ ?_
    rotate_left
    ·intro w'
     go_simp
     with_reducible rfl
    rotate_left
    ·simp only [Act.put, xA, xB, xC, i64_w, i32_w]
     rfl
    refine pure_ (i := 5) (N := some 36) (v := ?_) (a' := ?_) #[true, true, true, false, true, true, false, false, false] rfl rfl zz (fun _ _ _ h => h) (Or.inl ⟨by rfl, ?_⟩) ?_ ?_
    rotate_left
    ·intro w'
     go_simp
     with_reducible rfl
    rotate_left
    ·simp only [Act.put, xA, xB, xC, i64_w, i32_w]
     rfl
    refine pure_ (i := 6) (N := some 37) (v := ?_) (a' := ?_) #[true, true, true, false, true, true, true, false, false] rfl rfl zz (fun _ _ _ h => h) (Or.inl ⟨by rfl, ?_⟩) ?_ ?_
    rotate_left
    ·intro w'
     go_simp
     with_reducible rfl
    rotate_left
    ·simp only [Act.put, xA, xB, xC, i64_w, i32_w]
     rfl
    refine take_ (i := 3) (N := some 34) (v := ?_) (a' := ?_) #[true, true, true, true, true, true, true, false, false] rfl rfl (take_ofW HT_.out HW_.out (by kernel_rfl)) (fun _ _ _ h => h) (Or.inl ⟨by rfl, ?_⟩) hHeld ?_ ?_
    rotate_left
    ·rintro w' ⟨s0, s1, s2, s3⟩
     go_simp
     with_reducible rfl
    rotate_left
    ·simp only [Act.put, xA, xB, xC, i64_w, i32_w]
     rfl
    refine take_ (i := 7) (N := some 38) (v := ?_) (a' := ?_) #[true, true, true, true, true, true, true, true, false] rfl rfl (take_ofW HT_.out HW_.out (by kernel_rfl)) (fun _ _ _ h => h) (Or.inl ⟨by rfl, ?_⟩) hHeld ?_ ?_
    rotate_left
    ·rintro w' ⟨s0, s1, s2, s3⟩
     go_simp
     with_reducible rfl
    rotate_left
    ·simp only [Act.put, xA, xB, xC, i64_w, i32_w]
     rfl
    refine one_ (i := 8) (N := some 39) #[true, true, true, true, true, true, true, true, true] rfl rfl (one_of HT_.out (by kernel_rfl)) (by decide) (fun K hK => ?_)
    refine goes_ Tryz.func57 (by kernel_rfl) rfl #[.agg #[.int .i64 ((rd_T25 l1 x5_1).f0), .int .i64 ((rd_T25 l1 x5_1).f1)], .agg #[.int .i64 ((rd_T25 l0 x5_1).f0), .int .i64 ((rd_T25 l0 x5_1).f1)]] (by rfl) rfl rfl zm ?_
    with_reducible refine (spec_l02Less.calls ((rd_T25 l1 x5_1).f0) ((rd_T25 l1 x5_1).f1) ((rd_T25 l0 x5_1).f0) ((rd_T25 l0 x5_1).f1) true _ A11.out).mono ?_
    rintro e w16 ⟨rfl, hb⟩
    refine ⟨_, rfl, ?_⟩
    have n0_ := aM (below_step zb hb)
    clear HB
    have HB := n0_
    clear n0_
    (try clear hb)
    (try clear hb2)
    (try clear hk)
    (try clear hi)
    refine hK.out _ _ ⟨((HB.out.cell (World.block_lt_of_cell? w _ hw381_0)).trans hw381_0), ((HB.out.cell (World.block_lt_of_cell? w _ hw381_1)).trans hw381_1), ((HB.out.cell (World.block_lt_of_cell? w _ hw382_0)).trans hw382_0), ((HB.out.cell (World.block_lt_of_cell? w _ hw382_1)).trans hw382_1)⟩ (fun hHeld => ?_)
    clear hK K
    refine norm_ (a' := ?_) ?_ ?_
    rotate_left
    ·show Act.put _ (some 39) _ = _
     simp only [Act.put, xA, xB, xC, i64_w, i32_w]
     rfl
    refine done_ (done_of HT_.out (by kernel_rfl)) ?_
    try go_wp2
    go_ret
    exact ⟨zw, zb⟩
   replace c12 := Bool.eq_false_iff.mpr c12
   subst c12
   have H1 : (spec_CompareShapes.l0 k1 l0 l1 (wrap64 (x5_1 + 1))) = some r := by rw [if_neg (show ¬ (false = true) by decide)] at H; exact H
   clear H
   have H := H1
   clear H1
   have H' := aM H
   clear H
   try go_wp2
   have n0_ := aM (below_drew1 HB.out)
   clear HB
   have HB := n0_
   clear n0_
   have p378 : 0 ≤ (x5_1 : Int) := of_decide_eq_true za
   have q378 : x5_1 < (l0.length : Int) := of_decide_eq_true za
   obtain ⟨ad378, e378, hx378_0, hx378_1⟩ := at_T25 HR0.out x5_1 p378 q378
   have hw378_1 := hx378_1
   have hw378_0 := hx378_0
   cases e378
   replace hx378_0 := (HB.out.cell (World.block_lt_of_cell? w _ hx378_0)).trans hx378_0
   replace hx378_1 := (HB.out.cell (World.block_lt_of_cell? w _ hx378_1)).trans hx378_1
   replace p378 := eq_true p378
   replace q378 := eq_true q378
   have p379 : 0 ≤ (x5_1 : Int) := of_decide_eq_true za
   have q379 : x5_1 < (l1.length : Int) := of_decide_eq_true za
   obtain ⟨ad379, e379, hx379_0, hx379_1⟩ := at_T25 HR1.out x5_1 p379 q379
   have hw379_1 := hx379_1
   have hw379_0 := hx379_0
   cases e379
   replace hx379_0 := (HB.out.cell (World.block_lt_of_cell? w _ hx379_0)).trans hx379_0
   replace hx379_1 := (HB.out.cell (World.block_lt_of_cell? w _ hx379_1)).trans hx379_1
   replace p379 := eq_true p379
   replace q379 := eq_true q379
   refine start_ (n := 9) (S := fun w' => w'.cell? (ad378.add ((x5_1).toNat * 2)) = some (.int .i64 ((rd_T25 l0 x5_1).f0)) ∧ w'.cell? ⟨(ad378.add ((x5_1).toNat * 2)).block, (ad378.add ((x5_1).toNat * 2)).off + 1, none⟩ = some (.int .i64 ((rd_T25 l0 x5_1).f1)) ∧ w'.cell? (ad379.add ((x5_1).toNat * 2)) = some (.int .i64 ((rd_T25 l1 x5_1).f0)) ∧ w'.cell? ⟨(ad379.add ((x5_1).toNat * 2)).block, (ad379.add ((x5_1).toNat * 2)).off + 1, none⟩ = some (.int .i64 ((rd_T25 l1 x5_1).f1))) (ds := []) #[false, false, false, false, false, false, false, false, false] (by kernel_rfl) rfl rfl ⟨((HB.out.cell (World.block_lt_of_cell? w _ hw378_0)).trans hw378_0), ((HB.out.cell (World.block_lt_of_cell? w _ hw378_1)).trans hw378_1), ((HB.out.cell (World.block_lt_of_cell? w _ hw379_0)).trans hw379_0), ((HB.out.cell (World.block_lt_of_cell? w _ hw379_1)).trans hw379_1)⟩ (fun hHeld => ?_); refine with_tabW spec_CompareShapes.tab8 spec_CompareShapes.bits8 (fun HT_ HW_ => ?_)
   generalize wr.drew = w17 at HB hx378_0 hx378_1 hx379_0 hx379_1 hHeld ⊢
   refine pure_ (i := 0) (N := some 22) (v := ?_) (a' := ?_) #[true, false, false, false, false, false, false, false, false] rfl rfl zz (fun _ _ _ h => h) (Or.inl ⟨by rfl, ?_⟩) ?_ ?_
   rotate_left
   ·intro w'
    go_simp
    with_reducible rfl
   rotate_left
   ·simp only [Act.put, xA, xB, xC, i64_w, i32_w]
    rfl
   refine pure_ (i := 1) (N := some 23) (v := ?_) (a' := ?_) #[true, true, false, false, false, false, false, false, false] rfl rfl zz (fun _ _ _ h => h) (Or.inl ⟨by rfl, ?_⟩) ?_ ?_
   rotate_left
   ·intro w'
    go_simp
    with_reducible rfl
   rotate_left
   ·simp only [Act.put, xA, xB, xC, i64_w, i32_w]
    rfl
   refine pure_ (i := 2) (N := some 24) (v := ?_) (a' := ?_) #[true, true, true, false, false, false, false, false, false] rfl rfl zz (fun _ _ _ h => h) (Or.inl ⟨by rfl, ?_⟩) ?_ ?_
   rotate_left
   ·intro w'
    go_simp
    with_reducible rfl
   rotate_left
   ·simp only [Act.put, xA, xB, xC, i64_w, i32_w]
    rfl
   refine pure_ (i := 4) (N := some 26) (v := ?_) (a' := ?_) #[true, true, true, false, true, false, false, false, false] rfl rfl zz (fun _ _ _ h => h) (Or.inl ⟨by rfl, ?_⟩) ?_ ?_
   rotate_left
   ·intro w'
    go_simp
    with_reducible rfl
   rotate_left
   ·simp only [Act.put, xA, xB, xC, i64_w, i32_w]
    rfl
   refine pure_ (i := 5) (N := some 27) (v := ?_) (a' := ?_) #[true, true, true, false, true, true, false, false, false] rfl rfl zz (fun _ _ _ h => h) (Or.inl ⟨by rfl, ?_⟩) ?_ ?_
   rotate_left
   ·intro w'
    go_simp
    with_reducible rfl
   rotate_left
   ·simp only [Act.put, xA, xB, xC, i64_w, i32_w]
    rfl
   refine pure_ (i := 6) (N := some 28) (v := ?_) (a' := ?_) #[true, true, true, false, true, true, true, false, false] rfl rfl zz (fun _ _ _ h => h) (Or.inl ⟨by rfl, ?_⟩) ?_ ?_
   rotate_left
   ·intro w'
    go_simp
    with_reducible rfl
   rotate_left
   ·simp only [Act.put, xA, xB, xC, i64_w, i32_w]
    rfl
   refine take_ (i := 3) (N := some 25) (v := ?_) (a' := ?_) #[true, true, true, true, true, true, true, false, false] rfl rfl (take_ofW HT_.out HW_.out (by kernel_rfl)) (fun _ _ _ h => h) (Or.inl ⟨by rfl, ?_⟩) hHeld ?_ ?_
   rotate_left
   ·rintro w' ⟨s0, s1, s2, s3⟩
    go_simp
    with_reducible rfl
   rotate_left
   ·simp only [Act.put, xA, xB, xC, i64_w, i32_w]
    rfl
   refine take_ (i := 7) (N := some 29) (v := ?_) (a' := ?_) #[true, true, true, true, true, true, true, true, false] rfl rfl (take_ofW HT_.out HW_.out (by kernel_rfl)) (fun _ _ _ h => h) (Or.inl ⟨by rfl, ?_⟩) hHeld ?_ ?_
   rotate_left
   ·rintro w' ⟨s0, s1, s2, s3⟩
    go_simp
    with_reducible rfl
   rotate_left
   ·simp only [Act.put, xA, xB, xC, i64_w, i32_w]
    rfl
   refine one_ (i := 8) (N := some 30) #[true, true, true, true, true, true, true, true, true] rfl rfl (one_of HT_.out (by kernel_rfl)) (by decide) (fun K hK => ?_)
   refine goes_ Tryz.func57 (by kernel_rfl) rfl #[.agg #[.int .i64 ((rd_T25 l0 x5_1).f0), .int .i64 ((rd_T25 l0 x5_1).f1)], .agg #[.int .i64 ((rd_T25 l1 x5_1).f0), .int .i64 ((rd_T25 l1 x5_1).f1)]] (by rfl) rfl rfl zm ?_
   with_reducible refine (spec_l02Less.calls ((rd_T25 l0 x5_1).f0) ((rd_T25 l0 x5_1).f1) ((rd_T25 l1 x5_1).f0) ((rd_T25 l1 x5_1).f1) false _ A7.out).mono ?_
   rintro e w18 ⟨rfl, hb⟩
   refine ⟨_, rfl, ?_⟩
   have n0_ := aM (below_step zb hb)
   clear HB
   have HB := n0_
   clear n0_
   (try clear hb)
   (try clear hb2)
   (try clear hk)
   (try clear hi)
   refine hK.out _ _ ⟨((HB.out.cell (World.block_lt_of_cell? w _ hw378_0)).trans hw378_0), ((HB.out.cell (World.block_lt_of_cell? w _ hw378_1)).trans hw378_1), ((HB.out.cell (World.block_lt_of_cell? w _ hw379_0)).trans hw379_0), ((HB.out.cell (World.block_lt_of_cell? w _ hw379_1)).trans hw379_1)⟩ (fun hHeld => ?_)
   clear hK K
   refine norm_ (a' := ?_) ?_ ?_
   rotate_left
   ·show Act.put _ (some 30) _ = _
    simp only [Act.put, xA, xB, xC, i64_w, i32_w]
    rfl
   refine done_ (done_of HT_.out (by kernel_rfl)) ?_
   try go_wp2
   have n0_ := aM (below_drew1 HB.out)
   clear HB
   have HB := n0_
   clear n0_
   have p381 : 0 ≤ (x5_1 : Int) := of_decide_eq_true za
   have q381 : x5_1 < (l1.length : Int) := of_decide_eq_true za
   obtain ⟨ad381, e381, hx381_0, hx381_1⟩ := at_T25 HR1.out x5_1 p381 q381
   have hw381_1 := hx381_1
   have hw381_0 := hx381_0
   obtain rfl : ad379 = ad381 := (by injection e381)
   replace hx381_0 := (HB.out.cell (World.block_lt_of_cell? w _ hx381_0)).trans hx381_0
   replace hx381_1 := (HB.out.cell (World.block_lt_of_cell? w _ hx381_1)).trans hx381_1
   replace p381 := eq_true p381
   replace q381 := eq_true q381
   have p382 : 0 ≤ (x5_1 : Int) := of_decide_eq_true za
   have q382 : x5_1 < (l0.length : Int) := of_decide_eq_true za
   obtain ⟨ad382, e382, hx382_0, hx382_1⟩ := at_T25 HR0.out x5_1 p382 q382
   have hw382_1 := hx382_1
   have hw382_0 := hx382_0
   obtain rfl : ad378 = ad382 := (by injection e382)
   replace hx382_0 := (HB.out.cell (World.block_lt_of_cell? w _ hx382_0)).trans hx382_0
   replace hx382_1 := (HB.out.cell (World.block_lt_of_cell? w _ hx382_1)).trans hx382_1
   replace p382 := eq_true p382
   replace q382 := eq_true q382
   refine start_ (n := 9) (S := fun w' => w'.cell? (ad379.add ((x5_1).toNat * 2)) = some (.int .i64 ((rd_T25 l1 x5_1).f0)) ∧ w'.cell? ⟨(ad379.add ((x5_1).toNat * 2)).block, (ad379.add ((x5_1).toNat * 2)).off + 1, none⟩ = some (.int .i64 ((rd_T25 l1 x5_1).f1)) ∧ w'.cell? (ad378.add ((x5_1).toNat * 2)) = some (.int .i64 ((rd_T25 l0 x5_1).f0)) ∧ w'.cell? ⟨(ad378.add ((x5_1).toNat * 2)).block, (ad378.add ((x5_1).toNat * 2)).off + 1, none⟩ = some (.int .i64 ((rd_T25 l0 x5_1).f1))) (ds := []) #[false, false, false, false, false, false, false, false, false] (by kernel_rfl) rfl rfl ⟨((HB.out.cell (World.block_lt_of_cell? w _ hw381_0)).trans hw381_0), ((HB.out.cell (World.block_lt_of_cell? w _ hw381_1)).trans hw381_1), ((HB.out.cell (World.block_lt_of_cell? w _ hw382_0)).trans hw382_0), ((HB.out.cell (World.block_lt_of_cell? w _ hw382_1)).trans hw382_1)⟩ (fun hHeld => ?_); refine with_tabW spec_CompareShapes.tab10 spec_CompareShapes.bits10 (fun HT_ HW_ => ?_)
   generalize w18.drew = w19 at HB hx381_0 hx381_1 hx382_0 hx382_1 hHeld ⊢
   refine pure_ (i := 0) (N := some 31) (v := ?_) (a' := ?_) #[true, false, false, false, false, false, false, false, false] rfl rfl zz (fun _ _ _ h => h) (Or.inl ⟨by rfl, ?_⟩) ?_ ?_
   rotate_left
   ·intro w'
    go_simp
    with_reducible rfl
   rotate_left
   ·simp only [Act.put, xA, xB, xC, i64_w, i32_w]
    rfl
   refine pure_ (i := 1) (N := some 32) (v := ?_) (a' := ?_) #[true, true, false, false, false, false, false, false, false] rfl rfl zz (fun _ _ _ h => h) (Or.inl ⟨by rfl, ?_⟩) ?_ ?_
   rotate_left
   ·intro w'
    go_simp
    with_reducible rfl
   rotate_left
   ·simp only [Act.put, xA, xB, xC, i64_w, i32_w]
    rfl
   refine pure_ (i := 2) (N := some 33) (v := ?_) (a' := ?_) #[true, true, true, false, false, false, false, false, false] rfl rfl zz (fun _ _ _ h => h) (Or.inl ⟨by rfl, ?_⟩) ?_ ?_
   rotate_left
   ·intro w'
    go_simp
    with_reducible rfl
   rotate_left
   ·simp only [Act.put, xA, xB, xC, i64_w, i32_w]
    rfl
   refine pure_ (i := 4) (N := some 35) (v := ?_) (a' := ?_) #[true, true, true, false, true, false, false, false, false] rfl rfl zz (fun _ _ _ h => h) (Or.inl ⟨by rfl, ?_⟩) ?_ ?_
   rotate_left
   ·intro w'
    go_simp
    with_reducible rfl
   rotate_left
   ·simp only [Act.put, xA, xB, xC, i64_w, i32_w]
    rfl
   refine pure_ (i := 5) (N := some 36) (v := ?_) (a' := ?_) #[true, true, true, false, true, true, false, false, false] rfl rfl zz (fun _ _ _ h => h) (Or.inl ⟨by rfl, ?_⟩) ?_ ?_
   rotate_left
   ·intro w'
    go_simp
    with_reducible rfl
   rotate_left
   ·simp only [Act.put, xA, xB, xC, i64_w, i32_w]
    rfl
   refine pure_ (i := 6) (N := some 37) (v := ?_) (a' := ?_) #[true, true, true, false, true, true, true, false, false] rfl rfl zz (fun _ _ _ h => h) (Or.inl ⟨by rfl, ?_⟩) ?_ ?_
   rotate_left
   ·intro w'
    go_simp
    with_reducible rfl
   rotate_left
   ·simp only [Act.put, xA, xB, xC, i64_w, i32_w]
    rfl
   refine take_ (i := 3) (N := some 34) (v := ?_) (a' := ?_) #[true, true, true, true, true, true, true, false, false] rfl rfl (take_ofW HT_.out HW_.out (by kernel_rfl)) (fun _ _ _ h => h) (Or.inl ⟨by rfl, ?_⟩) hHeld ?_ ?_
   rotate_left
   ·rintro w' ⟨s0, s1, s2, s3⟩
    go_simp
    with_reducible rfl
   rotate_left
   ·simp only [Act.put, xA, xB, xC, i64_w, i32_w]
    rfl
   refine take_ (i := 7) (N := some 38) (v := ?_) (a' := ?_) #[true, true, true, true, true, true, true, true, false] rfl rfl (take_ofW HT_.out HW_.out (by kernel_rfl)) (fun _ _ _ h => h) (Or.inl ⟨by rfl, ?_⟩) hHeld ?_ ?_
   rotate_left
   ·rintro w' ⟨s0, s1, s2, s3⟩
    go_simp
    with_reducible rfl
   rotate_left
   ·simp only [Act.put, xA, xB, xC, i64_w, i32_w]
    rfl
   refine one_ (i := 8) (N := some 39) #[true, true, true, true, true, true, true, true, true] rfl rfl (one_of HT_.out (by kernel_rfl)) (by decide) (fun K hK => ?_)
   refine goes_ Tryz.func57 (by kernel_rfl) rfl #[.agg #[.int .i64 ((rd_T25 l1 x5_1).f0), .int .i64 ((rd_T25 l1 x5_1).f1)], .agg #[.int .i64 ((rd_T25 l0 x5_1).f0), .int .i64 ((rd_T25 l0 x5_1).f1)]] (by rfl) rfl rfl zm ?_
   with_reducible refine (spec_l02Less.calls ((rd_T25 l1 x5_1).f0) ((rd_T25 l1 x5_1).f1) ((rd_T25 l0 x5_1).f0) ((rd_T25 l0 x5_1).f1) false _ A11.out).mono ?_
   rintro e w20 ⟨rfl, hb⟩
   refine ⟨_, rfl, ?_⟩
   have n0_ := aM (below_step zb hb)
   clear HB
   have HB := n0_
   clear n0_
   (try clear hb)
   (try clear hb2)
   (try clear hk)
   (try clear hi)
   refine hK.out _ _ ⟨((HB.out.cell (World.block_lt_of_cell? w _ hw381_0)).trans hw381_0), ((HB.out.cell (World.block_lt_of_cell? w _ hw381_1)).trans hw381_1), ((HB.out.cell (World.block_lt_of_cell? w _ hw382_0)).trans hw382_0), ((HB.out.cell (World.block_lt_of_cell? w _ hw382_1)).trans hw382_1)⟩ (fun hHeld => ?_)
   clear hK K
   refine norm_ (a' := ?_) ?_ ?_
   rotate_left
   ·show Act.put _ (some 39) _ = _
    simp only [Act.put, xA, xB, xC, i64_w, i32_w]
    rfl
   refine done_ (done_of HT_.out (by kernel_rfl)) ?_
   try go_wp2
   go_roundg k1
   case measure => have := HK1.out; omega
   case rel => exact ⟨(wrap64 (x5_1 + 1)), zr, H', ⟨by have := HK1.out; omega⟩, ⟨zb⟩⟩
def spec_l03Add.l0 : Nat → List (List (S25)) → List (S25) → List (List (S25)) → Bool → Int → Option ((List (List (S25))))
 | 0, _, _, _, _, _ => none
 | k + 1, x0, x1, x5, x6, x7 => if x7 < (x0.length : Int) then (if 0 ≤ x7 then ((spec_CompareShapes.f k x1 (rd_L2 x0 x7)).bind fun t391 => (if t391 = 0 then (some x0) else (if t391 < 0 then (if x6 = true then (if x5.length < 5864062014805 then (spec_l03Add.l0 k x0 x1 (x5 ++ [rd_L2 x0 x7]) x6 (wrap64 (x7 + 1))) else (none)) else (if x5.length < 5864062014805 then ((some (x5 ++ [x1] : List (List (S25)))).bind fun y396 => (if y396.length < 5864062014805 then (spec_l03Add.l0 k x0 x1 (y396 ++ [rd_L2 x0 x7]) true (wrap64 (x7 + 1))) else (none))) else (none))) else (if x5.length < 5864062014805 then (spec_l03Add.l0 k x0 x1 (x5 ++ [rd_L2 x0 x7]) x6 (wrap64 (x7 + 1))) else (none))))) else (none)) else (if x6 = true then (some x5) else (if x5.length < 5864062014805 then (some (x5 ++ [x1])) else (none)))
def spec_l03Add.f (k : Nat) (l0 : List (List (S25))) (l1 : List (S25)) : Option ((List (List (S25)))) := spec_l03Add.l0 k l0 l1 (([] : List (List (S25)))) false 0
theorem spec_l03Add.calls (k : Nat) (P0_ : Nat → Prop) (A0 : Option Addr) (c0 : Nat) (l0 : List (List (S25))) (P1_ : Nat → Prop) (A1 : Option Addr) (c1 : Nat) (l1 : List (S25)) (r : List (List (S25))) (w : World) (hs0 : Kd.V (Kd.slice 25 k25) 27 w w.heap.size (fun k_ => P0_ k_) (.slice A0 l0.length c0) l0) (hs1 : Kd.V k25 25 w w.heap.size (fun k_ => P1_ k_) (.slice A1 l1.length c1) l1) (h : spec_l03Add.f k l0 l1 = some r) :
  Calls Tryz.prog 40 #[.slice A0 l0.length c0, .slice A1 l1.length c1] w fun e w' => ∃ v0_ : Value, e = .returned (v0_) ∧ Kd.V (Kd.slice 25 k25) 27 w' w.heap.size (fun k_ => ((P0_ k_ ∨ P1_ k_) ∨ w.heap.size ≤ k_)) v0_ r ∧ Below w.heap.size w w' := by
 have HO0 := aM (show Kd.V (Kd.slice 25 k25) 27 w w.heap.size (fun k_ => ((P0_ k_ ∨ P1_ k_) ∨ w.heap.size ≤ k_)) (.slice A0 l0.length c0) l0 from Kd.V_mono hs0 (fun k_ hk => .inl (.inl hk)))
 have HO1 := aM (show Kd.V k25 25 w w.heap.size (fun k_ => ((P0_ k_ ∨ P1_ k_) ∨ w.heap.size ≤ k_)) (.slice A1 l1.length c1) l1 from Kd.V_mono hs1 (fun k_ hk => .inl (.inr hk)))
 have HB := aM (Below.refl w.heap.size w)
 have H : (spec_l03Add.l0 k l0 l1 (([] : List (List (S25)))) false 0) = some r := h
 clear h
 obtain ⟨y384, hy384⟩ : ∃ y_ : List (List (S25)), y_ = (([] : List (List (S25)))) := ⟨_, rfl⟩
 replace H : (spec_l03Add.l0 k l0 l1 y384 false 0) = some r := zy H hy384
 have Ny384 := aM hy384
 clear hy384
 have H' := aM H
 clear H
 go_enter Tryz.func40, Tryz.ntmps40
 go_wp2_with (first | ((with_reducible refine gate_dst (N := 9) rfl ?_); refine Kd.N_lit (Kd.slice 25 k25) _ 27 ?hg (N' := 9) ?hd (xs := ([] : List (List (S25)))) (inner := []) (ok := (fun k_ => ((P0_ k_ ∨ P1_ k_) ∨ w.heap.size ≤ k_))) (okp := (fun k_ => ((P0_ k_ ∨ P1_ k_) ∨ w.heap.size ≤ k_))) ?hr ?hp (fun _ hk => hk) ((show ∀ k_, w.heap.size ≤ k_ → (fun k_ => ((P0_ k_ ∨ P1_ k_) ∨ w.heap.size ≤ k_)) k_ from fun k_ hk => (.inr (Nat.le_trans (below_size zb) hk))) _ (Nat.le_refl _)) (Below.refl _ _) (Nat.le_refl _) (by simp) ?_; (case hd => rfl); (case hg => rfl); (case hr => first | (go_simp; done) | (go_simp; rfl)); (case hp => exact (Reps.none _ _)); intro v385 w3 ho4 hb hg_ hnew_; clear hg_ hnew_; (first | rw [← Ny384.out] at ho4 | (simp only [Int.reduceToNat] at ho4; rw [← Ny384.out] at ho4)); have n0_ := aM (Kd.V_elder' (mV_ HO0.out) (by first | exact Kd.N_base ho4 | exact Kd.S_base ho4 | exact Kd.R_base ho4) hb); have n1_ := aM (Kd.V_elder' (mV_ HO1.out) (by first | exact Kd.N_base ho4 | exact Kd.S_base ho4 | exact Kd.R_base ho4) hb); have n2_ := aM (Kd.N_lower ho4 (below_size zb)); have n3_ := aM (below_step zb hb); clear HO0; clear HO1; clear HB; have HO0 := n0_; have HO1 := n1_; have HO386 := n2_; have HB := n3_; clear n0_ n1_ n2_ n3_; clear hb ho4))
 go_loopg [5, 6, 7] k (fun kq v5 v6 v7 w' => ∃ (x5_1 : List (List (S25))) (x6_1 : Bool) (x7_1 : Int), v6 = .bool x6_1 ∧ v7 = .int .i64 x7_1 ∧ Aside0 (spec_l03Add.l0 kq l0 l1 x5_1 x6_1 x7_1 = some r) ∧ Aside0 (kq ≤ k) ∧ Aside0 (Kd.V (Kd.slice 25 k25) 27 w' w.heap.size (fun k_ => ((P0_ k_ ∨ P1_ k_) ∨ w.heap.size ≤ k_) ∧ some k_ ≠ (v5 : Value).ownBlock) (.slice A0 l0.length c0) l0) ∧ Aside0 (Kd.V k25 25 w' w.heap.size (fun k_ => ((P0_ k_ ∨ P1_ k_) ∨ w.heap.size ≤ k_) ∧ some k_ ≠ (v5 : Value).ownBlock) (.slice A1 l1.length c1) l1) ∧ Aside0 (Kd.N (Kd.slice 25 k25) 27 w' w.heap.size (fun k_ => ((P0_ k_ ∨ P1_ k_) ∨ w.heap.size ≤ k_)) v5 x5_1) ∧ Aside0 (Below w.heap.size w w'))
 case atStart => exact ⟨(y384), (false), (0), zr, zr, H', ⟨Nat.le_refl _⟩, ⟨mV_ HO0.out⟩, ⟨mV_ HO1.out⟩, ⟨mN_ HO386.out⟩, ⟨zb⟩⟩
 case round =>
  clear H'
  try clear c1
  try clear p2
  try clear c4
  obtain ⟨x5_1, x6_1, x7_1, rfl, rfl, HA, HK1, HO_0, HO_1, HO_5, HB⟩ := hrel
  cases gk with
  | zero => exact absurd HA.out (by simp [spec_l03Add.l0])
  | succ k1 =>
   have H := HA.out
   clear HA
   simp only [spec_l03Add.l0] at H
   by_cases c5 : x7_1 < (l0.length : Int)
   rotate_left
   ·rw [if_neg c5] at H
    have c5b0 : decide (x7_1 < (l0.length : Int)) = false := decide_eq_false c5
    clear c5
    by_cases c23 : x6_1 = true
    ·subst c23
     have H1 : (some x5_1) = some r := by rw [if_pos rfl] at H; exact H
     clear H
     have H := H1
     clear H1
     obtain rfl := Option.some.inj H
     go_wp2
     go_ret
     exact ⟨_, zw, Kd.N_V (mN_ HO_5.out), zb⟩
    replace c23 := Bool.eq_false_iff.mpr c23
    subst c23
    have H1 : (if x5_1.length < 5864062014805 then (some (x5_1 ++ [l1])) else (none)) = some r := by rw [if_neg (show ¬ (false = true) by decide)] at H; exact H
    clear H
    have H := H1
    clear H1
    by_cases c24 : x5_1.length < 5864062014805
    rotate_left
    ·rw [if_neg c24] at H
     exact absurd H (by simp)
    rw [if_pos c24] at H
    have LMc24 := aM c24
    clear c24
    obtain ⟨y387, hy387⟩ : ∃ y_ : List (List (S25)), y_ = (x5_1 ++ [l1]) := ⟨_, rfl⟩
    replace H : (some y387) = some r := zy H hy387
    have Ny387 := aM hy387
    clear hy387
    obtain rfl := Option.some.inj H
    go_wp2_with (first | ((with_reducible refine gate_builtin (b := .append) (xs := #[.tmp 44, .tmp 46]) rfl ?_); at_builtin; refine Kd.N_append (Kd.slice 25 k25) (w0 := w) w.heap.size rfl (.tmp 44) (.tmp 46) 39 27 (.slice none 0 0) 24 rfl Tryz.underlying39 info27 rfl (by decide) (by omega) u5 x5_1 l1 [.slice A1 l1.length c1] (fun k_ => ((P0_ k_ ∨ P1_ k_) ∨ w.heap.size ≤ k_)) (fun k_ => ((fun k_ => ((P0_ k_ ∨ P1_ k_) ∨ w.heap.size ≤ k_))) k_ ∧ some k_ ≠ (u5 : Value).ownBlock) rfl rfl ?aP (fun _ hk => hk) ?aF ?aO ?aB ?aS ?aL ?_; (case aP => first | exact (Kd.FK_slice_mk (Kd.V_reads' (Kd.V_mono (ok' := (fun k_ => ((fun k_ => ((P0_ k_ ∨ P1_ k_) ∨ w.heap.size ≤ k_))) k_ ∧ some k_ ≠ (u5 : Value).ownBlock)) (Kd.V_drewN HO_1.out _) (fun k_ hk => ⟨hk.1, hk.2⟩))).2.1 (Kd.V_F (Kd.V_mono (ok' := (fun k_ => ((fun k_ => ((P0_ k_ ∨ P1_ k_) ∨ w.heap.size ≤ k_))) k_ ∧ some k_ ≠ (u5 : Value).ownBlock)) (Kd.V_drewN HO_1.out _) (fun k_ hk => ⟨hk.1, hk.2⟩)))) | exact (Kd.FK_slice_mk (Kd.V_reads' (Kd.V_mono (ok' := (fun k_ => ((fun k_ => ((P0_ k_ ∨ P1_ k_) ∨ w.heap.size ≤ k_))) k_ ∧ some k_ ≠ (u5 : Value).ownBlock)) (HO_1.out) (fun k_ hk => ⟨hk.1, hk.2⟩))).2.1 (Kd.V_F (Kd.V_mono (ok' := (fun k_ => ((fun k_ => ((P0_ k_ ∨ P1_ k_) ∨ w.heap.size ≤ k_))) k_ ∧ some k_ ≠ (u5 : Value).ownBlock)) (HO_1.out) (fun k_ hk => ⟨hk.1, hk.2⟩)))) | exact (Kd.FK_slice_mk (Kd.V_reads' (Kd.V_mono (ok' := (fun k_ => ((fun k_ => ((P0_ k_ ∨ P1_ k_) ∨ w.heap.size ≤ k_))) k_ ∧ some k_ ≠ (u5 : Value).ownBlock)) (Kd.V_alloc (Kd.V_drewN HO_1.out _) _) (fun k_ hk => ⟨hk.1, hk.2⟩))).2.1 (Kd.V_F (Kd.V_mono (ok' := (fun k_ => ((fun k_ => ((P0_ k_ ∨ P1_ k_) ∨ w.heap.size ≤ k_))) k_ ∧ some k_ ≠ (u5 : Value).ownBlock)) (Kd.V_alloc (Kd.V_drewN HO_1.out _) _) (fun k_ hk => ⟨hk.1, hk.2⟩)))) | (have h2_ := Kd.V_mono (ok' := (fun k_ => ((fun k_ => ((P0_ k_ ∨ P1_ k_) ∨ w.heap.size ≤ k_))) k_ ∧ some k_ ≠ (u5 : Value).ownBlock)) (Kd.V_drewN HO_1.out nd) (fun k_ hk => ⟨hk.1, hk.2⟩); exact Kd.FK_slice_mk (Kd.V_reads' h2_).2.1 (Kd.V_F h2_))); (case aB => exact zb); (case aF => exact (fun k_ hk => (.inr (Nat.le_trans (below_size zb) hk)))); (case aO => exact (mN_ HO_5.out)); (case aS => exact (below_size zb)); (case aL => have := LMc24.out; omega); intro v388 w25 ho hb hg hat; rw [← Ny387.out] at ho; have n0_ := aM (Kd.V_afterv (ok := (fun k_ => ((P0_ k_ ∨ P1_ k_) ∨ w.heap.size ≤ k_))) (mV_ HO_0.out) hg hat); have n1_ := aM (Kd.V_afterv (ok := (fun k_ => ((P0_ k_ ∨ P1_ k_) ∨ w.heap.size ≤ k_))) (mV_ HO_1.out) hg hat); have n2_ := aM (hb); have n3_ := aM (ho); clear HO_0; clear HO_1; clear HB; clear HO_5; have HO_0 := n0_; have HO_1 := n1_; have HB := n2_; have HO389 := n3_; clear n0_ n1_ n2_ n3_; clear ho hb hg hat))
    go_ret
    exact ⟨_, zw, Kd.N_V (mN_ HO389.out), zb⟩
   rw [if_pos c5] at H
   have c5b0 : decide (x7_1 < (l0.length : Int)) = true := decide_eq_true c5
   clear c5
   by_cases c6 : 0 ≤ x7_1
   rotate_left
   ·rw [if_neg c6] at H
    exact absurd H (by simp)
   rw [if_pos c6] at H
   have c6b0 : decide (0 ≤ x7_1) = true := decide_eq_true c6
   clear c6
   replace H := Option.bind_eq_some_iff.mp H
   obtain ⟨t391, A70, H⟩ := H
   replace H : (if t391 = 0 then (some l0) else (if t391 < 0 then (if x6_1 = true then (if x5_1.length < 5864062014805 then (spec_l03Add.l0 k1 l0 l1 (x5_1 ++ [rd_L2 l0 x7_1]) x6_1 (wrap64 (x7_1 + 1))) else (none)) else (if x5_1.length < 5864062014805 then ((some (x5_1 ++ [l1] : List (List (S25)))).bind fun y396 => (if y396.length < 5864062014805 then (spec_l03Add.l0 k1 l0 l1 (y396 ++ [rd_L2 l0 x7_1]) true (wrap64 (x7_1 + 1))) else (none))) else (none))) else (if x5_1.length < 5864062014805 then (spec_l03Add.l0 k1 l0 l1 (x5_1 ++ [rd_L2 l0 x7_1]) x6_1 (wrap64 (x7_1 + 1))) else (none)))) = some r := H
   have A7 := aM A70
   clear A70
   by_cases c8 : t391 = 0
   ·rw [if_pos c8] at H
    have c8b0 : (t391 == 0) = true := beq_iff_eq.mpr c8
    have c8b1 : (t391 != 0) = false := bne_eq_false_iff_eq.mpr c8
    clear c8
    obtain rfl := Option.some.inj H
    have p390 : 0 ≤ (x7_1 : Int) := of_decide_eq_true za
    have q390 : x7_1 < (l0.length : Int) := of_decide_eq_true za
    obtain ⟨ad390, A390_0, c390_0, e390, hx390_0, hl390_0, hi390_0⟩ := at_L2 (Kd.V_reads' HO_0.out).2.2 x7_1 p390 q390
    cases e390
    obtain ⟨ce390, hce390, hMe390, hcc390⟩ := Kd.V_get HO_0.out [] x7_1 p390 (by first | exact q390 | exact of_decide_eq_true za | (have e_ := (Kd.V_reads' HO_0.out).1; omega))
    obtain ⟨ua390_0, uc390_0, rfl, ul390_0, ge390_0⟩ := Kd.FK_slice_open hMe390
    have hv390_0 := hcc390 0 _ rfl
    rw [Nat.add_zero, show ((Kd.slice 25 k25)).sz = 1 from rfl, Nat.mul_one] at hv390_0
    replace hv390_0 := Option.some.inj (hv390_0.symm.trans hx390_0)
    injection hv390_0 with hva_ hvn_ hvc_
    rw [hva_] at ge390_0
    rw [hvc_] at ul390_0
    have HL390_0 := aM (show Kd.V k25 25 _ w.heap.size _ _ (rd_L2 l0 x7_1) from Kd.V_mk ul390_0 ge390_0)
    clear hva_ hvn_ hvc_ ge390_0 ul390_0
    clear hcc390 hce390
    have HR390_0 := aM hi390_0
    have HC390_0 := aM hl390_0
    clear hi390_0 hl390_0
    replace p390 := eq_true p390
    replace q390 := eq_true q390
    go_wp2_with (first | ((with_reducible refine gate_callee (f := 44) rfl ?_); refine goesL_ (some 21) rfl rfl Tryz.func44 (by kernel_rfl) rfl #[.slice A1 l1.length c1, .slice A390_0 (rd_L2 l0 x7_1).length c390_0] rfl zm ?_; (with_reducible refine (spec_CompareShapes.calls k1 _ _ l1 _ _ (rd_L2 l0 x7_1) t391 _ ?side1 ?side2 ?side3 ?side4 A7.out).mono ?_); (case side1 => repeat (first | exact (Kd.V_reads' HO_1.out).2.2 | (with_reducible refine Kd.C_alloc ?_ _) | (with_reducible refine Kd.C_drewN ?_ _) | (with_reducible refine Kd.C_drew ?_))); (case side2 => exact (Kd.V_reads' HO_1.out).2.1); (case side3 => repeat (first | exact (mQ_ HR390_0.out) | (with_reducible refine Kd.C_alloc ?_ _) | (with_reducible refine Kd.C_drewN ?_ _) | (with_reducible refine Kd.C_drew ?_))); (case side4 => exact HC390_0.out); rintro e w9 ⟨rfl, hb⟩; refine ⟨_, rfl, ?_⟩; have n0_ := aM (Kd.V_below (mV_ HO_0.out) hb); have n1_ := aM (Kd.V_below (mV_ HO_1.out) hb); have n2_ := aM (Kd.N_below (mN_ HO_5.out) hb); have n3_ := aM (Kd.V_below (mV_ HL390_0.out) hb); have n4_ := aM (Kd.C_below (mQ_ HR390_0.out) hb); have n5_ := aM (below_step zb hb); clear HO_0; clear HO_1; clear HO_5; clear HL390_0; clear HR390_0; clear HB; have HO_0 := n0_; have HO_1 := n1_; have HO_5 := n2_; have HL390_0 := n3_; have HR390_0 := n4_; have HB := n5_; clear n0_ n1_ n2_ n3_ n4_ n5_; (try clear hb); (try clear hb2); (try clear hk); (try clear hi)))
    go_ret
    exact ⟨_, zw, by (with_reducible repeat (first | apply Kd.V_alloc | apply Kd.V_drewN | apply Kd.V_drew)); exact Kd.V_mono HO_0.out (fun _ hk => hk.1), zb⟩
   rw [if_neg c8] at H
   have c8b0 : (t391 == 0) = false := beq_eq_false_iff_ne.mpr c8
   have c8b1 : (t391 != 0) = true := bne_iff_ne.mpr c8
   by_cases c10 : t391 < 0
   rotate_left
   ·rw [if_neg c10] at H
    have c10b0 : decide (t391 < 0) = false := decide_eq_false c10
    clear c10
    by_cases c20 : x5_1.length < 5864062014805
    rotate_left
    ·rw [if_neg c20] at H
     exact absurd H (by simp)
    rw [if_pos c20] at H
    have LMc20 := aM c20
    clear c20
    obtain ⟨y404, hy404⟩ : ∃ y_ : List (List (S25)), y_ = (x5_1 ++ [rd_L2 l0 x7_1]) := ⟨_, rfl⟩
    replace H : (spec_l03Add.l0 k1 l0 l1 y404 x6_1 (wrap64 (x7_1 + 1))) = some r := zy H hy404
    have Ny404 := aM hy404
    clear hy404
    have H' := aM H
    clear H
    have p390 : 0 ≤ (x7_1 : Int) := of_decide_eq_true za
    have q390 : x7_1 < (l0.length : Int) := of_decide_eq_true za
    obtain ⟨ad390, A390_0, c390_0, e390, hx390_0, hl390_0, hi390_0⟩ := at_L2 (Kd.V_reads' HO_0.out).2.2 x7_1 p390 q390
    cases e390
    obtain ⟨ce390, hce390, hMe390, hcc390⟩ := Kd.V_get HO_0.out [] x7_1 p390 (by first | exact q390 | exact of_decide_eq_true za | (have e_ := (Kd.V_reads' HO_0.out).1; omega))
    obtain ⟨ua390_0, uc390_0, rfl, ul390_0, ge390_0⟩ := Kd.FK_slice_open hMe390
    have hv390_0 := hcc390 0 _ rfl
    rw [Nat.add_zero, show ((Kd.slice 25 k25)).sz = 1 from rfl, Nat.mul_one] at hv390_0
    replace hv390_0 := Option.some.inj (hv390_0.symm.trans hx390_0)
    injection hv390_0 with hva_ hvn_ hvc_
    rw [hva_] at ge390_0
    rw [hvc_] at ul390_0
    have HL390_0 := aM (show Kd.V k25 25 _ w.heap.size _ _ (rd_L2 l0 x7_1) from Kd.V_mk ul390_0 ge390_0)
    clear hva_ hvn_ hvc_ ge390_0 ul390_0
    clear hcc390 hce390
    have HR390_0 := aM hi390_0
    have HC390_0 := aM hl390_0
    clear hi390_0 hl390_0
    replace p390 := eq_true p390
    replace q390 := eq_true q390
    go_wp2_with (first | ((with_reducible refine gate_callee (f := 44) rfl ?_); refine goesL_ (some 21) rfl rfl Tryz.func44 (by kernel_rfl) rfl #[.slice A1 l1.length c1, .slice A390_0 (rd_L2 l0 x7_1).length c390_0] rfl zm ?_; (with_reducible refine (spec_CompareShapes.calls k1 _ _ l1 _ _ (rd_L2 l0 x7_1) t391 _ ?side1 ?side2 ?side3 ?side4 A7.out).mono ?_); (case side1 => repeat (first | exact (Kd.V_reads' HO_1.out).2.2 | (with_reducible refine Kd.C_alloc ?_ _) | (with_reducible refine Kd.C_drewN ?_ _) | (with_reducible refine Kd.C_drew ?_))); (case side2 => exact (Kd.V_reads' HO_1.out).2.1); (case side3 => repeat (first | exact (mQ_ HR390_0.out) | (with_reducible refine Kd.C_alloc ?_ _) | (with_reducible refine Kd.C_drewN ?_ _) | (with_reducible refine Kd.C_drew ?_))); (case side4 => exact HC390_0.out); rintro e w21 ⟨rfl, hb⟩; refine ⟨_, rfl, ?_⟩; have n0_ := aM (Kd.V_below (mV_ HO_0.out) hb); have n1_ := aM (Kd.V_below (mV_ HO_1.out) hb); have n2_ := aM (Kd.N_below (mN_ HO_5.out) hb); have n3_ := aM (Kd.V_below (mV_ HL390_0.out) hb); have n4_ := aM (Kd.C_below (mQ_ HR390_0.out) hb); have n5_ := aM (below_step zb hb); clear HO_0; clear HO_1; clear HO_5; clear HL390_0; clear HR390_0; clear HB; have HO_0 := n0_; have HO_1 := n1_; have HO_5 := n2_; have HL390_0 := n3_; have HR390_0 := n4_; have HB := n5_; clear n0_ n1_ n2_ n3_ n4_ n5_; (try clear hb); (try clear hb2); (try clear hk); (try clear hi); have p403 : 0 ≤ (x7_1 : Int) := of_decide_eq_true za; have q403 : x7_1 < (l0.length : Int) := of_decide_eq_true za; obtain ⟨ad403, A403_0, c403_0, e403, hx403_0, hl403_0, hi403_0⟩ := at_L2 (Kd.V_reads' HO_0.out).2.2 x7_1 p403 q403; obtain rfl : ad390 = ad403 := (by injection e403); obtain ⟨ce403, hce403, hMe403, hcc403⟩ := Kd.V_get HO_0.out [] x7_1 p403 (by first | exact q403 | exact of_decide_eq_true za | (have e_ := (Kd.V_reads' HO_0.out).1; omega)); obtain ⟨ua403_0, uc403_0, rfl, ul403_0, ge403_0⟩ := Kd.FK_slice_open hMe403; have hv403_0 := hcc403 0 _ rfl; rw [Nat.add_zero, show ((Kd.slice 25 k25)).sz = 1 from rfl, Nat.mul_one] at hv403_0; replace hv403_0 := Option.some.inj (hv403_0.symm.trans hx403_0); injection hv403_0 with hva_ hvn_ hvc_; rw [hva_] at ge403_0; rw [hvc_] at ul403_0; have HL403_0 := aM (show Kd.V k25 25 _ w.heap.size _ _ (rd_L2 l0 x7_1) from Kd.V_mk ul403_0 ge403_0); clear hva_ hvn_ hvc_ ge403_0 ul403_0; clear hcc403 hce403; have HR403_0 := aM hi403_0; have HC403_0 := aM hl403_0; clear hi403_0 hl403_0; replace p403 := eq_true p403; replace q403 := eq_true q403) | ((with_reducible refine gate_builtin (b := .append) (xs := #[.tmp 35, .tmp 40]) rfl ?_); at_builtin; refine Kd.N_append (Kd.slice 25 k25) (w0 := w) w.heap.size rfl (.tmp 35) (.tmp 40) 39 27 (.slice none 0 0) 24 rfl Tryz.underlying39 info27 rfl (by decide) (by omega) u5 x5_1 (rd_L2 l0 x7_1) [.slice A403_0 (rd_L2 l0 x7_1).length c403_0] (fun k_ => ((P0_ k_ ∨ P1_ k_) ∨ w.heap.size ≤ k_)) (fun k_ => ((fun k_ => ((P0_ k_ ∨ P1_ k_) ∨ w.heap.size ≤ k_))) k_ ∧ some k_ ≠ (u5 : Value).ownBlock) rfl rfl ?aP (fun _ hk => hk) ?aF ?aO ?aB ?aS ?aL ?_; (case aP => first | exact (Kd.FK_slice_mk (Kd.V_reads' (Kd.V_mono (ok' := (fun k_ => ((fun k_ => ((P0_ k_ ∨ P1_ k_) ∨ w.heap.size ≤ k_))) k_ ∧ some k_ ≠ (u5 : Value).ownBlock)) (Kd.V_drewN HL403_0.out _) (fun k_ hk => ⟨hk.1, hk.2⟩))).2.1 (Kd.V_F (Kd.V_mono (ok' := (fun k_ => ((fun k_ => ((P0_ k_ ∨ P1_ k_) ∨ w.heap.size ≤ k_))) k_ ∧ some k_ ≠ (u5 : Value).ownBlock)) (Kd.V_drewN HL403_0.out _) (fun k_ hk => ⟨hk.1, hk.2⟩)))) | exact (Kd.FK_slice_mk (Kd.V_reads' (Kd.V_mono (ok' := (fun k_ => ((fun k_ => ((P0_ k_ ∨ P1_ k_) ∨ w.heap.size ≤ k_))) k_ ∧ some k_ ≠ (u5 : Value).ownBlock)) (HL403_0.out) (fun k_ hk => ⟨hk.1, hk.2⟩))).2.1 (Kd.V_F (Kd.V_mono (ok' := (fun k_ => ((fun k_ => ((P0_ k_ ∨ P1_ k_) ∨ w.heap.size ≤ k_))) k_ ∧ some k_ ≠ (u5 : Value).ownBlock)) (HL403_0.out) (fun k_ hk => ⟨hk.1, hk.2⟩)))) | exact (Kd.FK_slice_mk (Kd.V_reads' (Kd.V_mono (ok' := (fun k_ => ((fun k_ => ((P0_ k_ ∨ P1_ k_) ∨ w.heap.size ≤ k_))) k_ ∧ some k_ ≠ (u5 : Value).ownBlock)) (Kd.V_alloc (Kd.V_drewN HL403_0.out _) _) (fun k_ hk => ⟨hk.1, hk.2⟩))).2.1 (Kd.V_F (Kd.V_mono (ok' := (fun k_ => ((fun k_ => ((P0_ k_ ∨ P1_ k_) ∨ w.heap.size ≤ k_))) k_ ∧ some k_ ≠ (u5 : Value).ownBlock)) (Kd.V_alloc (Kd.V_drewN HL403_0.out _) _) (fun k_ hk => ⟨hk.1, hk.2⟩)))) | (have h2_ := Kd.V_mono (ok' := (fun k_ => ((fun k_ => ((P0_ k_ ∨ P1_ k_) ∨ w.heap.size ≤ k_))) k_ ∧ some k_ ≠ (u5 : Value).ownBlock)) (Kd.V_drewN HL403_0.out nd) (fun k_ hk => ⟨hk.1, hk.2⟩); exact Kd.FK_slice_mk (Kd.V_reads' h2_).2.1 (Kd.V_F h2_))); (case aB => exact zb); (case aF => exact (fun k_ hk => (.inr (Nat.le_trans (below_size zb) hk)))); (case aO => exact (mN_ HO_5.out)); (case aS => exact (below_size zb)); (case aL => have := LMc20.out; omega); intro v405 w22 ho hb hg hat; rw [← Ny404.out] at ho; have n0_ := aM (Kd.V_afterv (ok := (fun k_ => ((P0_ k_ ∨ P1_ k_) ∨ w.heap.size ≤ k_))) (mV_ HO_0.out) hg hat); have n1_ := aM (Kd.V_afterv (ok := (fun k_ => ((P0_ k_ ∨ P1_ k_) ∨ w.heap.size ≤ k_))) (mV_ HO_1.out) hg hat); have n2_ := aM (Kd.V_afterv (ok := (fun k_ => ((P0_ k_ ∨ P1_ k_) ∨ w.heap.size ≤ k_))) (mV_ HL390_0.out) hg hat); have n3_ := aM (Kd.V_afterv (ok := (fun k_ => ((P0_ k_ ∨ P1_ k_) ∨ w.heap.size ≤ k_))) (mV_ HL403_0.out) hg hat); have n4_ := aM (hb); have n5_ := aM (ho); clear HO_0; clear HO_1; clear HL390_0; clear HL403_0; clear HB; clear HO_5; have HO_0 := n0_; have HO_1 := n1_; have HL390_0 := n2_; have HL403_0 := n3_; have HB := n4_; have HO406 := n5_; clear n0_ n1_ n2_ n3_ n4_ n5_; clear ho hb hg hat))
    go_roundg k1
    case measure => have := HK1.out; omega
    case rel => exact ⟨(y404), (x6_1), (wrap64 (x7_1 + 1)), zr, zr, H', ⟨by have := HK1.out; omega⟩, ⟨mV_ HO_0.out⟩, ⟨mV_ HO_1.out⟩, ⟨mN_ HO406.out⟩, ⟨zb⟩⟩
   rw [if_pos c10] at H
   have c10b0 : decide (t391 < 0) = true := decide_eq_true c10
   clear c10
   by_cases c11 : x6_1 = true
   ·subst c11
    have H1 : (if x5_1.length < 5864062014805 then (spec_l03Add.l0 k1 l0 l1 (x5_1 ++ [rd_L2 l0 x7_1]) true (wrap64 (x7_1 + 1))) else (none)) = some r := by rw [if_pos rfl] at H; exact H
    clear H
    have H := H1
    clear H1
    by_cases c12 : x5_1.length < 5864062014805
    rotate_left
    ·rw [if_neg c12] at H
     exact absurd H (by simp)
    rw [if_pos c12] at H
    have LMc12 := aM c12
    clear c12
    obtain ⟨y393, hy393⟩ : ∃ y_ : List (List (S25)), y_ = (x5_1 ++ [rd_L2 l0 x7_1]) := ⟨_, rfl⟩
    replace H : (spec_l03Add.l0 k1 l0 l1 y393 true (wrap64 (x7_1 + 1))) = some r := zy H hy393
    have Ny393 := aM hy393
    clear hy393
    have H' := aM H
    clear H
    have p390 : 0 ≤ (x7_1 : Int) := of_decide_eq_true za
    have q390 : x7_1 < (l0.length : Int) := of_decide_eq_true za
    obtain ⟨ad390, A390_0, c390_0, e390, hx390_0, hl390_0, hi390_0⟩ := at_L2 (Kd.V_reads' HO_0.out).2.2 x7_1 p390 q390
    cases e390
    obtain ⟨ce390, hce390, hMe390, hcc390⟩ := Kd.V_get HO_0.out [] x7_1 p390 (by first | exact q390 | exact of_decide_eq_true za | (have e_ := (Kd.V_reads' HO_0.out).1; omega))
    obtain ⟨ua390_0, uc390_0, rfl, ul390_0, ge390_0⟩ := Kd.FK_slice_open hMe390
    have hv390_0 := hcc390 0 _ rfl
    rw [Nat.add_zero, show ((Kd.slice 25 k25)).sz = 1 from rfl, Nat.mul_one] at hv390_0
    replace hv390_0 := Option.some.inj (hv390_0.symm.trans hx390_0)
    injection hv390_0 with hva_ hvn_ hvc_
    rw [hva_] at ge390_0
    rw [hvc_] at ul390_0
    have HL390_0 := aM (show Kd.V k25 25 _ w.heap.size _ _ (rd_L2 l0 x7_1) from Kd.V_mk ul390_0 ge390_0)
    clear hva_ hvn_ hvc_ ge390_0 ul390_0
    clear hcc390 hce390
    have HR390_0 := aM hi390_0
    have HC390_0 := aM hl390_0
    clear hi390_0 hl390_0
    replace p390 := eq_true p390
    replace q390 := eq_true q390
    go_wp2_with (first | ((with_reducible refine gate_callee (f := 44) rfl ?_); refine goesL_ (some 21) rfl rfl Tryz.func44 (by kernel_rfl) rfl #[.slice A1 l1.length c1, .slice A390_0 (rd_L2 l0 x7_1).length c390_0] rfl zm ?_; (with_reducible refine (spec_CompareShapes.calls k1 _ _ l1 _ _ (rd_L2 l0 x7_1) t391 _ ?side1 ?side2 ?side3 ?side4 A7.out).mono ?_); (case side1 => repeat (first | exact (Kd.V_reads' HO_1.out).2.2 | (with_reducible refine Kd.C_alloc ?_ _) | (with_reducible refine Kd.C_drewN ?_ _) | (with_reducible refine Kd.C_drew ?_))); (case side2 => exact (Kd.V_reads' HO_1.out).2.1); (case side3 => repeat (first | exact (mQ_ HR390_0.out) | (with_reducible refine Kd.C_alloc ?_ _) | (with_reducible refine Kd.C_drewN ?_ _) | (with_reducible refine Kd.C_drew ?_))); (case side4 => exact HC390_0.out); rintro e w13 ⟨rfl, hb⟩; refine ⟨_, rfl, ?_⟩; have n0_ := aM (Kd.V_below (mV_ HO_0.out) hb); have n1_ := aM (Kd.V_below (mV_ HO_1.out) hb); have n2_ := aM (Kd.N_below (mN_ HO_5.out) hb); have n3_ := aM (Kd.V_below (mV_ HL390_0.out) hb); have n4_ := aM (Kd.C_below (mQ_ HR390_0.out) hb); have n5_ := aM (below_step zb hb); clear HO_0; clear HO_1; clear HO_5; clear HL390_0; clear HR390_0; clear HB; have HO_0 := n0_; have HO_1 := n1_; have HO_5 := n2_; have HL390_0 := n3_; have HR390_0 := n4_; have HB := n5_; clear n0_ n1_ n2_ n3_ n4_ n5_; (try clear hb); (try clear hb2); (try clear hk); (try clear hi); have p392 : 0 ≤ (x7_1 : Int) := of_decide_eq_true za; have q392 : x7_1 < (l0.length : Int) := of_decide_eq_true za; obtain ⟨ad392, A392_0, c392_0, e392, hx392_0, hl392_0, hi392_0⟩ := at_L2 (Kd.V_reads' HO_0.out).2.2 x7_1 p392 q392; obtain rfl : ad390 = ad392 := (by injection e392); obtain ⟨ce392, hce392, hMe392, hcc392⟩ := Kd.V_get HO_0.out [] x7_1 p392 (by first | exact q392 | exact of_decide_eq_true za | (have e_ := (Kd.V_reads' HO_0.out).1; omega)); obtain ⟨ua392_0, uc392_0, rfl, ul392_0, ge392_0⟩ := Kd.FK_slice_open hMe392; have hv392_0 := hcc392 0 _ rfl; rw [Nat.add_zero, show ((Kd.slice 25 k25)).sz = 1 from rfl, Nat.mul_one] at hv392_0; replace hv392_0 := Option.some.inj (hv392_0.symm.trans hx392_0); injection hv392_0 with hva_ hvn_ hvc_; rw [hva_] at ge392_0; rw [hvc_] at ul392_0; have HL392_0 := aM (show Kd.V k25 25 _ w.heap.size _ _ (rd_L2 l0 x7_1) from Kd.V_mk ul392_0 ge392_0); clear hva_ hvn_ hvc_ ge392_0 ul392_0; clear hcc392 hce392; have HR392_0 := aM hi392_0; have HC392_0 := aM hl392_0; clear hi392_0 hl392_0; replace p392 := eq_true p392; replace q392 := eq_true q392) | ((with_reducible refine gate_builtin (b := .append) (xs := #[.tmp 35, .tmp 40]) rfl ?_); at_builtin; refine Kd.N_append (Kd.slice 25 k25) (w0 := w) w.heap.size rfl (.tmp 35) (.tmp 40) 39 27 (.slice none 0 0) 24 rfl Tryz.underlying39 info27 rfl (by decide) (by omega) u5 x5_1 (rd_L2 l0 x7_1) [.slice A392_0 (rd_L2 l0 x7_1).length c392_0] (fun k_ => ((P0_ k_ ∨ P1_ k_) ∨ w.heap.size ≤ k_)) (fun k_ => ((fun k_ => ((P0_ k_ ∨ P1_ k_) ∨ w.heap.size ≤ k_))) k_ ∧ some k_ ≠ (u5 : Value).ownBlock) rfl rfl ?aP (fun _ hk => hk) ?aF ?aO ?aB ?aS ?aL ?_; (case aP => first | exact (Kd.FK_slice_mk (Kd.V_reads' (Kd.V_mono (ok' := (fun k_ => ((fun k_ => ((P0_ k_ ∨ P1_ k_) ∨ w.heap.size ≤ k_))) k_ ∧ some k_ ≠ (u5 : Value).ownBlock)) (Kd.V_drewN HL392_0.out _) (fun k_ hk => ⟨hk.1, hk.2⟩))).2.1 (Kd.V_F (Kd.V_mono (ok' := (fun k_ => ((fun k_ => ((P0_ k_ ∨ P1_ k_) ∨ w.heap.size ≤ k_))) k_ ∧ some k_ ≠ (u5 : Value).ownBlock)) (Kd.V_drewN HL392_0.out _) (fun k_ hk => ⟨hk.1, hk.2⟩)))) | exact (Kd.FK_slice_mk (Kd.V_reads' (Kd.V_mono (ok' := (fun k_ => ((fun k_ => ((P0_ k_ ∨ P1_ k_) ∨ w.heap.size ≤ k_))) k_ ∧ some k_ ≠ (u5 : Value).ownBlock)) (HL392_0.out) (fun k_ hk => ⟨hk.1, hk.2⟩))).2.1 (Kd.V_F (Kd.V_mono (ok' := (fun k_ => ((fun k_ => ((P0_ k_ ∨ P1_ k_) ∨ w.heap.size ≤ k_))) k_ ∧ some k_ ≠ (u5 : Value).ownBlock)) (HL392_0.out) (fun k_ hk => ⟨hk.1, hk.2⟩)))) | exact (Kd.FK_slice_mk (Kd.V_reads' (Kd.V_mono (ok' := (fun k_ => ((fun k_ => ((P0_ k_ ∨ P1_ k_) ∨ w.heap.size ≤ k_))) k_ ∧ some k_ ≠ (u5 : Value).ownBlock)) (Kd.V_alloc (Kd.V_drewN HL392_0.out _) _) (fun k_ hk => ⟨hk.1, hk.2⟩))).2.1 (Kd.V_F (Kd.V_mono (ok' := (fun k_ => ((fun k_ => ((P0_ k_ ∨ P1_ k_) ∨ w.heap.size ≤ k_))) k_ ∧ some k_ ≠ (u5 : Value).ownBlock)) (Kd.V_alloc (Kd.V_drewN HL392_0.out _) _) (fun k_ hk => ⟨hk.1, hk.2⟩)))) | (have h2_ := Kd.V_mono (ok' := (fun k_ => ((fun k_ => ((P0_ k_ ∨ P1_ k_) ∨ w.heap.size ≤ k_))) k_ ∧ some k_ ≠ (u5 : Value).ownBlock)) (Kd.V_drewN HL392_0.out nd) (fun k_ hk => ⟨hk.1, hk.2⟩); exact Kd.FK_slice_mk (Kd.V_reads' h2_).2.1 (Kd.V_F h2_))); (case aB => exact zb); (case aF => exact (fun k_ hk => (.inr (Nat.le_trans (below_size zb) hk)))); (case aO => exact (mN_ HO_5.out)); (case aS => exact (below_size zb)); (case aL => have := LMc12.out; omega); intro v394 w14 ho hb hg hat; rw [← Ny393.out] at ho; have n0_ := aM (Kd.V_afterv (ok := (fun k_ => ((P0_ k_ ∨ P1_ k_) ∨ w.heap.size ≤ k_))) (mV_ HO_0.out) hg hat); have n1_ := aM (Kd.V_afterv (ok := (fun k_ => ((P0_ k_ ∨ P1_ k_) ∨ w.heap.size ≤ k_))) (mV_ HO_1.out) hg hat); have n2_ := aM (Kd.V_afterv (ok := (fun k_ => ((P0_ k_ ∨ P1_ k_) ∨ w.heap.size ≤ k_))) (mV_ HL390_0.out) hg hat); have n3_ := aM (Kd.V_afterv (ok := (fun k_ => ((P0_ k_ ∨ P1_ k_) ∨ w.heap.size ≤ k_))) (mV_ HL392_0.out) hg hat); have n4_ := aM (hb); have n5_ := aM (ho); clear HO_0; clear HO_1; clear HL390_0; clear HL392_0; clear HB; clear HO_5; have HO_0 := n0_; have HO_1 := n1_; have HL390_0 := n2_; have HL392_0 := n3_; have HB := n4_; have HO395 := n5_; clear n0_ n1_ n2_ n3_ n4_ n5_; clear ho hb hg hat))
    go_roundg k1
    case measure => have := HK1.out; omega
    case rel => exact ⟨(y393), (true), (wrap64 (x7_1 + 1)), zr, zr, H', ⟨by have := HK1.out; omega⟩, ⟨mV_ HO_0.out⟩, ⟨mV_ HO_1.out⟩, ⟨mN_ HO395.out⟩, ⟨zb⟩⟩
   replace c11 := Bool.eq_false_iff.mpr c11
   subst c11
   have H1 : (if x5_1.length < 5864062014805 then ((some (x5_1 ++ [l1] : List (List (S25)))).bind fun y396 => (if y396.length < 5864062014805 then (spec_l03Add.l0 k1 l0 l1 (y396 ++ [rd_L2 l0 x7_1]) true (wrap64 (x7_1 + 1))) else (none))) else (none)) = some r := by rw [if_neg (show ¬ (false = true) by decide)] at H; exact H
   clear H
   have H := H1
   clear H1
   by_cases c15 : x5_1.length < 5864062014805
   rotate_left
   ·rw [if_neg c15] at H
    exact absurd H (by simp)
   rw [if_pos c15] at H
   have LMc15 := aM c15
   clear c15
   obtain ⟨y396, hy396⟩ : ∃ y_ : List (List (S25)), y_ = (x5_1 ++ [l1]) := ⟨_, rfl⟩
   replace H : (if y396.length < 5864062014805 then (spec_l03Add.l0 k1 l0 l1 (y396 ++ [rd_L2 l0 x7_1]) true (wrap64 (x7_1 + 1))) else (none)) = some r := zy H hy396
   have Ny396 := aM hy396
   clear hy396
   by_cases c16 : y396.length < 5864062014805
   rotate_left
   ·rw [if_neg c16] at H
    exact absurd H (by simp)
   rw [if_pos c16] at H
   have LMc16 := aM c16
   clear c16
   obtain ⟨y400, hy400⟩ : ∃ y_ : List (List (S25)), y_ = (y396 ++ [rd_L2 l0 x7_1]) := ⟨_, rfl⟩
   replace H : (spec_l03Add.l0 k1 l0 l1 y400 true (wrap64 (x7_1 + 1))) = some r := zy H hy400
   have Ny400 := aM hy400
   clear hy400
   have H' := aM H
   clear H
   have p390 : 0 ≤ (x7_1 : Int) := of_decide_eq_true za
   have q390 : x7_1 < (l0.length : Int) := of_decide_eq_true za
   obtain ⟨ad390, A390_0, c390_0, e390, hx390_0, hl390_0, hi390_0⟩ := at_L2 (Kd.V_reads' HO_0.out).2.2 x7_1 p390 q390
   cases e390
   obtain ⟨ce390, hce390, hMe390, hcc390⟩ := Kd.V_get HO_0.out [] x7_1 p390 (by first | exact q390 | exact of_decide_eq_true za | (have e_ := (Kd.V_reads' HO_0.out).1; omega))
   obtain ⟨ua390_0, uc390_0, rfl, ul390_0, ge390_0⟩ := Kd.FK_slice_open hMe390
   have hv390_0 := hcc390 0 _ rfl
   rw [Nat.add_zero, show ((Kd.slice 25 k25)).sz = 1 from rfl, Nat.mul_one] at hv390_0
   replace hv390_0 := Option.some.inj (hv390_0.symm.trans hx390_0)
   injection hv390_0 with hva_ hvn_ hvc_
   rw [hva_] at ge390_0
   rw [hvc_] at ul390_0
   have HL390_0 := aM (show Kd.V k25 25 _ w.heap.size _ _ (rd_L2 l0 x7_1) from Kd.V_mk ul390_0 ge390_0)
   clear hva_ hvn_ hvc_ ge390_0 ul390_0
   clear hcc390 hce390
   have HR390_0 := aM hi390_0
   have HC390_0 := aM hl390_0
   clear hi390_0 hl390_0
   replace p390 := eq_true p390
   replace q390 := eq_true q390
   go_wp2_with (first | ((with_reducible refine gate_callee (f := 44) rfl ?_); refine goesL_ (some 21) rfl rfl Tryz.func44 (by kernel_rfl) rfl #[.slice A1 l1.length c1, .slice A390_0 (rd_L2 l0 x7_1).length c390_0] rfl zm ?_; (with_reducible refine (spec_CompareShapes.calls k1 _ _ l1 _ _ (rd_L2 l0 x7_1) t391 _ ?side1 ?side2 ?side3 ?side4 A7.out).mono ?_); (case side1 => repeat (first | exact (Kd.V_reads' HO_1.out).2.2 | (with_reducible refine Kd.C_alloc ?_ _) | (with_reducible refine Kd.C_drewN ?_ _) | (with_reducible refine Kd.C_drew ?_))); (case side2 => exact (Kd.V_reads' HO_1.out).2.1); (case side3 => repeat (first | exact (mQ_ HR390_0.out) | (with_reducible refine Kd.C_alloc ?_ _) | (with_reducible refine Kd.C_drewN ?_ _) | (with_reducible refine Kd.C_drew ?_))); (case side4 => exact HC390_0.out); rintro e w17 ⟨rfl, hb⟩; refine ⟨_, rfl, ?_⟩; have n0_ := aM (Kd.V_below (mV_ HO_0.out) hb); have n1_ := aM (Kd.V_below (mV_ HO_1.out) hb); have n2_ := aM (Kd.N_below (mN_ HO_5.out) hb); have n3_ := aM (Kd.V_below (mV_ HL390_0.out) hb); have n4_ := aM (Kd.C_below (mQ_ HR390_0.out) hb); have n5_ := aM (below_step zb hb); clear HO_0; clear HO_1; clear HO_5; clear HL390_0; clear HR390_0; clear HB; have HO_0 := n0_; have HO_1 := n1_; have HO_5 := n2_; have HL390_0 := n3_; have HR390_0 := n4_; have HB := n5_; clear n0_ n1_ n2_ n3_ n4_ n5_; (try clear hb); (try clear hb2); (try clear hk); (try clear hi)) | ((with_reducible refine gate_builtin (b := .append) (xs := #[.tmp 31, .tmp 33]) rfl ?_); at_builtin; refine Kd.N_append (Kd.slice 25 k25) (w0 := w) w.heap.size rfl (.tmp 31) (.tmp 33) 39 27 (.slice none 0 0) 24 rfl Tryz.underlying39 info27 rfl (by decide) (by omega) u5 x5_1 l1 [.slice A1 l1.length c1] (fun k_ => ((P0_ k_ ∨ P1_ k_) ∨ w.heap.size ≤ k_)) (fun k_ => ((fun k_ => ((P0_ k_ ∨ P1_ k_) ∨ w.heap.size ≤ k_))) k_ ∧ some k_ ≠ (u5 : Value).ownBlock) rfl rfl ?aP (fun _ hk => hk) ?aF ?aO ?aB ?aS ?aL ?_; (case aP => first | exact (Kd.FK_slice_mk (Kd.V_reads' (Kd.V_mono (ok' := (fun k_ => ((fun k_ => ((P0_ k_ ∨ P1_ k_) ∨ w.heap.size ≤ k_))) k_ ∧ some k_ ≠ (u5 : Value).ownBlock)) (Kd.V_drewN HO_1.out _) (fun k_ hk => ⟨hk.1, hk.2⟩))).2.1 (Kd.V_F (Kd.V_mono (ok' := (fun k_ => ((fun k_ => ((P0_ k_ ∨ P1_ k_) ∨ w.heap.size ≤ k_))) k_ ∧ some k_ ≠ (u5 : Value).ownBlock)) (Kd.V_drewN HO_1.out _) (fun k_ hk => ⟨hk.1, hk.2⟩)))) | exact (Kd.FK_slice_mk (Kd.V_reads' (Kd.V_mono (ok' := (fun k_ => ((fun k_ => ((P0_ k_ ∨ P1_ k_) ∨ w.heap.size ≤ k_))) k_ ∧ some k_ ≠ (u5 : Value).ownBlock)) (HO_1.out) (fun k_ hk => ⟨hk.1, hk.2⟩))).2.1 (Kd.V_F (Kd.V_mono (ok' := (fun k_ => ((fun k_ => ((P0_ k_ ∨ P1_ k_) ∨ w.heap.size ≤ k_))) k_ ∧ some k_ ≠ (u5 : Value).ownBlock)) (HO_1.out) (fun k_ hk => ⟨hk.1, hk.2⟩)))) | exact (Kd.FK_slice_mk (Kd.V_reads' (Kd.V_mono (ok' := (fun k_ => ((fun k_ => ((P0_ k_ ∨ P1_ k_) ∨ w.heap.size ≤ k_))) k_ ∧ some k_ ≠ (u5 : Value).ownBlock)) (Kd.V_alloc (Kd.V_drewN HO_1.out _) _) (fun k_ hk => ⟨hk.1, hk.2⟩))).2.1 (Kd.V_F (Kd.V_mono (ok' := (fun k_ => ((fun k_ => ((P0_ k_ ∨ P1_ k_) ∨ w.heap.size ≤ k_))) k_ ∧ some k_ ≠ (u5 : Value).ownBlock)) (Kd.V_alloc (Kd.V_drewN HO_1.out _) _) (fun k_ hk => ⟨hk.1, hk.2⟩)))) | (have h2_ := Kd.V_mono (ok' := (fun k_ => ((fun k_ => ((P0_ k_ ∨ P1_ k_) ∨ w.heap.size ≤ k_))) k_ ∧ some k_ ≠ (u5 : Value).ownBlock)) (Kd.V_drewN HO_1.out nd) (fun k_ hk => ⟨hk.1, hk.2⟩); exact Kd.FK_slice_mk (Kd.V_reads' h2_).2.1 (Kd.V_F h2_))); (case aB => exact zb); (case aF => exact (fun k_ hk => (.inr (Nat.le_trans (below_size zb) hk)))); (case aO => exact (mN_ HO_5.out)); (case aS => exact (below_size zb)); (case aL => have := LMc15.out; omega); intro v397 w18 ho hb hg hat; rw [← Ny396.out] at ho; have n0_ := aM (Kd.V_afterv (ok := (fun k_ => ((P0_ k_ ∨ P1_ k_) ∨ w.heap.size ≤ k_))) (mV_ HO_0.out) hg hat); have n1_ := aM (Kd.V_afterv (ok := (fun k_ => ((P0_ k_ ∨ P1_ k_) ∨ w.heap.size ≤ k_))) (mV_ HO_1.out) hg hat); have n2_ := aM (Kd.V_afterv (ok := (fun k_ => ((P0_ k_ ∨ P1_ k_) ∨ w.heap.size ≤ k_))) (mV_ HL390_0.out) hg hat); have n3_ := aM (hb); have n4_ := aM (ho); clear HO_0; clear HO_1; clear HL390_0; clear HB; clear HO_5; have HO_0 := n0_; have HO_1 := n1_; have HL390_0 := n2_; have HB := n3_; have HO398 := n4_; clear n0_ n1_ n2_ n3_ n4_; clear ho hb hg hat; have p399 : 0 ≤ (x7_1 : Int) := of_decide_eq_true za; have q399 : x7_1 < (l0.length : Int) := of_decide_eq_true za; obtain ⟨ad399, A399_0, c399_0, e399, hx399_0, hl399_0, hi399_0⟩ := at_L2 (Kd.V_reads' HO_0.out).2.2 x7_1 p399 q399; obtain rfl : ad390 = ad399 := (by injection e399); obtain ⟨ce399, hce399, hMe399, hcc399⟩ := Kd.V_get HO_0.out [] x7_1 p399 (by first | exact q399 | exact of_decide_eq_true za | (have e_ := (Kd.V_reads' HO_0.out).1; omega)); obtain ⟨ua399_0, uc399_0, rfl, ul399_0, ge399_0⟩ := Kd.FK_slice_open hMe399; have hv399_0 := hcc399 0 _ rfl; rw [Nat.add_zero, show ((Kd.slice 25 k25)).sz = 1 from rfl, Nat.mul_one] at hv399_0; replace hv399_0 := Option.some.inj (hv399_0.symm.trans hx399_0); injection hv399_0 with hva_ hvn_ hvc_; rw [hva_] at ge399_0; rw [hvc_] at ul399_0; have HL399_0 := aM (show Kd.V k25 25 _ w.heap.size _ _ (rd_L2 l0 x7_1) from Kd.V_mk ul399_0 ge399_0); clear hva_ hvn_ hvc_ ge399_0 ul399_0; clear hcc399 hce399; have HR399_0 := aM hi399_0; have HC399_0 := aM hl399_0; clear hi399_0 hl399_0; replace p399 := eq_true p399; replace q399 := eq_true q399) | ((with_reducible refine gate_builtin (b := .append) (xs := #[.tmp 35, .tmp 40]) rfl ?_); at_builtin; refine Kd.N_append (Kd.slice 25 k25) (w0 := w) w.heap.size rfl (.tmp 35) (.tmp 40) 39 27 (.slice none 0 0) 24 rfl Tryz.underlying39 info27 rfl (by decide) (by omega) v397 y396 (rd_L2 l0 x7_1) [.slice A399_0 (rd_L2 l0 x7_1).length c399_0] (fun k_ => ((P0_ k_ ∨ P1_ k_) ∨ w.heap.size ≤ k_)) (fun k_ => ((fun k_ => ((P0_ k_ ∨ P1_ k_) ∨ w.heap.size ≤ k_))) k_ ∧ some k_ ≠ (v397 : Value).ownBlock) rfl rfl ?aP (fun _ hk => hk) ?aF ?aO ?aB ?aS ?aL ?_; (case aP => first | exact (Kd.FK_slice_mk (Kd.V_reads' (Kd.V_mono (ok' := (fun k_ => ((fun k_ => ((P0_ k_ ∨ P1_ k_) ∨ w.heap.size ≤ k_))) k_ ∧ some k_ ≠ (v397 : Value).ownBlock)) (Kd.V_drewN HL399_0.out _) (fun k_ hk => ⟨hk.1, hk.2⟩))).2.1 (Kd.V_F (Kd.V_mono (ok' := (fun k_ => ((fun k_ => ((P0_ k_ ∨ P1_ k_) ∨ w.heap.size ≤ k_))) k_ ∧ some k_ ≠ (v397 : Value).ownBlock)) (Kd.V_drewN HL399_0.out _) (fun k_ hk => ⟨hk.1, hk.2⟩)))) | exact (Kd.FK_slice_mk (Kd.V_reads' (Kd.V_mono (ok' := (fun k_ => ((fun k_ => ((P0_ k_ ∨ P1_ k_) ∨ w.heap.size ≤ k_))) k_ ∧ some k_ ≠ (v397 : Value).ownBlock)) (HL399_0.out) (fun k_ hk => ⟨hk.1, hk.2⟩))).2.1 (Kd.V_F (Kd.V_mono (ok' := (fun k_ => ((fun k_ => ((P0_ k_ ∨ P1_ k_) ∨ w.heap.size ≤ k_))) k_ ∧ some k_ ≠ (v397 : Value).ownBlock)) (HL399_0.out) (fun k_ hk => ⟨hk.1, hk.2⟩)))) | exact (Kd.FK_slice_mk (Kd.V_reads' (Kd.V_mono (ok' := (fun k_ => ((fun k_ => ((P0_ k_ ∨ P1_ k_) ∨ w.heap.size ≤ k_))) k_ ∧ some k_ ≠ (v397 : Value).ownBlock)) (Kd.V_alloc (Kd.V_drewN HL399_0.out _) _) (fun k_ hk => ⟨hk.1, hk.2⟩))).2.1 (Kd.V_F (Kd.V_mono (ok' := (fun k_ => ((fun k_ => ((P0_ k_ ∨ P1_ k_) ∨ w.heap.size ≤ k_))) k_ ∧ some k_ ≠ (v397 : Value).ownBlock)) (Kd.V_alloc (Kd.V_drewN HL399_0.out _) _) (fun k_ hk => ⟨hk.1, hk.2⟩)))) | (have h2_ := Kd.V_mono (ok' := (fun k_ => ((fun k_ => ((P0_ k_ ∨ P1_ k_) ∨ w.heap.size ≤ k_))) k_ ∧ some k_ ≠ (v397 : Value).ownBlock)) (Kd.V_drewN HL399_0.out nd) (fun k_ hk => ⟨hk.1, hk.2⟩); exact Kd.FK_slice_mk (Kd.V_reads' h2_).2.1 (Kd.V_F h2_))); (case aB => exact zb); (case aF => exact (fun k_ hk => (.inr (Nat.le_trans (below_size zb) hk)))); (case aO => exact (mN_ HO398.out)); (case aS => exact (below_size zb)); (case aL => have := LMc16.out; omega); intro v401 w19 ho hb hg hat; rw [← Ny400.out] at ho; have n0_ := aM (Kd.V_afterv (ok := (fun k_ => ((P0_ k_ ∨ P1_ k_) ∨ w.heap.size ≤ k_))) (mV_ HO_0.out) hg hat); have n1_ := aM (Kd.V_afterv (ok := (fun k_ => ((P0_ k_ ∨ P1_ k_) ∨ w.heap.size ≤ k_))) (mV_ HO_1.out) hg hat); have n2_ := aM (Kd.V_afterv (ok := (fun k_ => ((P0_ k_ ∨ P1_ k_) ∨ w.heap.size ≤ k_))) (mV_ HL390_0.out) hg hat); have n3_ := aM (Kd.V_afterv (ok := (fun k_ => ((P0_ k_ ∨ P1_ k_) ∨ w.heap.size ≤ k_))) (mV_ HL399_0.out) hg hat); have n4_ := aM (hb); have n5_ := aM (ho); clear HO_0; clear HO_1; clear HL390_0; clear HL399_0; clear HB; clear HO398; have HO_0 := n0_; have HO_1 := n1_; have HL390_0 := n2_; have HL399_0 := n3_; have HB := n4_; have HO402 := n5_; clear n0_ n1_ n2_ n3_ n4_ n5_; clear ho hb hg hat))
   go_roundg k1
   case measure => have := HK1.out; omega
   case rel => exact ⟨(y400), (true), (wrap64 (x7_1 + 1)), zr, zr, H', ⟨by have := HK1.out; omega⟩, ⟨mV_ HO_0.out⟩, ⟨mV_ HO_1.out⟩, ⟨mN_ HO402.out⟩, ⟨zb⟩⟩
def spec_l02Least.l0 : Nat → List (S25) → Int → Int → Int → Option (Int × Int)
 | 0, _, _, _, _ => none
 | k + 1, x0, x4, x5, x6 => if x6 < (x0.length : Int) then (if 0 ≤ x6 then (spec_l02Least.l0 k x0 (mn x4 ((rd_T25 x0 x6).f0)) (mn x5 ((rd_T25 x0 x6).f1)) (wrap64 (x6 + 1))) else (none)) else (some (x4, x5))
def spec_l02Least.f (k : Nat) (l0 : List (S25)) : Option (Int × Int) := if 0 < (l0.length : Int) then (spec_l02Least.l0 k l0 ((rd_T25 l0 0).f0) ((rd_T25 l0 0).f1) 1) else (none)
theorem spec_l02Least.calls (k : Nat) (A0 : Option Addr) (c0 : Nat) (l0 : List (S25)) (r1 : Int) (r2 : Int) (w : World) (hr0 : Kd.C k25 w A0 l0.length l0) (hc0 : l0.length ≤ c0) (h : spec_l02Least.f k l0 = some (r1, r2)) :
  Calls Tryz.prog 55 #[.slice A0 l0.length c0] w fun e w' => e = .returned (.tuple #[.int .i64 r1, .int .i64 r2]) ∧ Below w.heap.size w w' := by
 have HR0 := aM hr0
 have HC0 := aM hc0
 clear hr0 hc0
 have HB := aM (Below.refl w.heap.size w)
 have H : (if 0 < (l0.length : Int) then (spec_l02Least.l0 k l0 ((rd_T25 l0 0).f0) ((rd_T25 l0 0).f1) 1) else (none)) = some (r1, r2) := h
 clear h
 by_cases c2 : 0 < (l0.length : Int)
 rotate_left
 ·rw [if_neg c2] at H
  exact absurd H (by simp)
 rw [if_pos c2] at H
 have c2b0 : decide (0 < (l0.length : Int)) = true := decide_eq_true c2
 have c2b1 : decide (0 < l0.length) = true := decide_eq_true (by omega)
 clear c2
 have H' := aM H
 clear H
 have p407 : 0 ≤ (0 : Int) := (by omega)
 have q407 : 0 < (l0.length : Int) := of_decide_eq_true za
 obtain ⟨ad407, e407, hx407_0, hx407_1⟩ := at_T25 HR0.out 0 p407 q407
 cases e407
 have qi407 : (0 < l0.length) = True := eq_true (by omega)
 (try rw [show ((0 : Int)).toNat = 0 from rfl] at hx407_0)
 (try rw [show 0 * 2 = 0 from rfl] at hx407_0)
 (try rw [Addr.add_zero'] at hx407_0)
 (try rw [show ((0 : Int)).toNat = 0 from rfl] at hx407_1)
 (try rw [show 0 * 2 = 0 from rfl] at hx407_1)
 (try rw [Addr.add_zero'] at hx407_1)
 replace p407 := eq_true p407
 replace q407 := eq_true q407
 have p408 : 0 ≤ (0 : Int) := (by omega)
 have q408 : 0 < (l0.length : Int) := of_decide_eq_true za
 obtain ⟨ad408, e408, hx408_0, hx408_1⟩ := at_T25 HR0.out 0 p408 q408
 obtain rfl : ad407 = ad408 := (by injection e408)
 have qi408 : (0 < l0.length) = True := eq_true (by omega)
 (try rw [show ((0 : Int)).toNat = 0 from rfl] at hx408_0)
 (try rw [show 0 * 2 = 0 from rfl] at hx408_0)
 (try rw [Addr.add_zero'] at hx408_0)
 (try rw [show ((0 : Int)).toNat = 0 from rfl] at hx408_1)
 (try rw [show 0 * 2 = 0 from rfl] at hx408_1)
 (try rw [Addr.add_zero'] at hx408_1)
 replace p408 := eq_true p408
 replace q408 := eq_true q408
 go_enter Tryz.func55, Tryz.ntmps55
 go_wp2
 repeat (go_quiet (fail); try go_wp2)
 go_loopg [4, 5, 6] k (fun kq v4 v5 v6 w' => ∃ (x4_1 : Int) (x5_1 : Int) (x6_1 : Int), v4 = .int .i64 x4_1 ∧ v5 = .int .i64 x5_1 ∧ v6 = .int .i64 x6_1 ∧ Aside0 (spec_l02Least.l0 kq l0 x4_1 x5_1 x6_1 = some (r1, r2)) ∧ Aside0 (kq ≤ k) ∧ Aside0 (Below w.heap.size w w'))
 case atStart => exact ⟨((rd_T25 l0 0).f0), ((rd_T25 l0 0).f1), (1), zr, zr, zr, H', ⟨Nat.le_refl _⟩, ⟨zb⟩⟩
 case round =>
  clear H'
  try clear c2
  try clear c2b0
  try clear c2b1
  try clear p2
  try clear hx407_0
  try clear hx407_1
  try clear hx408_0
  try clear hx408_1
  try clear p407
  try clear p408
  try clear q407
  try clear q408
  obtain ⟨x4_1, x5_1, x6_1, rfl, rfl, rfl, HA, HK1, HB⟩ := hrel
  cases gk with
  | zero => exact absurd HA.out (by simp [spec_l02Least.l0])
  | succ k1 =>
   have H := HA.out
   clear HA
   simp only [spec_l02Least.l0] at H
   by_cases c3 : x6_1 < (l0.length : Int)
   rotate_left
   ·rw [if_neg c3] at H
    have c3b0 : decide (x6_1 < (l0.length : Int)) = false := decide_eq_false c3
    clear c3
    simp only [Option.some.injEq, Prod.mk.injEq] at H
    obtain ⟨rfl, rfl⟩ := H
    go_wp2
    repeat (go_quiet (fail); try go_wp2)
    go_ret2
    exact ⟨zw, zb⟩
   rw [if_pos c3] at H
   have c3b0 : decide (x6_1 < (l0.length : Int)) = true := decide_eq_true c3
   clear c3
   by_cases c4 : 0 ≤ x6_1
   rotate_left
   ·rw [if_neg c4] at H
    exact absurd H (by simp)
   rw [if_pos c4] at H
   have c4b0 : decide (0 ≤ x6_1) = true := decide_eq_true c4
   clear c4
   obtain ⟨ji5, hji5⟩ : ∃ j_ : Int, (mn x4_1 ((rd_T25 l0 x6_1).f0)) = j_ := ⟨_, rfl⟩
   replace H : (spec_l02Least.l0 k1 l0 ji5 (mn x5_1 ((rd_T25 l0 x6_1).f1)) (wrap64 (x6_1 + 1))) = some (r1, r2) := by first | (rw [hji5] at H; exact H) | (simp only [hji5] at H ⊢; exact H)
   have hji5_ : (if ((rd_T25 l0 x6_1).f0) < x4_1 then ((rd_T25 l0 x6_1).f0) else x4_1) = ji5 := hji5
   obtain ⟨ji6, hji6⟩ : ∃ j_ : Int, (mn x5_1 ((rd_T25 l0 x6_1).f1)) = j_ := ⟨_, rfl⟩
   replace H : (spec_l02Least.l0 k1 l0 ji5 ji6 (wrap64 (x6_1 + 1))) = some (r1, r2) := by first | (rw [hji6] at H; exact H) | (simp only [hji6] at H ⊢; exact H)
   have hji6_ : (if ((rd_T25 l0 x6_1).f1) < x5_1 then ((rd_T25 l0 x6_1).f1) else x5_1) = ji6 := hji6
   have H' := aM H
   clear H
   have p409 : 0 ≤ (x6_1 : Int) := of_decide_eq_true za
   have q409 : x6_1 < (l0.length : Int) := of_decide_eq_true za
   obtain ⟨ad409, e409, hx409_0, hx409_1⟩ := at_T25 HR0.out x6_1 p409 q409
   obtain rfl : ad407 = ad409 := (by injection e409)
   replace hx409_0 := (HB.out.cell (World.block_lt_of_cell? w _ hx409_0)).trans hx409_0
   replace hx409_1 := (HB.out.cell (World.block_lt_of_cell? w _ hx409_1)).trans hx409_1
   replace p409 := eq_true p409
   replace q409 := eq_true q409
   have p410 : 0 ≤ (x6_1 : Int) := of_decide_eq_true za
   have q410 : x6_1 < (l0.length : Int) := of_decide_eq_true za
   obtain ⟨ad410, e410, hx410_0, hx410_1⟩ := at_T25 HR0.out x6_1 p410 q410
   obtain rfl : ad407 = ad410 := (by injection e410)
   replace hx410_0 := (HB.out.cell (World.block_lt_of_cell? w _ hx410_0)).trans hx410_0
   replace hx410_1 := (HB.out.cell (World.block_lt_of_cell? w _ hx410_1)).trans hx410_1
   replace p410 := eq_true p410
   replace q410 := eq_true q410
   go_wp2
   repeat (go_quiet (fail); try go_wp2)
   go_roundg k1
   case measure => have := HK1.out; omega
   case rel => exact ⟨(ji5), (ji6), (wrap64 (x6_1 + 1)), (by first | rfl | (simp; done) | (simp only [← hji5] <;> (first | rfl | simp)) | (simp [*]; done)), (by first | rfl | (simp; done) | (simp only [← hji6] <;> (first | rfl | simp)) | (simp [*]; done)), zr, H', ⟨by have := HK1.out; omega⟩, ⟨zb⟩⟩
def spec_l02Move.l0 : Nat → List (S25) → Int → Int → List (S25) → Int → Option ((List (S25)))
 | 0, _, _, _, _, _ => none
 | k + 1, x0, x1, x2, x7, x8 => if x8 < (x0.length : Int) then (if 0 ≤ x8 then (if x7.length < 8796093022208 then (spec_l02Move.l0 k x0 x1 x2 (x7 ++ [(⟨wrap64 (((rd_T25 x0 x8).f0) + x1), wrap64 (((rd_T25 x0 x8).f1) + x2)⟩ : S25)]) (wrap64 (x8 + 1))) else (none)) else (none)) else (some x7)
def spec_l02Move.f (k : Nat) (l0 : List (S25)) (a1 : Int) (a2 : Int) : Option ((List (S25))) := spec_l02Move.l0 k l0 a1 a2 (([] : List (S25))) 0
def spec_l02Move.T5 : Bool × List (List Nat × List Nat) := (true, [([], []), ([], []), ([], []), ([1, 2], [1, 2]), ([3], [3]), ([4], [4]), ([], []), ([5, 6], [5, 6]), ([], []), ([], []), ([8, 9], [8, 9]), ([10], [10]), ([11], [11]), ([], []), ([12, 13], [12, 13]), ([7, 14], [7, 14]), ([15], [15]), ([0, 16], [0, 16]), ([17, 17, 0, 1, 2, 3, 4, 5, 6, 7, 8, 9, 10, 11, 12, 13, 14, 15, 16, 17], [0, 17])])
def spec_l02Move.B5 : List Nat := [0, 0, 0, 6, 14, 30, 0, 126, 0, 0, 768, 1792, 3840, 0, 16128, 32766, 65534, 131071, 262143]
theorem spec_l02Move.tab5 : rtab .any (opsOf Tryz.f56 5) = spec_l02Move.T5 := by kernel_rfl
theorem spec_l02Move.bits5 : waitsOk spec_l02Move.T5.2 spec_l02Move.B5 = true := by kernel_rfl
theorem spec_l02Move.calls (k : Nat) (A0 : Option Addr) (c0 : Nat) (l0 : List (S25)) (a1 : Int) (a2 : Int) (r : List (S25)) (w : World) (hr0 : Kd.C k25 w A0 l0.length l0) (hc0 : l0.length ≤ c0) (h : spec_l02Move.f k l0 a1 a2 = some r) :
  Calls Tryz.prog 56 #[.slice A0 l0.length c0, .int .i64 a1, .int .i64 a2] w fun e w' => ∃ v0_ : Value, e = .returned (v0_) ∧ Kd.R k25 25 w' w.heap.size (fun _ => True) v0_ r ∧ Below w.heap.size w w' := by
 have hu25 := Tryz.underlying25
 have HR0 := aM hr0
 have HC0 := aM hc0
 clear hr0 hc0
 have HB := aM (Below.refl w.heap.size w)
 have H : (spec_l02Move.l0 k l0 a1 a2 (([] : List (S25))) 0) = some r := h
 clear h
 obtain ⟨y411, hy411⟩ : ∃ y_ : List (S25), y_ = (([] : List (S25))) := ⟨_, rfl⟩
 replace H : (spec_l02Move.l0 k l0 a1 a2 y411 0) = some r := zy H hy411
 have Ny411 := aM hy411
 clear hy411
 have H' := aM H
 clear H
 go_enter Tryz.func56, Tryz.ntmps56
 go_wp2_with (first | ((with_reducible refine gate_dst (N := 9) rfl ?_); refine Kd.R_lit k25 _ 25 ?hg (N := 9) ?hd (xs := ([] : List (S25))) (inner := []) (ok := fun _ => True) (okp := fun _ => True) ?hr ?hp (fun _ hk => hk) trivial (Below.refl _ _) (Nat.le_refl _) (by simp) ?_; (case hd => rfl); (case hg => rfl); (case hr => first | (go_simp; done) | (go_simp; rfl)); (case hp => exact (Reps.none _ _)); intro v412 w4 ho5 hb hg_ hnew_; clear hg_ hnew_; (first | rw [← Ny411.out] at ho5 | (simp only [Int.reduceToNat] at ho5; rw [← Ny411.out] at ho5)); have n0_ := aM (Kd.R_lower ho5 (below_size zb)); have n1_ := aM (below_step zb hb); clear HB; have HO413 := n0_; have HB := n1_; clear n0_ n1_; clear hb ho5))
 go_loopg [7, 8] k (fun kq v7 v8 w' => ∃ (x7_1 : List (S25)) (x8_1 : Int), v8 = .int .i64 x8_1 ∧ Aside0 (spec_l02Move.l0 kq l0 a1 a2 x7_1 x8_1 = some r) ∧ Aside0 (kq ≤ k) ∧ Aside0 (Kd.R k25 25 w' w.heap.size (fun _ => True) v7 x7_1) ∧ Aside0 (Below w.heap.size w w'))
 case atStart => exact ⟨(y411), (0), zr, H', ⟨Nat.le_refl _⟩, ⟨mR_ HO413.out⟩, ⟨zb⟩⟩
 case round =>
  clear H'
  try clear p2
  try clear c5
  obtain ⟨x7_1, x8_1, rfl, HA, HK1, HO_7, HB⟩ := hrel
  cases gk with
  | zero => exact absurd HA.out (by simp [spec_l02Move.l0])
  | succ k1 =>
   have H := HA.out
   clear HA
   simp only [spec_l02Move.l0] at H
   by_cases c6 : x8_1 < (l0.length : Int)
   rotate_left
   ·rw [if_neg c6] at H
    have c6b0 : decide (x8_1 < (l0.length : Int)) = false := decide_eq_false c6
    clear c6
    obtain rfl := Option.some.inj H
    go_wp2
    go_ret
    exact ⟨_, zw, mR_ HO_7.out, zb⟩
   rw [if_pos c6] at H
   have c6b0 : decide (x8_1 < (l0.length : Int)) = true := decide_eq_true c6
   clear c6
   by_cases c7 : 0 ≤ x8_1
   rotate_left
   ·rw [if_neg c7] at H
    exact absurd H (by simp)
   rw [if_pos c7] at H
   have c7b0 : decide (0 ≤ x8_1) = true := decide_eq_true c7
   clear c7
   by_cases c8 : x7_1.length < 8796093022208
   rotate_left
   ·rw [if_neg c8] at H
    exact absurd H (by simp)
   rw [if_pos c8] at H
   have LMc8 := aM c8
   clear c8
   obtain ⟨y416, hy416⟩ : ∃ y_ : List (S25), y_ = (x7_1 ++ [(⟨wrap64 (((rd_T25 l0 x8_1).f0) + a1), wrap64 (((rd_T25 l0 x8_1).f1) + a2)⟩ : S25)]) := ⟨_, rfl⟩
   replace H : (spec_l02Move.l0 k1 l0 a1 a2 y416 (wrap64 (x8_1 + 1))) = some r := zy H hy416
   have Ny416 := aM hy416
   clear hy416
   have H' := aM H
   clear H
   try go_wp2
   have n0_ := aM (Kd.R_drew HO_7.out)
   have n1_ := aM (below_drew1 HB.out)
   clear HO_7
   clear HB
   have HO_7 := n0_
   have HB := n1_
   clear n0_ n1_
   have p414 : 0 ≤ (x8_1 : Int) := of_decide_eq_true za
   have q414 : x8_1 < (l0.length : Int) := of_decide_eq_true za
   obtain ⟨ad414, e414, hx414_0, hx414_1⟩ := at_T25 HR0.out x8_1 p414 q414
   have hw414_1 := hx414_1
   have hw414_0 := hx414_0
   cases e414
   replace hx414_0 := (HB.out.cell (World.block_lt_of_cell? w _ hx414_0)).trans hx414_0
   replace hx414_1 := (HB.out.cell (World.block_lt_of_cell? w _ hx414_1)).trans hx414_1
   replace p414 := eq_true p414
   replace q414 := eq_true q414
   have p415 : 0 ≤ (x8_1 : Int) := of_decide_eq_true za
   have q415 : x8_1 < (l0.length : Int) := of_decide_eq_true za
   obtain ⟨ad415, e415, hx415_0, hx415_1⟩ := at_T25 HR0.out x8_1 p415 q415
   have hw415_1 := hx415_1
   have hw415_0 := hx415_0
   obtain rfl : ad414 = ad415 := (by injection e415)
   replace hx415_0 := (HB.out.cell (World.block_lt_of_cell? w _ hx415_0)).trans hx415_0
   replace hx415_1 := (HB.out.cell (World.block_lt_of_cell? w _ hx415_1)).trans hx415_1
   replace p415 := eq_true p415
   replace q415 := eq_true q415
   refine start_ (n := 19) (S := fun w' => w'.cell? (ad414.add ((x8_1).toNat * 2)) = some (.int .i64 ((rd_T25 l0 x8_1).f0)) ∧ w'.cell? ⟨(ad414.add ((x8_1).toNat * 2)).block, (ad414.add ((x8_1).toNat * 2)).off + 1, none⟩ = some (.int .i64 ((rd_T25 l0 x8_1).f1)) ∧ w'.cell? (ad414.add ((x8_1).toNat * 2)) = some (.int .i64 ((rd_T25 l0 x8_1).f0)) ∧ w'.cell? ⟨(ad414.add ((x8_1).toNat * 2)).block, (ad414.add ((x8_1).toNat * 2)).off + 1, none⟩ = some (.int .i64 ((rd_T25 l0 x8_1).f1))) (ds := []) #[false, false, false, false, false, false, false, false, false, false, false, false, false, false, false, false, false, false, false] (by kernel_rfl) rfl rfl ⟨((HB.out.cell (World.block_lt_of_cell? w _ hw414_0)).trans hw414_0), ((HB.out.cell (World.block_lt_of_cell? w _ hw414_1)).trans hw414_1), ((HB.out.cell (World.block_lt_of_cell? w _ hw415_0)).trans hw415_0), ((HB.out.cell (World.block_lt_of_cell? w _ hw415_1)).trans hw415_1)⟩ (fun hHeld => ?_); refine with_tabW spec_l02Move.tab5 spec_l02Move.bits5 (fun HT_ HW_ => ?_)
   generalize wr.drew = w9 at HO_7 HB hx414_0 hx414_1 hx415_0 hx415_1 hHeld ⊢
   refine pure_ (i := 0) (N := some 16) (v := ?_) (a' := ?_) #[true, false, false, false, false, false, false, false, false, false, false, false, false, false, false, false, false, false, false] rfl rfl zz (fun _ _ _ h => h) (Or.inl ⟨by rfl, ?_⟩) ?_ ?_
   rotate_left
   ·intro w'
    go_simp
    with_reducible rfl
   rotate_left
   ·simp only [Act.put, xA, xB, xC, i64_w, i32_w]
    rfl
   refine pure_ (i := 1) (N := some 17) (v := ?_) (a' := ?_) #[true, true, false, false, false, false, false, false, false, false, false, false, false, false, false, false, false, false, false] rfl rfl zz (fun _ _ _ h => h) (Or.inl ⟨by rfl, ?_⟩) ?_ ?_
   rotate_left
   ·intro w'
    go_simp
    with_reducible rfl
   rotate_left
   ·simp only [Act.put, xA, xB, xC, i64_w, i32_w]
    rfl
   refine pure_ (i := 2) (N := some 18) (v := ?_) (a' := ?_) #[true, true, true, false, false, false, false, false, false, false, false, false, false, false, false, false, false, false, false] rfl rfl zz (fun _ _ _ h => h) (Or.inl ⟨by rfl, ?_⟩) ?_ ?_
   rotate_left
   ·intro w'
    go_simp
    with_reducible rfl
   rotate_left
   ·simp only [Act.put, xA, xB, xC, i64_w, i32_w]
    rfl
   refine pure_ (i := 3) (N := some 19) (v := ?_) (a' := ?_) #[true, true, true, true, false, false, false, false, false, false, false, false, false, false, false, false, false, false, false] rfl rfl zz (fun _ _ _ h => h) (Or.inl ⟨by rfl, ?_⟩) ?_ ?_
   rotate_left
   ·intro w'
    go_simp
    with_reducible rfl
   rotate_left
   ·simp only [Act.put, xA, xB, xC, i64_w, i32_w]
    rfl
   refine pure_ (i := 4) (N := some 20) (v := ?_) (a' := ?_) #[true, true, true, true, true, false, false, false, false, false, false, false, false, false, false, false, false, false, false] rfl rfl zz (fun _ _ _ h => h) (Or.inl ⟨by rfl, ?_⟩) ?_ ?_
   rotate_left
   ·intro w'
    go_simp
    with_reducible rfl
   rotate_left
   ·simp only [Act.put, xA, xB, xC, i64_w, i32_w]
    rfl
   refine pure_ (i := 6) (N := some 22) (v := ?_) (a' := ?_) #[true, true, true, true, true, false, true, false, false, false, false, false, false, false, false, false, false, false, false] rfl rfl zz (fun _ _ _ h => h) (Or.inl ⟨by rfl, ?_⟩) ?_ ?_
   rotate_left
   ·intro w'
    go_simp
    with_reducible rfl
   rotate_left
   ·simp only [Act.put, xA, xB, xC, i64_w, i32_w]
    rfl
   refine pure_ (i := 8) (N := some 24) (v := ?_) (a' := ?_) #[true, true, true, true, true, false, true, false, true, false, false, false, false, false, false, false, false, false, false] rfl rfl zz (fun _ _ _ h => h) (Or.inl ⟨by rfl, ?_⟩) ?_ ?_
   rotate_left
   ·intro w'
    go_simp
    with_reducible rfl
   rotate_left
   ·simp only [Act.put, xA, xB, xC, i64_w, i32_w]
    rfl
   refine pure_ (i := 9) (N := some 25) (v := ?_) (a' := ?_) #[true, true, true, true, true, false, true, false, true, true, false, false, false, false, false, false, false, false, false] rfl rfl zz (fun _ _ _ h => h) (Or.inl ⟨by rfl, ?_⟩) ?_ ?_
   rotate_left
   ·intro w'
    go_simp
    with_reducible rfl
   rotate_left
   ·simp only [Act.put, xA, xB, xC, i64_w, i32_w]
    rfl
   refine pure_ (i := 10) (N := some 26) (v := ?_) (a' := ?_) #[true, true, true, true, true, false, true, false, true, true, true, false, false, false, false, false, false, false, false] rfl rfl zz (fun _ _ _ h => h) (Or.inl ⟨by rfl, ?_⟩) ?_ ?_
   rotate_left
   ·intro w'
    go_simp
    with_reducible rfl
   rotate_left
   ·simp only [Act.put, xA, xB, xC, i64_w, i32_w]
    rfl
   refine pure_ (i := 11) (N := some 27) (v := ?_) (a' := ?_) #[true, true, true, true, true, false, true, false, true, true, true, true, false, false, false, false, false, false, false] rfl rfl zz (fun _ _ _ h => h) (Or.inl ⟨by rfl, ?_⟩) ?_ ?_
   rotate_left
   ·intro w'
    go_simp
    with_reducible rfl
   rotate_left
   ·simp only [Act.put, xA, xB, xC, i64_w, i32_w]
    rfl
   refine pure_ (i := 13) (N := some 29) (v := ?_) (a' := ?_) #[true, true, true, true, true, false, true, false, true, true, true, true, false, true, false, false, false, false, false] rfl rfl zz (fun _ _ _ h => h) (Or.inl ⟨by rfl, ?_⟩) ?_ ?_
   rotate_left
   ·intro w'
    go_simp
    with_reducible rfl
   rotate_left
   ·simp only [Act.put, xA, xB, xC, i64_w, i32_w]
    rfl
   refine take_ (i := 5) (N := some 21) (v := ?_) (a' := ?_) #[true, true, true, true, true, true, true, false, true, true, true, true, false, true, false, false, false, false, false] rfl rfl (take_ofW HT_.out HW_.out (by kernel_rfl)) (fun _ _ _ h => h) (Or.inl ⟨by rfl, ?_⟩) hHeld ?_ ?_
   rotate_left
   ·rintro w' ⟨s0, s1, s2, s3⟩
    go_simp
    with_reducible rfl
   rotate_left
   ·simp only [Act.put, xA, xB, xC, i64_w, i32_w]
    rfl
   refine pure_ (i := 7) (N := some 23) (v := ?_) (a' := ?_) #[true, true, true, true, true, true, true, true, true, true, true, true, false, true, false, false, false, false, false] rfl rfl zz (fun _ _ _ h => h) (Or.inl ⟨by rfl, ?_⟩) ?_ ?_
   rotate_left
   ·intro w'
    go_simp
    with_reducible rfl
   rotate_left
   ·simp only [Act.put, xA, xB, xC, i64_w, i32_w]
    rfl
   refine take_ (i := 12) (N := some 28) (v := ?_) (a' := ?_) #[true, true, true, true, true, true, true, true, true, true, true, true, true, true, false, false, false, false, false] rfl rfl (take_ofW HT_.out HW_.out (by kernel_rfl)) (fun _ _ _ h => h) (Or.inl ⟨by rfl, ?_⟩) hHeld ?_ ?_
   rotate_left
   ·rintro w' ⟨s0, s1, s2, s3⟩
    go_simp
    with_reducible rfl
   rotate_left
   ·simp only [Act.put, xA, xB, xC, i64_w, i32_w]
    rfl
   refine pure_ (i := 14) (N := some 30) (v := ?_) (a' := ?_) #[true, true, true, true, true, true, true, true, true, true, true, true, true, true, true, false, false, false, false] rfl rfl zz (fun _ _ _ h => h) (Or.inl ⟨by rfl, ?_⟩) ?_ ?_
   rotate_left
   ·intro w'
    go_simp
    with_reducible rfl
   rotate_left
   ·simp only [Act.put, xA, xB, xC, i64_w, i32_w]
    rfl
   refine pure_ (i := 15) (N := some 31) (v := ?_) (a' := ?_) #[true, true, true, true, true, true, true, true, true, true, true, true, true, true, true, true, false, false, false] rfl rfl zz (fun _ _ _ h => h) (Or.inl ⟨by rfl, ?_⟩) ?_ ?_
   rotate_left
   ·intro w'
    go_simp
    with_reducible rfl
   rotate_left
   ·simp only [Act.put, xA, xB, xC, i64_w, i32_w]
    rfl
   refine one_ (i := 16) (N := some 32) #[true, true, true, true, true, true, true, true, true, true, true, true, true, true, true, true, true, false, false] rfl rfl (one_of HT_.out (by kernel_rfl)) (by decide) (fun K hK => ?_)
   refine value_ (w1 := ?_) (v := ?_) (by rfl) rfl ?_ ?_
   rotate_left 2
   ·go_simp
    constructor
    ·rfl
    ·rfl
   refine hK.out _ _ ⟨(World.cell?_alloc_lt _ _ _ (World.block_lt_of_cell? _ _ (((HB.out.cell (World.block_lt_of_cell? w _ hw414_0)).trans hw414_0)))).trans (((HB.out.cell (World.block_lt_of_cell? w _ hw414_0)).trans hw414_0)), (World.cell?_alloc_lt _ _ _ (World.block_lt_of_cell? _ _ (((HB.out.cell (World.block_lt_of_cell? w _ hw414_1)).trans hw414_1)))).trans (((HB.out.cell (World.block_lt_of_cell? w _ hw414_1)).trans hw414_1)), (World.cell?_alloc_lt _ _ _ (World.block_lt_of_cell? _ _ (((HB.out.cell (World.block_lt_of_cell? w _ hw415_0)).trans hw415_0)))).trans (((HB.out.cell (World.block_lt_of_cell? w _ hw415_0)).trans hw415_0)), (World.cell?_alloc_lt _ _ _ (World.block_lt_of_cell? _ _ (((HB.out.cell (World.block_lt_of_cell? w _ hw415_1)).trans hw415_1)))).trans (((HB.out.cell (World.block_lt_of_cell? w _ hw415_1)).trans hw415_1))⟩ (fun hHeld => ?_)
   clear hK K
   refine norm_ (a' := ?_) ?_ ?_
   rotate_left
   ·show Act.put _ (some 32) _ = _
    simp only [Act.put, xA, xB, xC, i64_w, i32_w]
    rfl
   refine one_ (i := 17) (N := some 33) #[true, true, true, true, true, true, true, true, true, true, true, true, true, true, true, true, true, true, false] rfl rfl (one_of HT_.out (by kernel_rfl)) (by decide) (fun K hK => ?_)
   refine Kd.R_append_step k25 (w0 := w) w.heap.size (by rfl) (.tmp 16) (.tmp 32) 27 25 (.agg #[(.int .i64 0), (.int .i64 0)]) 16 rfl Tryz.underlying27 info25 rfl (by decide) (by omega) u7 x7_1 (⟨wrap64 (((rd_T25 l0 x8_1).f0) + a1), wrap64 (((rd_T25 l0 x8_1).f1) + a2)⟩ : S25) [.int .i64 (wrap64 (((rd_T25 l0 x8_1).f0) + a1)), .int .i64 (wrap64 (((rd_T25 l0 x8_1).f1) + a2))] (fun _ => True) (fun _ => False) rfl rfl ?aP (fun _ hk => hk.elim) ?aF ?aO ?aB ?aS ?aL ?_
   (case aP => exact k25_mkM _ _ _ (⟨wrap64 (((rd_T25 l0 x8_1).f0) + a1), wrap64 (((rd_T25 l0 x8_1).f1) + a2)⟩ : S25))
   (case aB => exact zb)
   (case aF => exact (fun _ _ => trivial))
   (case aO => exact (mR_ HO_7.out))
   (case aS => exact (below_size zb))
   (case aL => have := LMc8.out; omega)
   intro v417 w10 ho hb hg hat
   rw [← Ny416.out] at ho
   have n0_ := aM (hb)
   have n1_ := aM (ho)
   clear HB
   clear HO_7
   have HB := n0_
   have HO418 := n1_
   clear n0_ n1_
   clear ho hb hg hat
   refine hK.out _ _ ⟨((HB.out.cell (World.block_lt_of_cell? w _ hw414_0)).trans hw414_0), ((HB.out.cell (World.block_lt_of_cell? w _ hw414_1)).trans hw414_1), ((HB.out.cell (World.block_lt_of_cell? w _ hw415_0)).trans hw415_0), ((HB.out.cell (World.block_lt_of_cell? w _ hw415_1)).trans hw415_1)⟩ (fun hHeld => ?_)
   clear hK K
   refine norm_ (a' := ?_) ?_ ?_
   rotate_left
   ·show Act.put _ (some 33) _ = _
    simp only [Act.put, xA, xB, xC, i64_w, i32_w]
    rfl
   refine pure_ (i := 18) (N := some 7) (v := ?_) (a' := ?_) #[true, true, true, true, true, true, true, true, true, true, true, true, true, true, true, true, true, true, true] rfl rfl zz (fun _ _ _ h => h) (Or.inl ⟨by rfl, ?_⟩) ?_ ?_
   rotate_left
   ·intro w'
    go_simp
    with_reducible rfl
   rotate_left
   ·simp only [Act.put, xA, xB, xC, i64_w, i32_w]
    rfl
   refine done_ (done_of HT_.out (by kernel_rfl)) ?_
   try go_wp2
   go_roundg k1
   case measure => have := HK1.out; omega
   case rel => exact ⟨(y416), (wrap64 (x8_1 + 1)), zr, H', ⟨by have := HK1.out; omega⟩, ⟨mR_ HO418.out⟩, ⟨zb⟩⟩
def spec_l07Normal.f (k : Nat) (a0 : Int) (l1 : List (S25)) : Option ((List (S25))) := (spec_l02Least.f k l1).bind fun bt419 => (if a0 = 1 then ((spec_l02Move.f k l1 (wrap64 (-bt419.1)) (wrap64 (-bt419.2))).bind fun t421 => (some t421)) else ((spec_l01Mod.f bt419.1 3).bind fun t424 => ((spec_l01Mod.f bt419.2 3).bind fun t425 => ((spec_l02Move.f k l1 (wrap64 (t424 - bt419.1)) (wrap64 (t425 - bt419.2))).bind fun t426 => (some t426)))))
theorem spec_l07Normal.calls (k : Nat) (a0 : Int) (A1 : Option Addr) (c1 : Nat) (l1 : List (S25)) (r : List (S25)) (w : World) (hr1 : Kd.C k25 w A1 l1.length l1) (hc1 : l1.length ≤ c1) (h : spec_l07Normal.f k a0 l1 = some r) :
  Calls Tryz.prog 41 #[.int .i64 a0, .slice A1 l1.length c1] w fun e w' => ∃ v0_ : Value, e = .returned (v0_) ∧ Kd.R k25 25 w' w.heap.size (fun _ => True) v0_ r ∧ Below w.heap.size w w' := by
 have HR1 := aM hr1
 have HC1 := aM hc1
 clear hr1 hc1
 have HB := aM (Below.refl w.heap.size w)
 have H : ((spec_l02Least.f k l1).bind fun bt419 => (if a0 = 1 then ((spec_l02Move.f k l1 (wrap64 (-bt419.1)) (wrap64 (-bt419.2))).bind fun t421 => (some t421)) else ((spec_l01Mod.f bt419.1 3).bind fun t424 => ((spec_l01Mod.f bt419.2 3).bind fun t425 => ((spec_l02Move.f k l1 (wrap64 (t424 - bt419.1)) (wrap64 (t425 - bt419.2))).bind fun t426 => (some t426)))))) = some r := h
 clear h
 replace H := Option.bind_eq_some_iff.mp H
 obtain ⟨⟨t419, t420⟩, A30, H⟩ := H
 replace H : (if a0 = 1 then ((spec_l02Move.f k l1 (wrap64 (-t419)) (wrap64 (-t420))).bind fun t421 => (some t421)) else ((spec_l01Mod.f t419 3).bind fun t424 => ((spec_l01Mod.f t420 3).bind fun t425 => ((spec_l02Move.f k l1 (wrap64 (t424 - t419)) (wrap64 (t425 - t420))).bind fun t426 => (some t426))))) = some r := H
 have A3 := aM A30
 clear A30
 by_cases c4 : a0 = 1
 ·rw [if_pos c4] at H
  have c4b0 : (a0 == 1) = true := beq_iff_eq.mpr c4
  have c4b1 : (a0 != 1) = false := bne_eq_false_iff_eq.mpr c4
  clear c4
  replace H := Option.bind_eq_some_iff.mp H
  obtain ⟨t421, A50, H⟩ := H
  replace H : (some t421) = some r := H
  have A5 := aM A50
  clear A50
  obtain rfl := Option.some.inj H
  go_enter Tryz.func41, Tryz.ntmps41
  go_wp2_with (first | ((with_reducible refine gate_callee (f := 55) rfl ?_); refine goesL_ (some 9) rfl rfl Tryz.func55 (by kernel_rfl) rfl #[.slice A1 l1.length c1] rfl zm ?_; (with_reducible refine (spec_l02Least.calls k _ _ l1 t419 t420 _ ?side1 ?side2 A3.out).mono ?_); (case side1 => repeat (first | exact HR1.out | (with_reducible refine Kd.C_alloc ?_ _) | (with_reducible refine Kd.C_drewN ?_ _) | (with_reducible refine Kd.C_drew ?_))); (case side2 => exact HC1.out); rintro e w6 ⟨rfl, hb⟩; refine ⟨_, rfl, ?_⟩; have n0_ := aM (below_step zb hb); clear HB; have HB := n0_; clear n0_; (try clear hb); (try clear hb2); (try clear hk); (try clear hi)) | ((with_reducible refine gate_callee (f := 56) rfl ?_); refine goesL_ (some 19) rfl rfl Tryz.func56 (by kernel_rfl) rfl #[.slice A1 l1.length c1, .int .i64 (wrap64 (-t419)), .int .i64 (wrap64 (-t420))] rfl zm ?_; (with_reducible refine (spec_l02Move.calls k _ _ l1 (wrap64 (-t419)) (wrap64 (-t420)) t421 _ ?side1 ?side2 A5.out).mono ?_); (case side1 => repeat (first | exact (Kd.C_below HR1.out HB.out) | (with_reducible refine Kd.C_alloc ?_ _) | (with_reducible refine Kd.C_drewN ?_ _) | (with_reducible refine Kd.C_drew ?_))); (case side2 => exact HC1.out); rintro e w7 ⟨v422, rfl, ho0, hb⟩; refine ⟨_, rfl, ?_⟩; have n0_ := aM (Kd.R_lower ho0 (below_size zb)); have n1_ := aM (below_step zb hb); clear HB; have HO423 := n0_; have HB := n1_; clear n0_ n1_; (try clear hb); (try clear hb2); (try clear hk); (try clear hi); (try clear ho0)))
  go_ret
  exact ⟨_, zw, mR_ HO423.out, zb⟩
 rw [if_neg c4] at H
 have c4b0 : (a0 == 1) = false := beq_eq_false_iff_ne.mpr c4
 have c4b1 : (a0 != 1) = true := bne_iff_ne.mpr c4
 replace H := Option.bind_eq_some_iff.mp H
 obtain ⟨t424, A80, H⟩ := H
 replace H : ((spec_l01Mod.f t420 3).bind fun t425 => ((spec_l02Move.f k l1 (wrap64 (t424 - t419)) (wrap64 (t425 - t420))).bind fun t426 => (some t426))) = some r := H
 have A8 := aM A80
 clear A80
 replace H := Option.bind_eq_some_iff.mp H
 obtain ⟨t425, A90, H⟩ := H
 replace H : ((spec_l02Move.f k l1 (wrap64 (t424 - t419)) (wrap64 (t425 - t420))).bind fun t426 => (some t426)) = some r := H
 have A9 := aM A90
 clear A90
 replace H := Option.bind_eq_some_iff.mp H
 obtain ⟨t426, A100, H⟩ := H
 replace H : (some t426) = some r := H
 have A10 := aM A100
 clear A100
 obtain rfl := Option.some.inj H
 go_enter Tryz.func41, Tryz.ntmps41
 go_wp2_with (first | ((with_reducible refine gate_callee (f := 55) rfl ?_); refine goesL_ (some 9) rfl rfl Tryz.func55 (by kernel_rfl) rfl #[.slice A1 l1.length c1] rfl zm ?_; (with_reducible refine (spec_l02Least.calls k _ _ l1 t419 t420 _ ?side1 ?side2 A3.out).mono ?_); (case side1 => repeat (first | exact HR1.out | (with_reducible refine Kd.C_alloc ?_ _) | (with_reducible refine Kd.C_drewN ?_ _) | (with_reducible refine Kd.C_drew ?_))); (case side2 => exact HC1.out); rintro e w11 ⟨rfl, hb⟩; refine ⟨_, rfl, ?_⟩; have n0_ := aM (below_step zb hb); clear HB; have HB := n0_; clear n0_; (try clear hb); (try clear hb2); (try clear hk); (try clear hi)) | ((with_reducible refine gate_callee (f := 33) rfl ?_); refine goesL_ (some 22) rfl rfl Tryz.func33 (by kernel_rfl) rfl #[.int .i64 t419, .int .i64 3] rfl zm ?_; (with_reducible refine (spec_l01Mod.calls t419 3 t424 _ A8.out).mono ?_); rintro e w' ⟨rfl, ⟨nd, rfl⟩⟩; refine ⟨_, rfl, ?_⟩) | ((with_reducible refine gate_callee (f := 33) rfl ?_); refine goesL_ (some 26) rfl rfl Tryz.func33 (by kernel_rfl) rfl #[.int .i64 t420, .int .i64 3] rfl zm ?_; (with_reducible refine (spec_l01Mod.calls t420 3 t425 _ A9.out).mono ?_); rintro e w' ⟨rfl, ⟨nd, rfl⟩⟩; refine ⟨_, rfl, ?_⟩) | ((with_reducible refine gate_callee (f := 56) rfl ?_); refine goesL_ (some 29) rfl rfl Tryz.func56 (by kernel_rfl) rfl #[.slice A1 l1.length c1, .int .i64 (wrap64 (t424 - t419)), .int .i64 (wrap64 (t425 - t420))] rfl zm ?_; (with_reducible refine (spec_l02Move.calls k _ _ l1 (wrap64 (t424 - t419)) (wrap64 (t425 - t420)) t426 _ ?side1 ?side2 A10.out).mono ?_); (case side1 => repeat (first | exact (Kd.C_below HR1.out zb) | (with_reducible refine Kd.C_alloc ?_ _) | (with_reducible refine Kd.C_drewN ?_ _) | (with_reducible refine Kd.C_drew ?_))); (case side2 => exact HC1.out); rintro e w12 ⟨v427, rfl, ho0, hb⟩; refine ⟨_, rfl, ?_⟩; have n0_ := aM (Kd.R_lower ho0 (below_size zb)); have n1_ := aM (below_step zb hb); clear HB; have HO428 := n0_; have HB := n1_; clear n0_ n1_; (try clear hb); (try clear hb2); (try clear hk); (try clear hi); (try clear ho0)))
 go_ret
 exact ⟨_, zw, mR_ HO428.out, zb⟩
end Go.Proofs.YtlnliahadgmbcaaGreat.F
end
section
namespace Go.Proofs.YtlnliahadgmbcaaGreat.F
open Go.RowKit Go.Proofs.YtlnliahadgmbcaaGreatW.PrintWords Go.Proofs.YtlnliahadgmbcaaGreatW.PrintLast Go.Proofs.YtlnliahadgmbcaaGreatW.PrintMore
attribute [local go_sem] max2_int min2_int max_two min_two max_three min_three max_four min_four
set_option linter.unusedVariables false
set_option linter.unusedSimpArgs false
def spec_l02Insert.l0 : Nat → List (S25) → List (S25) → Bool → Int → Int → Int → Option ((List (S25)))
 | 0, _, _, _, _, _, _ => none
 | k + 1, x0, x5, x6, x7, x430000, x430001 => if x7 < (x0.length : Int) then (if x6 = true then (if 0 ≤ x7 then (if x5.length < 8796093022208 then (spec_l02Insert.l0 k x0 (x5 ++ [(⟨(rd_T25 x0 x7).f0, (rd_T25 x0 x7).f1⟩ : S25)]) x6 (wrap64 (x7 + 1)) x430000 x430001) else (none)) else (none)) else (if 0 ≤ x7 then ((spec_l02Less.f x430000 x430001 ((rd_T25 x0 x7).f0) ((rd_T25 x0 x7).f1)).bind fun t438 => (if t438 = true then (if x5.length < 8796093022208 then ((some (x5 ++ [(⟨x430000, x430001⟩ : S25)] : List (S25))).bind fun y439 => (if y439.length < 8796093022208 then (spec_l02Insert.l0 k x0 (y439 ++ [(⟨(rd_T25 x0 x7).f0, (rd_T25 x0 x7).f1⟩ : S25)]) true (wrap64 (x7 + 1)) x430000 x430001) else (none))) else (none)) else (if x5.length < 8796093022208 then (spec_l02Insert.l0 k x0 (x5 ++ [(⟨(rd_T25 x0 x7).f0, (rd_T25 x0 x7).f1⟩ : S25)]) x6 (wrap64 (x7 + 1)) x430000 x430001) else (none)))) else (none))) else (if x6 = true then (some x5) else (if x5.length < 8796093022208 then (some (x5 ++ [(⟨x430000, x430001⟩ : S25)])) else (none)))
def spec_l02Insert.f (k : Nat) (l0 : List (S25)) (a1_0 : Int) (a1_1 : Int) : Option ((List (S25))) := spec_l02Insert.l0 k l0 (([] : List (S25))) false 0 a1_0 a1_1
def spec_l02Insert.T6 : Bool × List (List Nat × List Nat) := (true, [([], []), ([0], [0]), ([1], [1]), ([2], [2]), ([2], [2]), ([2], [2]), ([4, 5, 2], [2, 4, 5]), ([6, 2], [2, 6]), ([3, 7, 2, 2], [2, 3, 7]), ([2, 8], [2, 8])])
def spec_l02Insert.B6 : List Nat := [0, 1, 3, 7, 7, 7, 55, 119, 255, 511]
theorem spec_l02Insert.tab6 : rtab .any (opsOf Tryz.f42 6) = spec_l02Insert.T6 := by kernel_rfl
theorem spec_l02Insert.bits6 : waitsOk spec_l02Insert.T6.2 spec_l02Insert.B6 = true := by kernel_rfl
end Go.Proofs.YtlnliahadgmbcaaGreat.F
end
