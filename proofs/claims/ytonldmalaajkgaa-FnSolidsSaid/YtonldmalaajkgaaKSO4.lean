/- The row of FnSolids, with what it needs: text 5 of 13. -/
import Derived.Test.YtonldmalaajkgaaKSO3
set_option maxHeartbeats 8000000
set_option maxRecDepth 100000
section
namespace Go.Proofs.Ytonldmalaajkgaa.F
open Go.RowKit Go.Proofs.YtonldmalaajkgaaW.PrintWords Go.Proofs.YtonldmalaajkgaaW.PrintLast Go.Proofs.YtonldmalaajkgaaW.PrintMore
attribute [local go_sem] max2_int min2_int max_two min_two max_three min_three max_four min_four
set_option linter.unusedVariables false
set_option linter.unusedSimpArgs false
attribute [local go_sem high] eqA63
theorem impl_Cube_74.calls (k : Nat) (A0 : Option Addr) (c0 : Nat) (l0 : List (S63)) (a1_0 : Int) (a1_1 : Int) (a1_2 : Int) (r : Int) (w : World) (hr0 : Kd.C k63 w A0 l0.length l0) (hc0 : l0.length ≤ c0) (h : impl_Cube_74.f k l0 a1_0 a1_1 a1_2 = some r) :
  Calls Try.prog 74 #[.slice A0 l0.length c0, .agg #[.int .i64 a1_0, .int .i64 a1_1, .int .i64 a1_2]] w fun e w' => e = .returned (.int .i64 r) ∧ Below w.heap.size w w' := by
 have hu63 := Try.underlying63
 have HR0 := aM hr0
 have HC0 := aM hc0
 clear hr0 hc0
 have HB := aM (Below.refl w.heap.size w)
 have H : (impl_Cube_74.l0 k l0 (l0.length : Int) 0 a1_0 a1_1 a1_2) = some r := h
 clear h
 have H' := aM H
 clear H
 go_enter Try.func74, Try.ntmps74
 go_wp2_with (first | ((with_reducible refine gate_dst (N := 3) rfl ?_); refine zx 3 #[.int .i64 a1_0, .int .i64 a1_1, .int .i64 a1_2] 63 ?_; intro gb333 hg w3 hbox hb; have n0_ := aM (below_step zb hb); have n1_ := aM (hbox); have n2_ := aM ((ze : w.heap.size ≤ gb333)); have n3_ := aM ((ze : w.heap.size ≤ gb333)); clear HB; have HB := n0_; have BK333 := n1_; have GW333 := n2_; have GE333 := n3_; clear n0_ n1_ n2_ n3_; clear hb hbox hg))
 repeat (go_quiet (first | ((with_reducible refine gate_dst (N := 3) rfl ?_); refine zx 3 #[.int .i64 a1_0, .int .i64 a1_1, .int .i64 a1_2] 63 ?_; intro gb333 hg w3 hbox hb; have n0_ := aM (below_step zb hb); have n1_ := aM (hbox); have n2_ := aM ((ze : w.heap.size ≤ gb333)); have n3_ := aM ((ze : w.heap.size ≤ gb333)); clear HB; have HB := n0_; have BK333 := n1_; have GW333 := n2_; have GE333 := n3_; clear n0_ n1_ n2_ n3_; clear hb hbox hg)); try go_wp2_with (first | ((with_reducible refine gate_dst (N := 3) rfl ?_); refine zx 3 #[.int .i64 a1_0, .int .i64 a1_1, .int .i64 a1_2] 63 ?_; intro gb333 hg w3 hbox hb; have n0_ := aM (below_step zb hb); have n1_ := aM (hbox); have n2_ := aM ((ze : w.heap.size ≤ gb333)); have n3_ := aM ((ze : w.heap.size ≤ gb333)); clear HB; have HB := n0_; have BK333 := n1_; have GW333 := n2_; have GE333 := n3_; clear n0_ n1_ n2_ n3_; clear hb hbox hg)))
 go_loopg [8] k (fun kq v8 w' => ∃ (x8_1 : Int), v8 = .int .i64 x8_1 ∧ Aside0 (impl_Cube_74.l0 kq l0 (l0.length : Int) x8_1 a1_0 a1_1 a1_2 = some r) ∧ Aside0 (kq ≤ k) ∧ Aside0 (w'.heap[gb333]? = some (.cells #[.int .i64 a1_0, .int .i64 a1_1, .int .i64 a1_2] 63 (0, 0))) ∧ Aside0 (Below w.heap.size w w'))
 case atStart => exact ⟨(0), zr, H', ⟨Nat.le_refl _⟩, ⟨mB_ BK333.out⟩, ⟨zs GE333.out⟩⟩
 case round =>
  clear H'
  try clear p2
  obtain ⟨x8_1, rfl, HA, HK1, BK333, HB⟩ := hrel
  cases gk with
  | zero => exact absurd HA.out (by simp [impl_Cube_74.l0])
  | succ k1 =>
   have H := HA.out
   clear HA
   simp only [impl_Cube_74.l0] at H
   by_cases c4 : x8_1 < (l0.length : Int)
   rotate_left
   ·rw [if_neg c4] at H
    have c4b0 : decide (x8_1 < (l0.length : Int)) = false := decide_eq_false c4
    clear c4
    obtain rfl := Option.some.inj H
    go_wp2
    repeat (go_quiet (fail); try go_wp2)
    go_ret
    exact ⟨zw, zs GE333.out⟩
   rw [if_pos c4] at H
   have c4b0 : decide (x8_1 < (l0.length : Int)) = true := decide_eq_true c4
   clear c4
   by_cases c5 : 0 ≤ x8_1
   rotate_left
   ·rw [if_neg c5] at H
    exact absurd H (by simp)
   rw [if_pos c5] at H
   have c5b0 : decide (0 ≤ x8_1) = true := decide_eq_true c5
   clear c5
   by_cases c6 : x8_1 < (l0.length : Int)
   rotate_left
   ·rw [if_neg c6] at H
    exact absurd H (by simp)
   rw [if_pos c6] at H
   have c6b0 : decide (x8_1 < (l0.length : Int)) = true := decide_eq_true c6
   clear c6
   by_cases c7 : (a1_0 == ((rd_T63 l0 x8_1).f0) && (a1_1 == ((rd_T63 l0 x8_1).f1) && (a1_2 == ((rd_T63 l0 x8_1).f2)))) = true
   ·rw [if_pos c7] at H
    have c7b0 : (a1_0 == ((rd_T63 l0 x8_1).f0) && (a1_1 == ((rd_T63 l0 x8_1).f1) && (a1_2 == ((rd_T63 l0 x8_1).f2)))) = true := c7
    (try (have c7b1 : decide (a1_0 = ((rd_T63 l0 x8_1).f0) && (a1_1 == ((rd_T63 l0 x8_1).f1) && (a1_2 == ((rd_T63 l0 x8_1).f2)))) = true := by simpa using c7))
    (try (have c7b2 : (a1_0 == ((rd_T63 l0 x8_1).f0) && (a1_1 == ((rd_T63 l0 x8_1).f1) && (a1_2 == ((rd_T63 l0 x8_1).f2)))) = true := by simpa using c7))
    clear c7
    obtain rfl := Option.some.inj H
    have hcz8_0 : wr.cell? ⟨gb333, 0, none⟩ = some (.int .i64 a1_0) := (blk_cell BK333.out 0).trans rfl
    have hcz8_1 : wr.cell? ⟨gb333, 1, none⟩ = some (.int .i64 a1_1) := (blk_cell BK333.out 1).trans rfl
    have hcz8_2 : wr.cell? ⟨gb333, 2, none⟩ = some (.int .i64 a1_2) := (blk_cell BK333.out 2).trans rfl
    have hfz8_0 := blk_frozen BK333.out 0
    have hfz8_1 := blk_frozen BK333.out 1
    have hfz8_2 := blk_frozen BK333.out 2
    have p334 : 0 ≤ (x8_1 : Int) := of_decide_eq_true za
    have q334 : x8_1 < (l0.length : Int) := of_decide_eq_true za
    obtain ⟨ad334, e334, hx334_0, hx334_1, hx334_2⟩ := at_T63 HR0.out x8_1 p334 q334
    cases e334
    replace hx334_0 := zk HB.out hx334_0
    replace hx334_1 := zk HB.out hx334_1
    replace hx334_2 := zk HB.out hx334_2
    replace p334 := eq_true p334
    replace q334 := eq_true q334
    go_wp2
    repeat (go_quiet (fail); try go_wp2)
    go_ret
    exact ⟨zw, zs GE333.out⟩
   rw [if_neg c7] at H
   have c7b0 : (a1_0 == ((rd_T63 l0 x8_1).f0) && (a1_1 == ((rd_T63 l0 x8_1).f1) && (a1_2 == ((rd_T63 l0 x8_1).f2)))) = false := by simpa using c7
   (try (have c7b1 : decide (a1_0 = ((rd_T63 l0 x8_1).f0) && (a1_1 == ((rd_T63 l0 x8_1).f1) && (a1_2 == ((rd_T63 l0 x8_1).f2)))) = false := by simpa using c7))
   (try (have c7b2 : (a1_0 == ((rd_T63 l0 x8_1).f0) && (a1_1 == ((rd_T63 l0 x8_1).f1) && (a1_2 == ((rd_T63 l0 x8_1).f2)))) = false := by simpa using c7))
   (try (have c7b3 : ¬ (a1_0 = ((rd_T63 l0 x8_1).f0) && (a1_1 == ((rd_T63 l0 x8_1).f1) && (a1_2 == ((rd_T63 l0 x8_1).f2)))) := by simpa using c7))
   clear c7
   have H' := aM H
   clear H
   have hcz9_0 : wr.cell? ⟨gb333, 0, none⟩ = some (.int .i64 a1_0) := (blk_cell BK333.out 0).trans rfl
   have hcz9_1 : wr.cell? ⟨gb333, 1, none⟩ = some (.int .i64 a1_1) := (blk_cell BK333.out 1).trans rfl
   have hcz9_2 : wr.cell? ⟨gb333, 2, none⟩ = some (.int .i64 a1_2) := (blk_cell BK333.out 2).trans rfl
   have hfz9_0 := blk_frozen BK333.out 0
   have hfz9_1 := blk_frozen BK333.out 1
   have hfz9_2 := blk_frozen BK333.out 2
   have p334 : 0 ≤ (x8_1 : Int) := of_decide_eq_true za
   have q334 : x8_1 < (l0.length : Int) := of_decide_eq_true za
   obtain ⟨ad334, e334, hx334_0, hx334_1, hx334_2⟩ := at_T63 HR0.out x8_1 p334 q334
   cases e334
   replace hx334_0 := zk HB.out hx334_0
   replace hx334_1 := zk HB.out hx334_1
   replace hx334_2 := zk HB.out hx334_2
   replace p334 := eq_true p334
   replace q334 := eq_true q334
   go_wp2
   repeat (go_quiet (fail); try go_wp2)
   go_roundg k1
   case measure => have := HK1.out; omega
   case rel => exact ⟨(wrap64 (x8_1 + 1)), zr, H', ⟨by have := HK1.out; omega⟩, ⟨mB_ BK333.out⟩, ⟨zs GE333.out⟩⟩
def impl_Cube_51.f (k : Nat) (l0 : List (S63)) (a1_0 : Int) (a1_1 : Int) (a1_2 : Int) : Option (Bool) := (impl_Cube_74.f k l0 a1_0 a1_1 a1_2).bind fun t336 => (some (decide (t336 ≥ 0)))
theorem impl_Cube_51.calls (k : Nat) (A0 : Option Addr) (c0 : Nat) (l0 : List (S63)) (a1_0 : Int) (a1_1 : Int) (a1_2 : Int) (r : Bool) (w : World) (hr0 : Kd.C k63 w A0 l0.length l0) (hc0 : l0.length ≤ c0) (h : impl_Cube_51.f k l0 a1_0 a1_1 a1_2 = some r) :
  Calls Try.prog 51 #[.slice A0 l0.length c0, .agg #[.int .i64 a1_0, .int .i64 a1_1, .int .i64 a1_2]] w fun e w' => e = .returned (.bool r) ∧ Below w.heap.size w w' := by
 have hu63 := Try.underlying63
 have HR0 := aM hr0
 have HC0 := aM hc0
 clear hr0 hc0
 have HB := aM (Below.refl w.heap.size w)
 have H : ((impl_Cube_74.f k l0 a1_0 a1_1 a1_2).bind fun t336 => (some (decide (t336 ≥ 0)))) = some r := h
 clear h
 replace H := Option.bind_eq_some_iff.mp H
 obtain ⟨t336, A30, H⟩ := H
 replace H : (some (decide (t336 ≥ 0))) = some r := H
 have A3 := aM A30
 clear A30
 obtain rfl := Option.some.inj H
 go_enter Try.func51, Try.ntmps51
 go_wp2_with (first | ((with_reducible refine gate_dst (N := 3) rfl ?_); refine zx 3 #[.int .i64 a1_0, .int .i64 a1_1, .int .i64 a1_2] 63 ?_; intro gb335 hg w4 hbox hb; have n0_ := aM (below_step zb hb); have n1_ := aM (hbox); have n2_ := aM ((ze : w.heap.size ≤ gb335)); have n3_ := aM ((ze : w.heap.size ≤ gb335)); clear HB; have HB := n0_; have BK335 := n1_; have GW335 := n2_; have GE335 := n3_; clear n0_ n1_ n2_ n3_ hb hbox hg; have hcz5_0 : w4.cell? ⟨gb335, 0, none⟩ = some (.int .i64 a1_0) := (blk_cell BK335.out 0).trans rfl; have hcz5_1 : w4.cell? ⟨gb335, 1, none⟩ = some (.int .i64 a1_1) := (blk_cell BK335.out 1).trans rfl; have hcz5_2 : w4.cell? ⟨gb335, 2, none⟩ = some (.int .i64 a1_2) := (blk_cell BK335.out 2).trans rfl; have hfz5_0 := blk_frozen BK335.out 0; have hfz5_1 := blk_frozen BK335.out 1; have hfz5_2 := blk_frozen BK335.out 2) | ((with_reducible refine gate_callee (f := 74) rfl ?_); refine goesL_ (some 7) rfl rfl Try.func74 (by kernel_rfl) rfl #[.slice A0 l0.length c0, .agg #[.int .i64 a1_0, .int .i64 a1_1, .int .i64 a1_2]] rfl zm ?_; (with_reducible refine (impl_Cube_74.calls k _ _ l0 a1_0 a1_1 a1_2 t336 _ ?side1 ?side2 A3.out).mono ?_); (case side1 => repeat (first | exact (Kd.C_below HR0.out HB.out) | (with_reducible refine Kd.C_alloc ?_ _) | (with_reducible refine Kd.C_drewN ?_ _) | (with_reducible refine Kd.C_drew ?_))); (case side2 => exact HC0.out); rintro e w6 ⟨rfl, hb⟩; refine ⟨_, rfl, ?_⟩; have n0_ := aM (blk_below (g := gb335) (o := .cells #[.int .i64 a1_0, .int .i64 a1_1, .int .i64 a1_2] 63 (0, 0)) (mB_ BK335.out) hb); have n1_ := aM (below_step (zs GE335.out) hb); clear BK335 HB; have BK335 := n0_; have HB := n1_; clear n0_ n1_; (try clear hb); (try clear hb2); (try clear hk); (try clear hi)))
 go_ret
 exact ⟨zw, zs GE335.out⟩
end Go.Proofs.Ytonldmalaajkgaa.F
end
section
namespace Go.Proofs.Ytonldmalaajkgaa.F
open Go.RowKit Go.Proofs.YtonldmalaajkgaaW.PrintWords Go.Proofs.YtonldmalaajkgaaW.PrintLast Go.Proofs.YtonldmalaajkgaaW.PrintMore
attribute [local go_sem] max2_int min2_int max_two min_two max_three min_three max_four min_four
set_option linter.unusedVariables false
set_option linter.unusedSimpArgs false
mutual
def spec_l09Draw.l0 : Nat → List (S63) → Int → List Int → Int → Int → Option ((List (S63)) × Int × Int)
 | 0, _, _, _, _, _ => none
 | k + 1, x3, x4, x1000, x1001, x1002 => if x4 > 0 then ((spec_l01Next.f x1000 x1001 x1002 (x3.length : Int)).bind fun bt483 => (if 0 ≤ bt483.1 then (if bt483.1 < (x3.length : Int) then ((spec_l09Steps.f).bind fun t487 => ((spec_l01Next.f x1000 bt483.2.1 bt483.2.2 6).bind fun bt490 => (if 0 ≤ bt490.1 then (if bt490.1 < (t487.length : Int) then ((spec_l09Add.f ((rd_T63 x3 bt483.1).f0) ((rd_T63 x3 bt483.1).f1) ((rd_T63 x3 bt483.1).f2) ((rd_T63 t487 bt490.1).f0) ((rd_T63 t487 bt490.1).f1) ((rd_T63 t487 bt490.1).f2)).bind fun bt494 => ((spec_l09Index.f k x3 bt494.1 bt494.2.1 bt494.2.2).bind fun t498 => (if t498 < 0 then (if x3.length < 5864062014805 then ((spec_l09Sort.f k (x3 ++ [(⟨bt494.1, bt494.2.1, bt494.2.2⟩ : S63)])).bind fun t502 => (spec_l09Draw.l0 k t502 (wrap64 (x4 - 1)) x1000 bt490.2.1 bt490.2.2)) else (none)) else (spec_l09Draw.l0 k x3 (wrap64 (x4 - 1)) x1000 bt490.2.1 bt490.2.2)))) else (none)) else (none)))) else (none)) else (none))) else ((spec_l01Next.f x1000 x1001 x1002 (x3.length : Int)).bind fun bt505 => ((spec_l01Next.f x1000 bt505.2.1 bt505.2.2 24).bind fun bt508 => (if bt508.1 = 0 then ((some (([(-100), 100, 101] : List Int) : List Int)).bind fun y511 => ((spec_l01Next.f x1000 bt508.2.1 bt508.2.2 3).bind fun bt514 => (if 0 ≤ bt514.1 then (if bt514.1 < (y511.length : Int) then (if 0 ≤ bt505.1 then (if bt505.1 < (x3.length : Int) then ((spec_l09Sort.f k (x3.set (bt505.1 : Int).toNat (⟨(rd_T63 x3 bt505.1).f0, (rd_T63 x3 bt505.1).f1, rd y511 bt514.1⟩ : S63))).bind fun t519 => (some (t519, bt514.2.1, bt514.2.2))) else (none)) else (none)) else (none)) else (none)))) else (if bt508.1 = 1 then (if 0 ≤ bt505.1 then (if bt505.1 < (x3.length : Int) then (if x3.length < 5864062014805 then (some ((x3 ++ [(⟨(rd_T63 x3 bt505.1).f0, (rd_T63 x3 bt505.1).f1, (rd_T63 x3 bt505.1).f2⟩ : S63)]), bt508.2.1, bt508.2.2)) else (none)) else (none)) else (none)) else (if bt508.1 = 2 then (some (([] : List (S63)), bt508.2.1, bt508.2.2)) else (if bt508.1 = 3 then (if 0 ≤ (wrap64 ((x3.length : Int) - 1)) then (if (wrap64 ((x3.length : Int) - 1)) < (x3.length : Int) then (if x3.length < 5864062014805 then (some ((x3 ++ [(⟨0, 0, wrap64 (((rd_T63 x3 (wrap64 ((x3.length : Int) - 1))).f2) + 2)⟩ : S63)]), bt508.2.1, bt508.2.2)) else (none)) else (none)) else (none)) else (if bt508.1 = 4 then (spec_l09Draw.l1 k (([] : List (S63))) 0 x1000 bt508.2.1 bt508.2.2) else (if bt508.1 = 5 then ((spec_l01Next.f x1000 bt508.2.1 bt508.2.2 2).bind fun bt539 => (some ((([(⟨0, 0, (-60)⟩ : S63), (⟨0, 0, wrap64 (40 + bt539.1)⟩ : S63)] : List (S63))), bt539.2.1, bt539.2.2))) else (some (x3, bt508.2.1, bt508.2.2))))))))))
def spec_l09Draw.l1 : Nat → List (S63) → Int → List Int → Int → Int → Option ((List (S63)) × Int × Int)
 | 0, _, _, _, _, _ => none
 | k + 1, x7, x8, x1000, x1001, x1002 => (spec_l01Next.f x1000 x1001 x1002 2).bind fun bt533 => (if x8 < (wrap64 (24 + bt533.1)) then (if x7.length < 5864062014805 then (spec_l09Draw.l1 k (x7 ++ [(⟨Int.tmod x8 5, wrap64 (Int.tdiv x8 5), 0⟩ : S63)]) (wrap64 (x8 + 1)) x1000 bt533.2.1 bt533.2.2) else (none)) else (some (x7, bt533.2.1, bt533.2.2)))
end
def spec_l09Draw.f (k : Nat) (s0_0 : List Int) (s0_1 : Int) (s0_2 : Int) : Option ((List (S63)) × Int × Int) := (spec_l01Next.f s0_0 s0_1 s0_2 5).bind fun bt468 => ((spec_l01Next.f s0_0 bt468.2.1 bt468.2.2 5).bind fun bt471 => ((spec_l01Next.f s0_0 bt471.2.1 bt471.2.2 5).bind fun bt474 => ((spec_l01Next.f s0_0 bt474.2.1 bt474.2.2 7).bind fun bt480 => (spec_l09Draw.l0 k (([(⟨wrap64 (bt468.1 - 2), wrap64 (bt471.1 - 2), wrap64 (bt474.1 - 2)⟩ : S63)] : List (S63))) bt480.1 s0_0 bt480.2.1 bt480.2.2))))
def spec_l09Draw.T5 : Bool × List (List Nat × List Nat) := (true, [([], []), ([], []), ([], []), ([2], [2]), ([1, 3], [1, 3]), ([0, 4], [0, 4]), ([5], [5]), ([4], []), ([], []), ([8, 7], [8]), ([7, 9], [7, 9]), ([10], [10]), ([6, 11, 9], [6, 11]), ([], []), ([13, 12, 12, 0, 1, 2, 3, 4, 5, 6, 7, 8, 9, 10, 11, 12, 13], [12, 13])])
def spec_l09Draw.B5 : List Nat := [0, 0, 0, 4, 14, 31, 63, 30, 0, 414, 926, 1950, 4095, 0, 16383]
theorem spec_l09Draw.tab5 : rtab .any (opsOf Try.f37 5) = spec_l09Draw.T5 := by kernel_rfl
theorem spec_l09Draw.bits5 : waitsOk spec_l09Draw.T5.2 spec_l09Draw.B5 = true := by kernel_rfl
end Go.Proofs.Ytonldmalaajkgaa.F
end
