/- The row of FnExactIsSolid, with what it needs: text 5 of 8. -/
import Derived.Test.YtabdmdkoffpppaaKIS3
set_option maxHeartbeats 8000000
set_option maxRecDepth 100000
section
namespace Go.Proofs.Ytabdmdkoffpppaa.F
open Go.RowKit Go.Proofs.YtabdmdkoffpppaaW.PrintWords Go.Proofs.YtabdmdkoffpppaaW.PrintLast Go.Proofs.YtabdmdkoffpppaaW.PrintMore
attribute [local go_sem] max2_int min2_int max_two min_two max_three min_three max_four min_four
set_option linter.unusedVariables false
set_option linter.unusedSimpArgs false
attribute [local go_sem high] eqA57
def impl_cubesAround.f (a0_0 : Int) (a0_1 : Int) (a0_2 : Int) : Option ((List (S57))) := some (([(⟨a0_0, a0_1, wrap64 (a0_2 - 1)⟩ : S57), (⟨a0_0, wrap64 (a0_1 - 1), a0_2⟩ : S57), (⟨wrap64 (a0_0 - 1), a0_1, a0_2⟩ : S57), (⟨wrap64 (a0_0 + 1), a0_1, a0_2⟩ : S57), (⟨a0_0, wrap64 (a0_1 + 1), a0_2⟩ : S57), (⟨a0_0, a0_1, wrap64 (a0_2 + 1)⟩ : S57)] : List (S57)))
theorem impl_cubesAround.calls (a0_0 : Int) (a0_1 : Int) (a0_2 : Int) (r : List (S57)) (w : World) (h : impl_cubesAround.f a0_0 a0_1 a0_2 = some r) :
  Calls Try.prog 82 #[.agg #[.int .i64 a0_0, .int .i64 a0_1, .int .i64 a0_2]] w fun e w' => ∃ v0_ : Value, e = .returned (v0_) ∧ Kd.R k57 57 w' w.heap.size (fun _ => True) v0_ r ∧ Below w.heap.size w w' := by
 have hu57 := Try.underlying57
 have HB := aM (Below.refl w.heap.size w)
 have H : (some (([(⟨a0_0, a0_1, wrap64 (a0_2 - 1)⟩ : S57), (⟨a0_0, wrap64 (a0_1 - 1), a0_2⟩ : S57), (⟨wrap64 (a0_0 - 1), a0_1, a0_2⟩ : S57), (⟨wrap64 (a0_0 + 1), a0_1, a0_2⟩ : S57), (⟨a0_0, wrap64 (a0_1 + 1), a0_2⟩ : S57), (⟨a0_0, a0_1, wrap64 (a0_2 + 1)⟩ : S57)] : List (S57)))) = some r := h
 clear h
 obtain ⟨y223, hy223⟩ : ∃ y_ : List (S57), y_ = (([(⟨a0_0, a0_1, wrap64 (a0_2 - 1)⟩ : S57), (⟨a0_0, wrap64 (a0_1 - 1), a0_2⟩ : S57), (⟨wrap64 (a0_0 - 1), a0_1, a0_2⟩ : S57), (⟨wrap64 (a0_0 + 1), a0_1, a0_2⟩ : S57), (⟨a0_0, wrap64 (a0_1 + 1), a0_2⟩ : S57), (⟨a0_0, a0_1, wrap64 (a0_2 + 1)⟩ : S57)] : List (S57))) := ⟨_, rfl⟩
 replace H : (some y223) = some r := zy H hy223
 have Ny223 := aM hy223
 clear hy223
 obtain rfl := Option.some.inj H
 go_enter Try.func82, Try.ntmps82
 go_wp2_with (first | ((with_reducible refine gate_dst (N := 1) rfl ?_); refine box_event ?hg (N := 1) ?hd (cs := #[.int .i64 a0_0, .int .i64 a0_1, .int .i64 a0_2]) (t := 57) ?hr ?_; (case hd => rfl); (case hg => rfl); (case hr => first | (go_simp; done) | (go_simp; rfl)); intro gb222 hg w2 hbox hb; have n0_ := aM (below_step zb hb); have n1_ := aM (hbox); have n2_ := aM ((ze : w.heap.size ≤ gb222)); have n3_ := aM ((ze : w.heap.size ≤ gb222)); clear HB; have HB := n0_; have BK222 := n1_; have GW222 := n2_; have GE222 := n3_; clear n0_ n1_ n2_ n3_; clear hb hbox hg; have hcz3_0 : w2.cell? ⟨gb222, 0, none⟩ = some (.int .i64 a0_0) := (blk_cell BK222.out 0).trans rfl; have hcz3_1 : w2.cell? ⟨gb222, 1, none⟩ = some (.int .i64 a0_1) := (blk_cell BK222.out 1).trans rfl; have hcz3_2 : w2.cell? ⟨gb222, 2, none⟩ = some (.int .i64 a0_2) := (blk_cell BK222.out 2).trans rfl; have hfz3_0 := blk_frozen BK222.out 0; have hfz3_1 := blk_frozen BK222.out 1; have hfz3_2 := blk_frozen BK222.out 2) | ((with_reducible refine gate_dst (N := 51) rfl ?_); refine Kd.R_lit k57 _ 57 ?hg (N := 51) ?hd (xs := ([(⟨a0_0, a0_1, wrap64 (a0_2 - 1)⟩ : S57), (⟨a0_0, wrap64 (a0_1 - 1), a0_2⟩ : S57), (⟨wrap64 (a0_0 - 1), a0_1, a0_2⟩ : S57), (⟨wrap64 (a0_0 + 1), a0_1, a0_2⟩ : S57), (⟨a0_0, wrap64 (a0_1 + 1), a0_2⟩ : S57), (⟨a0_0, a0_1, wrap64 (a0_2 + 1)⟩ : S57)] : List (S57))) (inner := [.int .i64 a0_0, .int .i64 a0_1, .int .i64 (wrap64 (a0_2 - 1)), .int .i64 a0_0, .int .i64 (wrap64 (a0_1 - 1)), .int .i64 a0_2, .int .i64 (wrap64 (a0_0 - 1)), .int .i64 a0_1, .int .i64 a0_2, .int .i64 (wrap64 (a0_0 + 1)), .int .i64 a0_1, .int .i64 a0_2, .int .i64 a0_0, .int .i64 (wrap64 (a0_1 + 1)), .int .i64 a0_2, .int .i64 a0_0, .int .i64 a0_1, .int .i64 (wrap64 (a0_2 + 1))]) (ok := fun _ => True) (okp := fun _ => True) ?hr ?hp (fun _ hk => hk) trivial (Below.refl _ _) (Nat.le_refl _) (by simp) ?_; (case hd => rfl); (case hg => rfl); (case hr => first | (go_simp; done) | (go_simp; rfl)); (case hp => exact (Reps.c3 (show Kd.M k57 _ _ _ (⟨a0_0, a0_1, wrap64 (a0_2 - 1)⟩ : S57) [.int .i64 a0_0, .int .i64 a0_1, .int .i64 (wrap64 (a0_2 - 1))] from (k57_mkM _ _ _ (⟨a0_0, a0_1, wrap64 (a0_2 - 1)⟩ : S57) )) (Reps.c3 (show Kd.M k57 _ _ _ (⟨a0_0, wrap64 (a0_1 - 1), a0_2⟩ : S57) [.int .i64 a0_0, .int .i64 (wrap64 (a0_1 - 1)), .int .i64 a0_2] from (k57_mkM _ _ _ (⟨a0_0, wrap64 (a0_1 - 1), a0_2⟩ : S57) )) (Reps.c3 (show Kd.M k57 _ _ _ (⟨wrap64 (a0_0 - 1), a0_1, a0_2⟩ : S57) [.int .i64 (wrap64 (a0_0 - 1)), .int .i64 a0_1, .int .i64 a0_2] from (k57_mkM _ _ _ (⟨wrap64 (a0_0 - 1), a0_1, a0_2⟩ : S57) )) (Reps.c3 (show Kd.M k57 _ _ _ (⟨wrap64 (a0_0 + 1), a0_1, a0_2⟩ : S57) [.int .i64 (wrap64 (a0_0 + 1)), .int .i64 a0_1, .int .i64 a0_2] from (k57_mkM _ _ _ (⟨wrap64 (a0_0 + 1), a0_1, a0_2⟩ : S57) )) (Reps.c3 (show Kd.M k57 _ _ _ (⟨a0_0, wrap64 (a0_1 + 1), a0_2⟩ : S57) [.int .i64 a0_0, .int .i64 (wrap64 (a0_1 + 1)), .int .i64 a0_2] from (k57_mkM _ _ _ (⟨a0_0, wrap64 (a0_1 + 1), a0_2⟩ : S57) )) (Reps.c3 (show Kd.M k57 _ _ _ (⟨a0_0, a0_1, wrap64 (a0_2 + 1)⟩ : S57) [.int .i64 a0_0, .int .i64 a0_1, .int .i64 (wrap64 (a0_2 + 1))] from (k57_mkM _ _ _ (⟨a0_0, a0_1, wrap64 (a0_2 + 1)⟩ : S57) )) (Reps.none _ _)))))))); intro v224 w4 ho5 hb hg_ hnew_; clear hg_ hnew_; (first | rw [← Ny223.out] at ho5 | (simp only [Int.reduceToNat] at ho5; rw [← Ny223.out] at ho5)); have n0_ := aM (Kd.R_lower (Kd.R_newB ho5 (g := gb222) (o := .cells #[.int .i64 a0_0, .int .i64 a0_1, .int .i64 a0_2] 57 (0, 0)) (mB_ BK222.out)) (below_size (zs GE222.out))); have n1_ := aM (blk_below (g := gb222) (o := .cells #[.int .i64 a0_0, .int .i64 a0_1, .int .i64 a0_2] 57 (0, 0)) (mB_ BK222.out) hb); have n2_ := aM (below_step (zs GE222.out) hb); clear BK222; clear HB; have HO225 := n0_; have BK222 := n1_; have HB := n2_; clear n0_ n1_ n2_; clear hb ho5))
 go_ret
 exact ⟨_, zw, by (with_reducible repeat (first | apply Kd.R_alloc | apply Kd.R_drewN | apply Kd.R_drew)); exact Kd.R_mono HO225.out (fun _ hk => trivial), zs GE222.out⟩
def impl_Cube_139.l0 : Nat → List (S57) → Int → Int → Int → Int → Int → Option (Int)
 | 0, _, _, _, _, _, _ => none
 | k + 1, x0, x7, x8, x227000, x227001, x227002 => if x8 < x7 then (if 0 ≤ x8 then (if x8 < (x0.length : Int) then (if (x227000 == ((rd_T57 x0 x8).f0) && (x227001 == ((rd_T57 x0 x8).f1) && (x227002 == ((rd_T57 x0 x8).f2)))) = true then (some x8) else (impl_Cube_139.l0 k x0 x7 (wrap64 (x8 + 1)) x227000 x227001 x227002)) else (none)) else (none)) else (some (-1))
def impl_Cube_139.f (k : Nat) (l0 : List (S57)) (a1_0 : Int) (a1_1 : Int) (a1_2 : Int) : Option (Int) := impl_Cube_139.l0 k l0 (l0.length : Int) 0 a1_0 a1_1 a1_2
theorem impl_Cube_139.calls (k : Nat) (A0 : Option Addr) (c0 : Nat) (l0 : List (S57)) (a1_0 : Int) (a1_1 : Int) (a1_2 : Int) (r : Int) (w : World) (hr0 : Kd.C k57 w A0 l0.length l0) (hc0 : l0.length ≤ c0) (h : impl_Cube_139.f k l0 a1_0 a1_1 a1_2 = some r) :
  Calls Try.prog 139 #[.slice A0 l0.length c0, .agg #[.int .i64 a1_0, .int .i64 a1_1, .int .i64 a1_2]] w fun e w' => e = .returned (.int .i64 r) ∧ Below w.heap.size w w' := by
 have hu57 := Try.underlying57
 have HR0 := aM hr0
 have HC0 := aM hc0
 clear hr0 hc0
 have HB := aM (Below.refl w.heap.size w)
 have H : (impl_Cube_139.l0 k l0 (l0.length : Int) 0 a1_0 a1_1 a1_2) = some r := h
 clear h
 have H' := aM H
 clear H
 go_enter Try.func139, Try.ntmps139
 go_wp2_with (first | ((with_reducible refine gate_dst (N := 3) rfl ?_); refine box_event ?hg (N := 3) ?hd (cs := #[.int .i64 a1_0, .int .i64 a1_1, .int .i64 a1_2]) (t := 57) ?hr ?_; (case hd => rfl); (case hg => rfl); (case hr => first | (go_simp; done) | (go_simp; rfl)); intro gb226 hg w3 hbox hb; have n0_ := aM (below_step zb hb); have n1_ := aM (hbox); have n2_ := aM ((ze : w.heap.size ≤ gb226)); have n3_ := aM ((ze : w.heap.size ≤ gb226)); clear HB; have HB := n0_; have BK226 := n1_; have GW226 := n2_; have GE226 := n3_; clear n0_ n1_ n2_ n3_; clear hb hbox hg))
 repeat (go_quiet (first | ((with_reducible refine gate_dst (N := 3) rfl ?_); refine box_event ?hg (N := 3) ?hd (cs := #[.int .i64 a1_0, .int .i64 a1_1, .int .i64 a1_2]) (t := 57) ?hr ?_; (case hd => rfl); (case hg => rfl); (case hr => first | (go_simp; done) | (go_simp; rfl)); intro gb226 hg w3 hbox hb; have n0_ := aM (below_step zb hb); have n1_ := aM (hbox); have n2_ := aM ((ze : w.heap.size ≤ gb226)); have n3_ := aM ((ze : w.heap.size ≤ gb226)); clear HB; have HB := n0_; have BK226 := n1_; have GW226 := n2_; have GE226 := n3_; clear n0_ n1_ n2_ n3_; clear hb hbox hg)); try go_wp2_with (first | ((with_reducible refine gate_dst (N := 3) rfl ?_); refine box_event ?hg (N := 3) ?hd (cs := #[.int .i64 a1_0, .int .i64 a1_1, .int .i64 a1_2]) (t := 57) ?hr ?_; (case hd => rfl); (case hg => rfl); (case hr => first | (go_simp; done) | (go_simp; rfl)); intro gb226 hg w3 hbox hb; have n0_ := aM (below_step zb hb); have n1_ := aM (hbox); have n2_ := aM ((ze : w.heap.size ≤ gb226)); have n3_ := aM ((ze : w.heap.size ≤ gb226)); clear HB; have HB := n0_; have BK226 := n1_; have GW226 := n2_; have GE226 := n3_; clear n0_ n1_ n2_ n3_; clear hb hbox hg)))
 go_loopg [8] k (fun kq v8 w' => ∃ (x8_1 : Int), v8 = .int .i64 x8_1 ∧ Aside0 (impl_Cube_139.l0 kq l0 (l0.length : Int) x8_1 a1_0 a1_1 a1_2 = some r) ∧ Aside0 (kq ≤ k) ∧ Aside0 (w'.heap[gb226]? = some (.cells #[.int .i64 a1_0, .int .i64 a1_1, .int .i64 a1_2] 57 (0, 0))) ∧ Aside0 (Below w.heap.size w w'))
 case atStart => exact ⟨(0), zr, H', ⟨Nat.le_refl _⟩, ⟨mB_ BK226.out⟩, ⟨zs GE226.out⟩⟩
 case round =>
  clear H'
  try clear c1
  try clear p2
  obtain ⟨x8_1, rfl, HA, HK1, BK226, HB⟩ := hrel
  cases gk with
  | zero => exact absurd HA.out (by simp [impl_Cube_139.l0])
  | succ k1 =>
   have H := HA.out
   clear HA
   simp only [impl_Cube_139.l0] at H
   by_cases c4 : x8_1 < (l0.length : Int)
   rotate_left
   ·rw [if_neg c4] at H
    have c4b0 : decide (x8_1 < (l0.length : Int)) = false := decide_eq_false c4
    clear c4
    obtain rfl := Option.some.inj H
    go_wp2
    repeat (go_quiet (fail); try go_wp2)
    go_ret
    exact ⟨zw, zs GE226.out⟩
   rw [if_pos c4] at H
   have c4b0 : decide (x8_1 < (l0.length : Int)) = true := decide_eq_true c4
   clear c4
   by_cases c5 : 0 ≤ x8_1
   rotate_left
   ·rw [if_neg c5] at H
    exact absurd H (by simp)
   rw [if_pos c5] at H
   have c5b0 : decide (0 ≤ x8_1) = true := decide_eq_true c5
   clear c5
   by_cases c6 : x8_1 < (l0.length : Int)
   rotate_left
   ·rw [if_neg c6] at H
    exact absurd H (by simp)
   rw [if_pos c6] at H
   have c6b0 : decide (x8_1 < (l0.length : Int)) = true := decide_eq_true c6
   clear c6
   by_cases c7 : (a1_0 == ((rd_T57 l0 x8_1).f0) && (a1_1 == ((rd_T57 l0 x8_1).f1) && (a1_2 == ((rd_T57 l0 x8_1).f2)))) = true
   ·rw [if_pos c7] at H
    have c7b0 : (a1_0 == ((rd_T57 l0 x8_1).f0) && (a1_1 == ((rd_T57 l0 x8_1).f1) && (a1_2 == ((rd_T57 l0 x8_1).f2)))) = true := c7
    (try (have c7b1 : decide (a1_0 = ((rd_T57 l0 x8_1).f0) && (a1_1 == ((rd_T57 l0 x8_1).f1) && (a1_2 == ((rd_T57 l0 x8_1).f2)))) = true := by simpa using c7))
    (try (have c7b2 : (a1_0 == ((rd_T57 l0 x8_1).f0) && (a1_1 == ((rd_T57 l0 x8_1).f1) && (a1_2 == ((rd_T57 l0 x8_1).f2)))) = true := by simpa using c7))
    clear c7
    obtain rfl := Option.some.inj H
    have hcz8_0 : wr.cell? ⟨gb226, 0, none⟩ = some (.int .i64 a1_0) := (blk_cell BK226.out 0).trans rfl
    have hcz8_1 : wr.cell? ⟨gb226, 1, none⟩ = some (.int .i64 a1_1) := (blk_cell BK226.out 1).trans rfl
    have hcz8_2 : wr.cell? ⟨gb226, 2, none⟩ = some (.int .i64 a1_2) := (blk_cell BK226.out 2).trans rfl
    have hfz8_0 := blk_frozen BK226.out 0
    have hfz8_1 := blk_frozen BK226.out 1
    have hfz8_2 := blk_frozen BK226.out 2
    have p227 : 0 ≤ (x8_1 : Int) := of_decide_eq_true za
    have q227 : x8_1 < (l0.length : Int) := of_decide_eq_true za
    obtain ⟨ad227, e227, hx227_0, hx227_1, hx227_2⟩ := at_T57 HR0.out x8_1 p227 q227
    cases e227
    replace hx227_0 := (HB.out.cell (World.block_lt_of_cell? w _ hx227_0)).trans hx227_0
    replace hx227_1 := (HB.out.cell (World.block_lt_of_cell? w _ hx227_1)).trans hx227_1
    replace hx227_2 := (HB.out.cell (World.block_lt_of_cell? w _ hx227_2)).trans hx227_2
    replace p227 := eq_true p227
    replace q227 := eq_true q227
    go_wp2
    repeat (go_quiet (fail); try go_wp2)
    go_ret
    exact ⟨zw, zs GE226.out⟩
   rw [if_neg c7] at H
   have c7b0 : (a1_0 == ((rd_T57 l0 x8_1).f0) && (a1_1 == ((rd_T57 l0 x8_1).f1) && (a1_2 == ((rd_T57 l0 x8_1).f2)))) = false := by simpa using c7
   (try (have c7b1 : decide (a1_0 = ((rd_T57 l0 x8_1).f0) && (a1_1 == ((rd_T57 l0 x8_1).f1) && (a1_2 == ((rd_T57 l0 x8_1).f2)))) = false := by simpa using c7))
   (try (have c7b2 : (a1_0 == ((rd_T57 l0 x8_1).f0) && (a1_1 == ((rd_T57 l0 x8_1).f1) && (a1_2 == ((rd_T57 l0 x8_1).f2)))) = false := by simpa using c7))
   (try (have c7b3 : ¬ (a1_0 = ((rd_T57 l0 x8_1).f0) && (a1_1 == ((rd_T57 l0 x8_1).f1) && (a1_2 == ((rd_T57 l0 x8_1).f2)))) := by simpa using c7))
   clear c7
   have H' := aM H
   clear H
   have hcz9_0 : wr.cell? ⟨gb226, 0, none⟩ = some (.int .i64 a1_0) := (blk_cell BK226.out 0).trans rfl
   have hcz9_1 : wr.cell? ⟨gb226, 1, none⟩ = some (.int .i64 a1_1) := (blk_cell BK226.out 1).trans rfl
   have hcz9_2 : wr.cell? ⟨gb226, 2, none⟩ = some (.int .i64 a1_2) := (blk_cell BK226.out 2).trans rfl
   have hfz9_0 := blk_frozen BK226.out 0
   have hfz9_1 := blk_frozen BK226.out 1
   have hfz9_2 := blk_frozen BK226.out 2
   have p227 : 0 ≤ (x8_1 : Int) := of_decide_eq_true za
   have q227 : x8_1 < (l0.length : Int) := of_decide_eq_true za
   obtain ⟨ad227, e227, hx227_0, hx227_1, hx227_2⟩ := at_T57 HR0.out x8_1 p227 q227
   cases e227
   replace hx227_0 := (HB.out.cell (World.block_lt_of_cell? w _ hx227_0)).trans hx227_0
   replace hx227_1 := (HB.out.cell (World.block_lt_of_cell? w _ hx227_1)).trans hx227_1
   replace hx227_2 := (HB.out.cell (World.block_lt_of_cell? w _ hx227_2)).trans hx227_2
   replace p227 := eq_true p227
   replace q227 := eq_true q227
   go_wp2
   repeat (go_quiet (fail); try go_wp2)
   go_roundg k1
   case measure => have := HK1.out; omega
   case rel => exact ⟨(wrap64 (x8_1 + 1)), zr, H', ⟨by have := HK1.out; omega⟩, ⟨mB_ BK226.out⟩, ⟨zs GE226.out⟩⟩
def impl_Cube_83.f (k : Nat) (l0 : List (S57)) (a1_0 : Int) (a1_1 : Int) (a1_2 : Int) : Option (Bool) := (impl_Cube_139.f k l0 a1_0 a1_1 a1_2).bind fun t229 => (some (decide (t229 ≥ 0)))
theorem impl_Cube_83.calls (k : Nat) (A0 : Option Addr) (c0 : Nat) (l0 : List (S57)) (a1_0 : Int) (a1_1 : Int) (a1_2 : Int) (r : Bool) (w : World) (hr0 : Kd.C k57 w A0 l0.length l0) (hc0 : l0.length ≤ c0) (h : impl_Cube_83.f k l0 a1_0 a1_1 a1_2 = some r) :
  Calls Try.prog 83 #[.slice A0 l0.length c0, .agg #[.int .i64 a1_0, .int .i64 a1_1, .int .i64 a1_2]] w fun e w' => e = .returned (.bool r) ∧ Below w.heap.size w w' := by
 have hu57 := Try.underlying57
 have HR0 := aM hr0
 have HC0 := aM hc0
 clear hr0 hc0
 have HB := aM (Below.refl w.heap.size w)
 have H : ((impl_Cube_139.f k l0 a1_0 a1_1 a1_2).bind fun t229 => (some (decide (t229 ≥ 0)))) = some r := h
 clear h
 replace H := Option.bind_eq_some_iff.mp H
 obtain ⟨t229, A30, H⟩ := H
 replace H : (some (decide (t229 ≥ 0))) = some r := H
 have A3 := aM A30
 clear A30
 obtain rfl := Option.some.inj H
 go_enter Try.func83, Try.ntmps83
 go_wp2_with (first | ((with_reducible refine gate_dst (N := 3) rfl ?_); refine box_event ?hg (N := 3) ?hd (cs := #[.int .i64 a1_0, .int .i64 a1_1, .int .i64 a1_2]) (t := 57) ?hr ?_; (case hd => rfl); (case hg => rfl); (case hr => first | (go_simp; done) | (go_simp; rfl)); intro gb228 hg w4 hbox hb; have n0_ := aM (below_step zb hb); have n1_ := aM (hbox); have n2_ := aM ((ze : w.heap.size ≤ gb228)); have n3_ := aM ((ze : w.heap.size ≤ gb228)); clear HB; have HB := n0_; have BK228 := n1_; have GW228 := n2_; have GE228 := n3_; clear n0_ n1_ n2_ n3_; clear hb hbox hg; have hcz5_0 : w4.cell? ⟨gb228, 0, none⟩ = some (.int .i64 a1_0) := (blk_cell BK228.out 0).trans rfl; have hcz5_1 : w4.cell? ⟨gb228, 1, none⟩ = some (.int .i64 a1_1) := (blk_cell BK228.out 1).trans rfl; have hcz5_2 : w4.cell? ⟨gb228, 2, none⟩ = some (.int .i64 a1_2) := (blk_cell BK228.out 2).trans rfl; have hfz5_0 := blk_frozen BK228.out 0; have hfz5_1 := blk_frozen BK228.out 1; have hfz5_2 := blk_frozen BK228.out 2) | ((with_reducible refine gate_callee (f := 139) rfl ?_); refine goesL_ (some 7) rfl rfl Try.func139 (by kernel_rfl) rfl #[.slice A0 l0.length c0, .agg #[.int .i64 a1_0, .int .i64 a1_1, .int .i64 a1_2]] rfl zm ?_; (with_reducible refine (impl_Cube_139.calls k _ _ l0 a1_0 a1_1 a1_2 t229 _ ?side1 ?side2 A3.out).mono ?_); (case side1 => repeat (first | exact (Kd.C_below HR0.out HB.out) | (with_reducible refine Kd.C_alloc ?_ _) | (with_reducible refine Kd.C_drewN ?_ _) | (with_reducible refine Kd.C_drew ?_))); (case side2 => exact HC0.out); rintro e w6 ⟨rfl, hb⟩; refine ⟨_, rfl, ?_⟩; have n0_ := aM (blk_below (g := gb228) (o := .cells #[.int .i64 a1_0, .int .i64 a1_1, .int .i64 a1_2] 57 (0, 0)) (mB_ BK228.out) hb); have n1_ := aM (below_step (zs GE228.out) hb); clear BK228; clear HB; have BK228 := n0_; have HB := n1_; clear n0_ n1_; (try clear hb); (try clear hb2); (try clear hk); (try clear hi)))
 go_ret
 exact ⟨zw, zs GE228.out⟩
end Go.Proofs.Ytabdmdkoffpppaa.F
end
section
namespace Go.Proofs.Ytabdmdkoffpppaa.F
open Go.RowKit Go.Proofs.YtabdmdkoffpppaaW.PrintWords Go.Proofs.YtabdmdkoffpppaaW.PrintLast Go.Proofs.YtabdmdkoffpppaaW.PrintMore
attribute [local go_sem] max2_int min2_int max_two min_two max_three min_three max_four min_four
set_option linter.unusedVariables false
set_option linter.unusedSimpArgs false
mutual
def spec_l09Connected.l0 : Nat → List (S57) → List (S57) → Int → Option (Bool)
 | 0, _, _, _ => none
 | k + 1, x0, x3, x4 => if x4 < (x3.length : Int) then (spec_l09Connected.l1 k x0 x3 x4 0) else (some ((x3.length : Int) == (x0.length : Int)))
def spec_l09Connected.l1 : Nat → List (S57) → List (S57) → Int → Int → Option (Bool)
 | 0, _, _, _, _ => none
 | k + 1, x0, x3, x4, x5 => if x5 < 6 then (if 0 ≤ x4 then (if x4 < (x3.length : Int) then ((spec_l09Steps.f).bind fun t264 => (if 0 ≤ x5 then (if x5 < (t264.length : Int) then ((spec_l09Add.f ((rd_T57 x3 x4).f0) ((rd_T57 x3 x4).f1) ((rd_T57 x3 x4).f2) ((rd_T57 t264 x5).f0) ((rd_T57 t264 x5).f1) ((rd_T57 t264 x5).f2)).bind fun bt268 => ((spec_l09Index.f k x0 bt268.1 bt268.2.1 bt268.2.2).bind fun t272 => (if t272 ≥ 0 then ((spec_l09Index.f k x3 bt268.1 bt268.2.1 bt268.2.2).bind fun t273 => (if t273 < 0 then (if x3.length < 5864062014805 then (spec_l09Connected.l1 k x0 (x3 ++ [(⟨bt268.1, bt268.2.1, bt268.2.2⟩ : S57)]) x4 (wrap64 (x5 + 1))) else (none)) else (spec_l09Connected.l1 k x0 x3 x4 (wrap64 (x5 + 1))))) else (spec_l09Connected.l1 k x0 x3 x4 (wrap64 (x5 + 1)))))) else (none)) else (none))) else (none)) else (none)) else (spec_l09Connected.l0 k x0 x3 (wrap64 (x4 + 1)))
end
def spec_l09Connected.f (k : Nat) (l0 : List (S57)) : Option (Bool) := if 0 < (l0.length : Int) then (spec_l09Connected.l0 k l0 (([(⟨(rd_T57 l0 0).f0, (rd_T57 l0 0).f1, (rd_T57 l0 0).f2⟩ : S57)] : List (S57))) 0) else (none)
def spec_l09Connected.T8 : Bool × List (List Nat × List Nat) := (true, [([], []), ([], []), ([0, 1], [0, 1]), ([2], [2]), ([], []), ([], []), ([4, 5], [4, 5]), ([6], [6]), ([3, 7, 4], [3, 7]), ([], []), ([9, 8, 8, 0, 1, 2, 3, 4, 5, 6, 7, 8, 9], [8, 9])])
def spec_l09Connected.B8 : List Nat := [0, 0, 3, 7, 0, 0, 48, 112, 255, 0, 1023]
theorem spec_l09Connected.tab8 : rtab .any (opsOf Try.f85 8) = spec_l09Connected.T8 := by kernel_rfl
theorem spec_l09Connected.bits8 : waitsOk spec_l09Connected.T8.2 spec_l09Connected.B8 = true := by kernel_rfl
end Go.Proofs.Ytabdmdkoffpppaa.F
end
