/- The row of FnHoles, with what it needs: text 7 of 12. -/
import Derived.Test.YtaecheolnpofeaaJ5
set_option maxHeartbeats 8000000
set_option maxRecDepth 100000
section
namespace Go.Proofs.Ytaecheolnpofeaa.F
open Go.RowKit Go.Proofs.YtaecheolnpofeaaW.PrintWords Go.Proofs.YtaecheolnpofeaaW.PrintLast Go.Proofs.YtaecheolnpofeaaW.PrintMore
attribute [local go_sem] max2_int min2_int max_two min_two max_three min_three max_four min_four
set_option linter.unusedVariables false
set_option linter.unusedSimpArgs false
theorem impl_holes.calls (k : Nat) (A0 : Option Addr) (c0 : Nat) (l0 : List (S44)) (r : List (List (S44))) (w : World) (hr0 : Kd.C k44 w A0 l0.length l0) (hc0 : l0.length ≤ c0) (h : impl_holes.f k l0 = some r) :
  Calls Try.prog 46 #[.slice A0 l0.length c0] w fun e w' => ∃ v0_ : Value, e = .returned (v0_) ∧ Kd.N (Kd.slice 44 k44) 26 w' w.heap.size (fun k_ => (w.heap.size ≤ k_)) v0_ r ∧ Below w.heap.size w w' := by
 have hu44 := Try.underlying44
 have HR0 := aM hr0
 have HC0 := aM hc0
 clear hr0 hc0
 have HB := aM (Below.refl w.heap.size w)
 have H : ((impl_corner.f k l0).bind fun bt544 => ((impl_reach.f k l0).bind fun bt546 => (impl_holes.l0 k l0 (([] : List (S44))) (wrap64 (bt544.2 - 1)) bt544.1 bt544.2 bt546.1 bt546.2))) = some r := h
 clear h
 replace H := Option.bind_eq_some_iff.mp H
 obtain ⟨⟨t544, t545⟩, A20, H⟩ := H
 replace H : ((impl_reach.f k l0).bind fun bt546 => (impl_holes.l0 k l0 (([] : List (S44))) (wrap64 (t545 - 1)) t544 t545 bt546.1 bt546.2)) = some r := H
 have A2 := aM A20
 clear A20
 replace H := Option.bind_eq_some_iff.mp H
 obtain ⟨⟨t546, t547⟩, A30, H⟩ := H
 replace H : (impl_holes.l0 k l0 (([] : List (S44))) (wrap64 (t545 - 1)) t544 t545 t546 t547) = some r := H
 have A3 := aM A30
 clear A30
 obtain ⟨y550, hy550⟩ : ∃ y_ : List (S44), y_ = (([] : List (S44))) := ⟨_, rfl⟩
 replace H : (impl_holes.l0 k l0 y550 (wrap64 (t545 - 1)) t544 t545 t546 t547) = some r := zy H hy550
 have Ny550 := aM hy550
 clear hy550
 have H' := aM H
 clear H
 go_enter Try.func46, Try.ntmps46
 go_wp2_with (first | (go_at_call 66; (with_reducible refine (impl_corner.calls k _ _ l0 t544 t545 _ ?side1 ?side2 A2.out).mono ?_); (case side1 => repeat (first | exact HR0.out | (with_reducible refine Kd.C_alloc ?_ _) | (with_reducible refine Kd.C_drewN ?_ _) | (with_reducible refine Kd.C_drew ?_))); (case side2 => exact HC0.out); rintro e w4 ⟨rfl, hb⟩; have n0_ := aM (below_step zb hb); clear HB; have HB := n0_; clear n0_; (try clear hb); (try clear hb2); (try clear hk); (try clear hi)) | (go_at_call 67; (with_reducible refine (impl_reach.calls k _ _ l0 t546 t547 _ ?side1 ?side2 A3.out).mono ?_); (case side1 => repeat (first | exact (Kd.C_below HR0.out HB.out) | (with_reducible refine Kd.C_alloc ?_ _) | (with_reducible refine Kd.C_drewN ?_ _) | (with_reducible refine Kd.C_drew ?_))); (case side2 => exact HC0.out); rintro e w5 ⟨rfl, hb⟩; have n0_ := aM (below_step zb hb); clear HB; have HB := n0_; clear n0_; (try clear hb); (try clear hb2); (try clear hk); (try clear hi)) | ((with_reducible refine gate_dst (N := 3) rfl ?_); refine zx 3 #[.int .i64 0, .int .i64 0] 44 ?_; intro gb548 hg w6 hbox hb; have n0_ := aM (below_step zb hb); have n1_ := aM (hbox); have n2_ := aM ((ze : w.heap.size ≤ gb548)); have n3_ := aM ((ze : w.heap.size ≤ gb548)); clear HB; have HB := n0_; have BK548 := n1_; have GW548 := n2_; have GE548 := n3_; clear n0_ n1_ n2_ n3_; clear hb hbox hg) | ((with_reducible refine gate_dst (N := 4) rfl ?_); refine zx 4 #[.int .i64 0, .int .i64 0] 44 ?_; intro gb549 hg w7 hbox hb; have n0_ := aM (blk_below (g := gb548) (o := .cells #[.int .i64 0, .int .i64 0] 44 (0, 0)) (mB_ BK548.out) hb); have n1_ := aM (below_step (zs GE548.out) hb); have n2_ := aM (hbox); have n3_ := aM ((zf GE548.out : w.heap.size ≤ gb549)); have n4_ := aM ((zf GE548.out : w.heap.size ≤ gb549)); have n5_ := aM ((zl BK548.out : gb548 ≠ gb549)); have n6_ := aM ((zn BK548.out : gb549 ≠ gb548)); clear BK548 HB; have BK548 := n0_; have HB := n1_; have BK549 := n2_; have GW549 := n3_; have GE549 := n4_; have NB548_549 := n5_; have NB549_548 := n6_; clear n0_ n1_ n2_ n3_ n4_ n5_ n6_ hb hbox hg; have hnb8 := NB548_549.out; have hnc8 := NB549_548.out; have hcz9_0 : w7.cell? ⟨gb548, 0, none⟩ = some (.int .i64 0) := (blk_cell BK548.out 0).trans rfl; have hcz9_1 : w7.cell? ⟨gb548, 1, none⟩ = some (.int .i64 0) := (blk_cell BK548.out 1).trans rfl; have hfz9_0 := blk_frozen BK548.out 0; have hfz9_1 := blk_frozen BK548.out 1; have hcz10_0 : w7.cell? ⟨gb549, 0, none⟩ = some (.int .i64 0) := (blk_cell BK549.out 0).trans rfl; have hcz10_1 : w7.cell? ⟨gb549, 1, none⟩ = some (.int .i64 0) := (blk_cell BK549.out 1).trans rfl; have hfz10_0 := blk_frozen BK549.out 0; have hfz10_1 := blk_frozen BK549.out 1) | ((with_reducible refine gate_dst (N := 20) rfl ?_); refine Kd.R_lit k44 _ 44 ?hg (N := 20) ?hd (xs := ([] : List (S44))) (inner := []) (ok := fun _ => True) (okp := fun _ => True) ?hr ?hp (fun _ hk => hk) trivial (Below.refl _ _) (Nat.le_refl _) (by simp) ?_; (case hd => rfl); (case hg => rfl); (case hr => first | (go_simp; done) | (go_simp; rfl)); (case hp => exact (Reps.none _ _)); intro v551 w11 ho12 hb hg_ hnew_; clear hg_ hnew_; (first | rw [← Ny550.out] at ho12 | (simp only [Int.reduceToNat] at ho12; rw [← Ny550.out] at ho12)); have n0_ := aM (Kd.R_lower (Kd.R_newB (Kd.R_newB (Kd.R_newM (M := fun k_ => (w.heap.size ≤ k_)) ho12 (below_size (zt GE548.out GE549.out)) (fun k_ h_ => h_)) (g := gb548) (o := .cells #[.int .i64 t544, .int .i64 t545] 44 (0, 0)) (by (with_reducible repeat (first | refine blk_drewN ?_ _ | refine blk_drew ?_ | refine blk_alloc ?_ _)); refine blk_far ?_ NB548_549.out _; (with_reducible repeat (first | refine blk_drewN ?_ _ | refine blk_drew ?_ | refine blk_alloc ?_ _)); refine blk_far ?_ NB548_549.out _; (with_reducible repeat (first | refine blk_drewN ?_ _ | refine blk_drew ?_ | refine blk_alloc ?_ _)); refine blk_put (cs := #[.int .i64 t544, .int .i64 0]) ?_ 1 _ rfl; (with_reducible repeat (first | refine blk_drewN ?_ _ | refine blk_drew ?_ | refine blk_alloc ?_ _)); refine blk_put (cs := #[.int .i64 0, .int .i64 0]) ?_ 0 _ rfl; (with_reducible repeat (first | refine blk_drewN ?_ _ | refine blk_drew ?_ | refine blk_alloc ?_ _)); exact BK548.out)) (g := gb549) (o := .cells #[.int .i64 t546, .int .i64 t547] 44 (0, 0)) (by (with_reducible repeat (first | refine blk_drewN ?_ _ | refine blk_drew ?_ | refine blk_alloc ?_ _)); refine blk_put (cs := #[.int .i64 t546, .int .i64 0]) ?_ 1 _ rfl; (with_reducible repeat (first | refine blk_drewN ?_ _ | refine blk_drew ?_ | refine blk_alloc ?_ _)); refine blk_put (cs := #[.int .i64 0, .int .i64 0]) ?_ 0 _ rfl; (with_reducible repeat (first | refine blk_drewN ?_ _ | refine blk_drew ?_ | refine blk_alloc ?_ _)); refine blk_far ?_ NB549_548.out _; (with_reducible repeat (first | refine blk_drewN ?_ _ | refine blk_drew ?_ | refine blk_alloc ?_ _)); refine blk_far ?_ NB549_548.out _; (with_reducible repeat (first | refine blk_drewN ?_ _ | refine blk_drew ?_ | refine blk_alloc ?_ _)); exact BK549.out)) (below_size (zt GE548.out GE549.out))); have n1_ := aM (blk_below (g := gb548) (o := .cells #[.int .i64 t544, .int .i64 t545] 44 (0, 0)) (by (with_reducible repeat (first | refine blk_drewN ?_ _ | refine blk_drew ?_ | refine blk_alloc ?_ _)); refine blk_far ?_ NB548_549.out _; (with_reducible repeat (first | refine blk_drewN ?_ _ | refine blk_drew ?_ | refine blk_alloc ?_ _)); refine blk_far ?_ NB548_549.out _; (with_reducible repeat (first | refine blk_drewN ?_ _ | refine blk_drew ?_ | refine blk_alloc ?_ _)); refine blk_put (cs := #[.int .i64 t544, .int .i64 0]) ?_ 1 _ rfl; (with_reducible repeat (first | refine blk_drewN ?_ _ | refine blk_drew ?_ | refine blk_alloc ?_ _)); refine blk_put (cs := #[.int .i64 0, .int .i64 0]) ?_ 0 _ rfl; (with_reducible repeat (first | refine blk_drewN ?_ _ | refine blk_drew ?_ | refine blk_alloc ?_ _)); exact BK548.out) hb); have n2_ := aM (blk_below (g := gb549) (o := .cells #[.int .i64 t546, .int .i64 t547] 44 (0, 0)) (by (with_reducible repeat (first | refine blk_drewN ?_ _ | refine blk_drew ?_ | refine blk_alloc ?_ _)); refine blk_put (cs := #[.int .i64 t546, .int .i64 0]) ?_ 1 _ rfl; (with_reducible repeat (first | refine blk_drewN ?_ _ | refine blk_drew ?_ | refine blk_alloc ?_ _)); refine blk_put (cs := #[.int .i64 0, .int .i64 0]) ?_ 0 _ rfl; (with_reducible repeat (first | refine blk_drewN ?_ _ | refine blk_drew ?_ | refine blk_alloc ?_ _)); refine blk_far ?_ NB549_548.out _; (with_reducible repeat (first | refine blk_drewN ?_ _ | refine blk_drew ?_ | refine blk_alloc ?_ _)); refine blk_far ?_ NB549_548.out _; (with_reducible repeat (first | refine blk_drewN ?_ _ | refine blk_drew ?_ | refine blk_alloc ?_ _)); exact BK549.out) hb); have n3_ := aM (below_step (zt GE548.out GE549.out) hb); clear BK548 BK549 HB; have HO552 := n0_; have BK548 := n1_; have BK549 := n2_; have HB := n3_; clear n0_ n1_ n2_ n3_ hb ho12; have hcz13_0 : w11.cell? ⟨gb548, 0, none⟩ = some (.int .i64 t544) := (blk_cell BK548.out 0).trans rfl; have hcz13_1 : w11.cell? ⟨gb548, 1, none⟩ = some (.int .i64 t545) := (blk_cell BK548.out 1).trans rfl; have hfz13_0 := blk_frozen BK548.out 0; have hfz13_1 := blk_frozen BK548.out 1))
 repeat (go_quiet (first | (go_at_call 66; (try simp only [i64_w]); (with_reducible refine (impl_corner.calls k _ _ l0 t544 t545 _ ?side1 ?side2 A2.out).mono ?_); (case side1 => repeat (first | exact HR0.out | (with_reducible refine Kd.C_alloc ?_ _) | (with_reducible refine Kd.C_drewN ?_ _) | (with_reducible refine Kd.C_drew ?_))); (case side2 => exact HC0.out); rintro e w4 ⟨rfl, hb⟩; have n0_ := aM (below_step zb hb); clear HB; have HB := n0_; clear n0_; (try clear hb); (try clear hb2); (try clear hk); (try clear hi)) | (go_at_call 67; (try simp only [i64_w]); (with_reducible refine (impl_reach.calls k _ _ l0 t546 t547 _ ?side1 ?side2 A3.out).mono ?_); (case side1 => repeat (first | exact (Kd.C_below HR0.out HB.out) | (with_reducible refine Kd.C_alloc ?_ _) | (with_reducible refine Kd.C_drewN ?_ _) | (with_reducible refine Kd.C_drew ?_))); (case side2 => exact HC0.out); rintro e w5 ⟨rfl, hb⟩; have n0_ := aM (below_step zb hb); clear HB; have HB := n0_; clear n0_; (try clear hb); (try clear hb2); (try clear hk); (try clear hi)) | ((with_reducible refine gate_dst (N := 3) rfl ?_); refine zx 3 #[.int .i64 0, .int .i64 0] 44 ?_; intro gb548 hg w6 hbox hb; have n0_ := aM (below_step zb hb); have n1_ := aM (hbox); have n2_ := aM ((ze : w.heap.size ≤ gb548)); have n3_ := aM ((ze : w.heap.size ≤ gb548)); clear HB; have HB := n0_; have BK548 := n1_; have GW548 := n2_; have GE548 := n3_; clear n0_ n1_ n2_ n3_; clear hb hbox hg) | ((with_reducible refine gate_dst (N := 4) rfl ?_); refine zx 4 #[.int .i64 0, .int .i64 0] 44 ?_; intro gb549 hg w7 hbox hb; have n0_ := aM (blk_below (g := gb548) (o := .cells #[.int .i64 0, .int .i64 0] 44 (0, 0)) (mB_ BK548.out) hb); have n1_ := aM (below_step (zs GE548.out) hb); have n2_ := aM (hbox); have n3_ := aM ((zf GE548.out : w.heap.size ≤ gb549)); have n4_ := aM ((zf GE548.out : w.heap.size ≤ gb549)); have n5_ := aM ((zl BK548.out : gb548 ≠ gb549)); have n6_ := aM ((zn BK548.out : gb549 ≠ gb548)); clear BK548 HB; have BK548 := n0_; have HB := n1_; have BK549 := n2_; have GW549 := n3_; have GE549 := n4_; have NB548_549 := n5_; have NB549_548 := n6_; clear n0_ n1_ n2_ n3_ n4_ n5_ n6_ hb hbox hg; have hnb8 := NB548_549.out; have hnc8 := NB549_548.out; have hcz9_0 : w7.cell? ⟨gb548, 0, none⟩ = some (.int .i64 0) := (blk_cell BK548.out 0).trans rfl; have hcz9_1 : w7.cell? ⟨gb548, 1, none⟩ = some (.int .i64 0) := (blk_cell BK548.out 1).trans rfl; have hfz9_0 := blk_frozen BK548.out 0; have hfz9_1 := blk_frozen BK548.out 1; have hcz10_0 : w7.cell? ⟨gb549, 0, none⟩ = some (.int .i64 0) := (blk_cell BK549.out 0).trans rfl; have hcz10_1 : w7.cell? ⟨gb549, 1, none⟩ = some (.int .i64 0) := (blk_cell BK549.out 1).trans rfl; have hfz10_0 := blk_frozen BK549.out 0; have hfz10_1 := blk_frozen BK549.out 1) | ((with_reducible refine gate_dst (N := 20) rfl ?_); refine Kd.R_lit k44 _ 44 ?hg (N := 20) ?hd (xs := ([] : List (S44))) (inner := []) (ok := fun _ => True) (okp := fun _ => True) ?hr ?hp (fun _ hk => hk) trivial (Below.refl _ _) (Nat.le_refl _) (by simp) ?_; (case hd => rfl); (case hg => rfl); (case hr => first | (go_simp; done) | (go_simp; rfl)); (case hp => exact (Reps.none _ _)); intro v551 w11 ho12 hb hg_ hnew_; clear hg_ hnew_; (first | rw [← Ny550.out] at ho12 | (simp only [Int.reduceToNat] at ho12; rw [← Ny550.out] at ho12)); have n0_ := aM (Kd.R_lower (Kd.R_newB (Kd.R_newB (Kd.R_newM (M := fun k_ => (w.heap.size ≤ k_)) ho12 (below_size (zt GE548.out GE549.out)) (fun k_ h_ => h_)) (g := gb548) (o := .cells #[.int .i64 t544, .int .i64 t545] 44 (0, 0)) (by (with_reducible repeat (first | refine blk_drewN ?_ _ | refine blk_drew ?_ | refine blk_alloc ?_ _)); refine blk_far ?_ NB548_549.out _; (with_reducible repeat (first | refine blk_drewN ?_ _ | refine blk_drew ?_ | refine blk_alloc ?_ _)); refine blk_far ?_ NB548_549.out _; (with_reducible repeat (first | refine blk_drewN ?_ _ | refine blk_drew ?_ | refine blk_alloc ?_ _)); refine blk_put (cs := #[.int .i64 t544, .int .i64 0]) ?_ 1 _ rfl; (with_reducible repeat (first | refine blk_drewN ?_ _ | refine blk_drew ?_ | refine blk_alloc ?_ _)); refine blk_put (cs := #[.int .i64 0, .int .i64 0]) ?_ 0 _ rfl; (with_reducible repeat (first | refine blk_drewN ?_ _ | refine blk_drew ?_ | refine blk_alloc ?_ _)); exact BK548.out)) (g := gb549) (o := .cells #[.int .i64 t546, .int .i64 t547] 44 (0, 0)) (by (with_reducible repeat (first | refine blk_drewN ?_ _ | refine blk_drew ?_ | refine blk_alloc ?_ _)); refine blk_put (cs := #[.int .i64 t546, .int .i64 0]) ?_ 1 _ rfl; (with_reducible repeat (first | refine blk_drewN ?_ _ | refine blk_drew ?_ | refine blk_alloc ?_ _)); refine blk_put (cs := #[.int .i64 0, .int .i64 0]) ?_ 0 _ rfl; (with_reducible repeat (first | refine blk_drewN ?_ _ | refine blk_drew ?_ | refine blk_alloc ?_ _)); refine blk_far ?_ NB549_548.out _; (with_reducible repeat (first | refine blk_drewN ?_ _ | refine blk_drew ?_ | refine blk_alloc ?_ _)); refine blk_far ?_ NB549_548.out _; (with_reducible repeat (first | refine blk_drewN ?_ _ | refine blk_drew ?_ | refine blk_alloc ?_ _)); exact BK549.out)) (below_size (zt GE548.out GE549.out))); have n1_ := aM (blk_below (g := gb548) (o := .cells #[.int .i64 t544, .int .i64 t545] 44 (0, 0)) (by (with_reducible repeat (first | refine blk_drewN ?_ _ | refine blk_drew ?_ | refine blk_alloc ?_ _)); refine blk_far ?_ NB548_549.out _; (with_reducible repeat (first | refine blk_drewN ?_ _ | refine blk_drew ?_ | refine blk_alloc ?_ _)); refine blk_far ?_ NB548_549.out _; (with_reducible repeat (first | refine blk_drewN ?_ _ | refine blk_drew ?_ | refine blk_alloc ?_ _)); refine blk_put (cs := #[.int .i64 t544, .int .i64 0]) ?_ 1 _ rfl; (with_reducible repeat (first | refine blk_drewN ?_ _ | refine blk_drew ?_ | refine blk_alloc ?_ _)); refine blk_put (cs := #[.int .i64 0, .int .i64 0]) ?_ 0 _ rfl; (with_reducible repeat (first | refine blk_drewN ?_ _ | refine blk_drew ?_ | refine blk_alloc ?_ _)); exact BK548.out) hb); have n2_ := aM (blk_below (g := gb549) (o := .cells #[.int .i64 t546, .int .i64 t547] 44 (0, 0)) (by (with_reducible repeat (first | refine blk_drewN ?_ _ | refine blk_drew ?_ | refine blk_alloc ?_ _)); refine blk_put (cs := #[.int .i64 t546, .int .i64 0]) ?_ 1 _ rfl; (with_reducible repeat (first | refine blk_drewN ?_ _ | refine blk_drew ?_ | refine blk_alloc ?_ _)); refine blk_put (cs := #[.int .i64 0, .int .i64 0]) ?_ 0 _ rfl; (with_reducible repeat (first | refine blk_drewN ?_ _ | refine blk_drew ?_ | refine blk_alloc ?_ _)); refine blk_far ?_ NB549_548.out _; (with_reducible repeat (first | refine blk_drewN ?_ _ | refine blk_drew ?_ | refine blk_alloc ?_ _)); refine blk_far ?_ NB549_548.out _; (with_reducible repeat (first | refine blk_drewN ?_ _ | refine blk_drew ?_ | refine blk_alloc ?_ _)); exact BK549.out) hb); have n3_ := aM (below_step (zt GE548.out GE549.out) hb); clear BK548 BK549 HB; have HO552 := n0_; have BK548 := n1_; have BK549 := n2_; have HB := n3_; clear n0_ n1_ n2_ n3_ hb ho12; have hcz13_0 : w11.cell? ⟨gb548, 0, none⟩ = some (.int .i64 t544) := (blk_cell BK548.out 0).trans rfl; have hcz13_1 : w11.cell? ⟨gb548, 1, none⟩ = some (.int .i64 t545) := (blk_cell BK548.out 1).trans rfl; have hfz13_0 := blk_frozen BK548.out 0; have hfz13_1 := blk_frozen BK548.out 1)); try go_wp2_with (first | (go_at_call 66; (try simp only [i64_w]); (with_reducible refine (impl_corner.calls k _ _ l0 t544 t545 _ ?side1 ?side2 A2.out).mono ?_); (case side1 => repeat (first | exact HR0.out | (with_reducible refine Kd.C_alloc ?_ _) | (with_reducible refine Kd.C_drewN ?_ _) | (with_reducible refine Kd.C_drew ?_))); (case side2 => exact HC0.out); rintro e w4 ⟨rfl, hb⟩; have n0_ := aM (below_step zb hb); clear HB; have HB := n0_; clear n0_; (try clear hb); (try clear hb2); (try clear hk); (try clear hi)) | (go_at_call 67; (try simp only [i64_w]); (with_reducible refine (impl_reach.calls k _ _ l0 t546 t547 _ ?side1 ?side2 A3.out).mono ?_); (case side1 => repeat (first | exact (Kd.C_below HR0.out HB.out) | (with_reducible refine Kd.C_alloc ?_ _) | (with_reducible refine Kd.C_drewN ?_ _) | (with_reducible refine Kd.C_drew ?_))); (case side2 => exact HC0.out); rintro e w5 ⟨rfl, hb⟩; have n0_ := aM (below_step zb hb); clear HB; have HB := n0_; clear n0_; (try clear hb); (try clear hb2); (try clear hk); (try clear hi)) | ((with_reducible refine gate_dst (N := 3) rfl ?_); refine zx 3 #[.int .i64 0, .int .i64 0] 44 ?_; intro gb548 hg w6 hbox hb; have n0_ := aM (below_step zb hb); have n1_ := aM (hbox); have n2_ := aM ((ze : w.heap.size ≤ gb548)); have n3_ := aM ((ze : w.heap.size ≤ gb548)); clear HB; have HB := n0_; have BK548 := n1_; have GW548 := n2_; have GE548 := n3_; clear n0_ n1_ n2_ n3_; clear hb hbox hg) | ((with_reducible refine gate_dst (N := 4) rfl ?_); refine zx 4 #[.int .i64 0, .int .i64 0] 44 ?_; intro gb549 hg w7 hbox hb; have n0_ := aM (blk_below (g := gb548) (o := .cells #[.int .i64 0, .int .i64 0] 44 (0, 0)) (mB_ BK548.out) hb); have n1_ := aM (below_step (zs GE548.out) hb); have n2_ := aM (hbox); have n3_ := aM ((zf GE548.out : w.heap.size ≤ gb549)); have n4_ := aM ((zf GE548.out : w.heap.size ≤ gb549)); have n5_ := aM ((zl BK548.out : gb548 ≠ gb549)); have n6_ := aM ((zn BK548.out : gb549 ≠ gb548)); clear BK548 HB; have BK548 := n0_; have HB := n1_; have BK549 := n2_; have GW549 := n3_; have GE549 := n4_; have NB548_549 := n5_; have NB549_548 := n6_; clear n0_ n1_ n2_ n3_ n4_ n5_ n6_ hb hbox hg; have hnb8 := NB548_549.out; have hnc8 := NB549_548.out; have hcz9_0 : w7.cell? ⟨gb548, 0, none⟩ = some (.int .i64 0) := (blk_cell BK548.out 0).trans rfl; have hcz9_1 : w7.cell? ⟨gb548, 1, none⟩ = some (.int .i64 0) := (blk_cell BK548.out 1).trans rfl; have hfz9_0 := blk_frozen BK548.out 0; have hfz9_1 := blk_frozen BK548.out 1; have hcz10_0 : w7.cell? ⟨gb549, 0, none⟩ = some (.int .i64 0) := (blk_cell BK549.out 0).trans rfl; have hcz10_1 : w7.cell? ⟨gb549, 1, none⟩ = some (.int .i64 0) := (blk_cell BK549.out 1).trans rfl; have hfz10_0 := blk_frozen BK549.out 0; have hfz10_1 := blk_frozen BK549.out 1) | ((with_reducible refine gate_dst (N := 20) rfl ?_); refine Kd.R_lit k44 _ 44 ?hg (N := 20) ?hd (xs := ([] : List (S44))) (inner := []) (ok := fun _ => True) (okp := fun _ => True) ?hr ?hp (fun _ hk => hk) trivial (Below.refl _ _) (Nat.le_refl _) (by simp) ?_; (case hd => rfl); (case hg => rfl); (case hr => first | (go_simp; done) | (go_simp; rfl)); (case hp => exact (Reps.none _ _)); intro v551 w11 ho12 hb hg_ hnew_; clear hg_ hnew_; (first | rw [← Ny550.out] at ho12 | (simp only [Int.reduceToNat] at ho12; rw [← Ny550.out] at ho12)); have n0_ := aM (Kd.R_lower (Kd.R_newB (Kd.R_newB (Kd.R_newM (M := fun k_ => (w.heap.size ≤ k_)) ho12 (below_size (zt GE548.out GE549.out)) (fun k_ h_ => h_)) (g := gb548) (o := .cells #[.int .i64 t544, .int .i64 t545] 44 (0, 0)) (by (with_reducible repeat (first | refine blk_drewN ?_ _ | refine blk_drew ?_ | refine blk_alloc ?_ _)); refine blk_far ?_ NB548_549.out _; (with_reducible repeat (first | refine blk_drewN ?_ _ | refine blk_drew ?_ | refine blk_alloc ?_ _)); refine blk_far ?_ NB548_549.out _; (with_reducible repeat (first | refine blk_drewN ?_ _ | refine blk_drew ?_ | refine blk_alloc ?_ _)); refine blk_put (cs := #[.int .i64 t544, .int .i64 0]) ?_ 1 _ rfl; (with_reducible repeat (first | refine blk_drewN ?_ _ | refine blk_drew ?_ | refine blk_alloc ?_ _)); refine blk_put (cs := #[.int .i64 0, .int .i64 0]) ?_ 0 _ rfl; (with_reducible repeat (first | refine blk_drewN ?_ _ | refine blk_drew ?_ | refine blk_alloc ?_ _)); exact BK548.out)) (g := gb549) (o := .cells #[.int .i64 t546, .int .i64 t547] 44 (0, 0)) (by (with_reducible repeat (first | refine blk_drewN ?_ _ | refine blk_drew ?_ | refine blk_alloc ?_ _)); refine blk_put (cs := #[.int .i64 t546, .int .i64 0]) ?_ 1 _ rfl; (with_reducible repeat (first | refine blk_drewN ?_ _ | refine blk_drew ?_ | refine blk_alloc ?_ _)); refine blk_put (cs := #[.int .i64 0, .int .i64 0]) ?_ 0 _ rfl; (with_reducible repeat (first | refine blk_drewN ?_ _ | refine blk_drew ?_ | refine blk_alloc ?_ _)); refine blk_far ?_ NB549_548.out _; (with_reducible repeat (first | refine blk_drewN ?_ _ | refine blk_drew ?_ | refine blk_alloc ?_ _)); refine blk_far ?_ NB549_548.out _; (with_reducible repeat (first | refine blk_drewN ?_ _ | refine blk_drew ?_ | refine blk_alloc ?_ _)); exact BK549.out)) (below_size (zt GE548.out GE549.out))); have n1_ := aM (blk_below (g := gb548) (o := .cells #[.int .i64 t544, .int .i64 t545] 44 (0, 0)) (by (with_reducible repeat (first | refine blk_drewN ?_ _ | refine blk_drew ?_ | refine blk_alloc ?_ _)); refine blk_far ?_ NB548_549.out _; (with_reducible repeat (first | refine blk_drewN ?_ _ | refine blk_drew ?_ | refine blk_alloc ?_ _)); refine blk_far ?_ NB548_549.out _; (with_reducible repeat (first | refine blk_drewN ?_ _ | refine blk_drew ?_ | refine blk_alloc ?_ _)); refine blk_put (cs := #[.int .i64 t544, .int .i64 0]) ?_ 1 _ rfl; (with_reducible repeat (first | refine blk_drewN ?_ _ | refine blk_drew ?_ | refine blk_alloc ?_ _)); refine blk_put (cs := #[.int .i64 0, .int .i64 0]) ?_ 0 _ rfl; (with_reducible repeat (first | refine blk_drewN ?_ _ | refine blk_drew ?_ | refine blk_alloc ?_ _)); exact BK548.out) hb); have n2_ := aM (blk_below (g := gb549) (o := .cells #[.int .i64 t546, .int .i64 t547] 44 (0, 0)) (by (with_reducible repeat (first | refine blk_drewN ?_ _ | refine blk_drew ?_ | refine blk_alloc ?_ _)); refine blk_put (cs := #[.int .i64 t546, .int .i64 0]) ?_ 1 _ rfl; (with_reducible repeat (first | refine blk_drewN ?_ _ | refine blk_drew ?_ | refine blk_alloc ?_ _)); refine blk_put (cs := #[.int .i64 0, .int .i64 0]) ?_ 0 _ rfl; (with_reducible repeat (first | refine blk_drewN ?_ _ | refine blk_drew ?_ | refine blk_alloc ?_ _)); refine blk_far ?_ NB549_548.out _; (with_reducible repeat (first | refine blk_drewN ?_ _ | refine blk_drew ?_ | refine blk_alloc ?_ _)); refine blk_far ?_ NB549_548.out _; (with_reducible repeat (first | refine blk_drewN ?_ _ | refine blk_drew ?_ | refine blk_alloc ?_ _)); exact BK549.out) hb); have n3_ := aM (below_step (zt GE548.out GE549.out) hb); clear BK548 BK549 HB; have HO552 := n0_; have BK548 := n1_; have BK549 := n2_; have HB := n3_; clear n0_ n1_ n2_ n3_ hb ho12; have hcz13_0 : w11.cell? ⟨gb548, 0, none⟩ = some (.int .i64 t544) := (blk_cell BK548.out 0).trans rfl; have hcz13_1 : w11.cell? ⟨gb548, 1, none⟩ = some (.int .i64 t545) := (blk_cell BK548.out 1).trans rfl; have hfz13_0 := blk_frozen BK548.out 0; have hfz13_1 := blk_frozen BK548.out 1)))
 go_loopg [5, 6] k (fun kq v5 v6 w' => ∃ (x5_1 : List (S44)) (x6_1 : Int), v6 = .int .i64 x6_1 ∧ Aside0 (impl_holes.l0 kq l0 x5_1 x6_1 t544 t545 t546 t547 = some r) ∧ Aside0 (kq ≤ k) ∧ Aside0 (Kd.R k44 44 w' w.heap.size (fun k_ => (w.heap.size ≤ k_) ∧ k_ ≠ gb548 ∧ k_ ≠ gb549) v5 x5_1) ∧ Aside0 (w'.heap[gb548]? = some (.cells #[.int .i64 t544, .int .i64 t545] 44 (0, 0))) ∧ Aside0 (w'.heap[gb549]? = some (.cells #[.int .i64 t546, .int .i64 t547] 44 (0, 0))) ∧ Aside0 (Below w.heap.size w w'))
 case atStart => exact ⟨(y550), (wrap64 (t545 - 1)), zr, H', ⟨Nat.le_refl _⟩, ⟨zd5 HO552.out⟩, ⟨mB_ BK548.out⟩, ⟨mB_ BK549.out⟩, ⟨zt GE548.out GE549.out⟩⟩
 case round =>
  clear H'
  try clear p2
  try clear c4
  try clear p6
  try clear c8
  try clear hcz10_0
  try clear hcz10_1
  try clear hcz13_0
  try clear hcz13_1
  try clear hcz9_0
  try clear hcz9_1
  try clear hfz10_0
  try clear hfz10_1
  try clear hfz13_0
  try clear hfz13_1
  try clear hfz9_0
  try clear hfz9_1
  obtain ⟨x5_1, x6_1, rfl, HA, HK1, HO_5, BK548, BK549, HB⟩ := hrel
  cases gk with
  | zero => exact absurd HA.out (by simp [impl_holes.l0])
  | succ k1 =>
   have H := HA.out
   clear HA
   simp only [impl_holes.l0] at H
   by_cases c14 : x6_1 ≤ (wrap64 (t547 + 1))
   ·rw [if_pos c14] at H
    have c14b0 : decide (x6_1 ≤ (wrap64 (t547 + 1))) = true := decide_eq_true c14
    clear c14
    have H' := aM H
    clear H
    have hnb15 := NB549_548.out
    have hnc15 := NB548_549.out
    have hcz16_0 : wr.cell? ⟨gb549, 0, none⟩ = some (.int .i64 t546) := (blk_cell BK549.out 0).trans rfl
    have hcz16_1 : wr.cell? ⟨gb549, 1, none⟩ = some (.int .i64 t547) := (blk_cell BK549.out 1).trans rfl
    have hfz16_0 := blk_frozen BK549.out 0
    have hfz16_1 := blk_frozen BK549.out 1
    have hcz17_0 : wr.cell? ⟨gb548, 0, none⟩ = some (.int .i64 t544) := (blk_cell BK548.out 0).trans rfl
    have hcz17_1 : wr.cell? ⟨gb548, 1, none⟩ = some (.int .i64 t545) := (blk_cell BK548.out 1).trans rfl
    have hfz17_0 := blk_frozen BK548.out 0
    have hfz17_1 := blk_frozen BK548.out 1
    go_wp2
    repeat (go_quiet (fail); try go_wp2)
    go_loopg [5, 7] k1 (fun kq v5 v7 w' => ∃ (x5_2 : List (S44)) (x7_2 : Int), v7 = .int .i64 x7_2 ∧ Aside0 (impl_holes.l1 kq l0 x5_2 x6_1 x7_2 t544 t545 t546 t547 = some r) ∧ Aside0 (kq ≤ k1) ∧ Aside0 (Kd.R k44 44 w' w.heap.size (fun k_ => (w.heap.size ≤ k_) ∧ k_ ≠ gb548 ∧ k_ ≠ gb549) v5 x5_2) ∧ Aside0 (w'.heap[gb548]? = some (.cells #[.int .i64 t544, .int .i64 t545] 44 (0, 0))) ∧ Aside0 (w'.heap[gb549]? = some (.cells #[.int .i64 t546, .int .i64 t547] 44 (0, 0))) ∧ Aside0 (Below w.heap.size w w'))
    case atStart => exact ⟨(x5_1), (wrap64 (t544 - 1)), zr, H', ⟨Nat.le_refl _⟩, ⟨mR_ HO_5.out⟩, ⟨mB_ BK548.out⟩, ⟨mB_ BK549.out⟩, ⟨zt GE548.out GE549.out⟩⟩
    case round =>
     clear H'
     try clear c1
     try clear p2
     try clear c4
     try clear p6
     try clear c8
     try clear c14
     try clear c14b0
     try clear c15
     try clear hcz10_0
     try clear hcz10_1
     try clear hcz13_0
     try clear hcz13_1
     try clear hcz16_0
     try clear hcz16_1
     try clear hcz17_0
     try clear hcz17_1
     try clear hcz9_0
     try clear hcz9_1
     try clear hfz10_0
     try clear hfz10_1
     try clear hfz13_0
     try clear hfz13_1
     try clear hfz16_0
     try clear hfz16_1
     try clear hfz17_0
     try clear hfz17_1
     try clear hfz9_0
     try clear hfz9_1
     try clear p2
     try clear p6
     obtain ⟨x5_2, x7_2, rfl, HA, HK2, HO_5, BK548, BK549, HB⟩ := hrel
     cases gk with
     | zero => exact absurd HA.out (by simp [impl_holes.l1])
     | succ k2 =>
      have H := HA.out
      clear HA
      simp only [impl_holes.l1] at H
      by_cases c18 : x7_2 ≤ (wrap64 (t546 + 1))
      rotate_left
      ·rw [if_neg c18] at H
       have c18b0 : decide (x7_2 ≤ (wrap64 (t546 + 1))) = false := decide_eq_false c18
       clear c18
       have H' := aM H
       clear H
       have hnb38 := NB549_548.out
       have hnc38 := NB548_549.out
       have hcz39_0 : wr.cell? ⟨gb549, 0, none⟩ = some (.int .i64 t546) := (blk_cell BK549.out 0).trans rfl
       have hcz39_1 : wr.cell? ⟨gb549, 1, none⟩ = some (.int .i64 t547) := (blk_cell BK549.out 1).trans rfl
       have hfz39_0 := blk_frozen BK549.out 0
       have hfz39_1 := blk_frozen BK549.out 1
       go_wp2
       repeat (go_quiet (fail); try go_wp2)
       go_roundg k2
       case measure => have := HK1.out; have := HK2.out; omega
       case rel => exact ⟨(x5_2), (wrap64 (x6_1 + 1)), zr, H', ⟨by have := HK1.out; have := HK2.out; omega⟩, ⟨mR_ HO_5.out⟩, ⟨mB_ BK548.out⟩, ⟨mB_ BK549.out⟩, ⟨zt GE548.out GE549.out⟩⟩
      rw [if_pos c18] at H
      have c18b0 : decide (x7_2 ≤ (wrap64 (t546 + 1))) = true := decide_eq_true c18
      clear c18
      replace H := Option.bind_eq_some_iff.mp H
      obtain ⟨t554, A190, H⟩ := H
      replace H : (if t554 = true then (impl_holes.l1 k2 l0 x5_2 x6_1 (wrap64 (x7_2 + 1)) t544 t545 t546 t547) else (if x5_2.length < 8796093022208 then (impl_holes.l1 k2 l0 (x5_2 ++ [(⟨x7_2, x6_1⟩ : S44)]) x6_1 (wrap64 (x7_2 + 1)) t544 t545 t546 t547) else (none))) = some r := H
      have A19 := aM A190
      clear A190
      by_cases c20 : t554 = true
      ·subst c20
       have H1 : (impl_holes.l1 k2 l0 x5_2 x6_1 (wrap64 (x7_2 + 1)) t544 t545 t546 t547) = some r := by rw [if_pos rfl] at H; exact H
       clear H
       have H := H1
       clear H1
       have H' := aM H
       clear H
       have hnb21 := NB549_548.out
       have hnc21 := NB548_549.out
       have hcz22_0 : wr.cell? ⟨gb549, 0, none⟩ = some (.int .i64 t546) := (blk_cell BK549.out 0).trans rfl
       have hcz22_1 : wr.cell? ⟨gb549, 1, none⟩ = some (.int .i64 t547) := (blk_cell BK549.out 1).trans rfl
       have hfz22_0 := blk_frozen BK549.out 0
       have hfz22_1 := blk_frozen BK549.out 1
       go_wp2_with (first | ((with_reducible refine gate_dst (N := 8) rfl ?_); refine zx 8 #[.int .i64 0, .int .i64 0] 44 ?_; intro gb553 hg w23 hbox hb; have n0_ := aM (Kd.R_below (Kd.R_elderB (mR_ HO_5.out) gb553 (Nat.le_of_eq hg.symm)) hb); have n1_ := aM (blk_below (g := gb548) (o := .cells #[.int .i64 t544, .int .i64 t545] 44 (0, 0)) (mB_ BK548.out) hb); have n2_ := aM (blk_below (g := gb549) (o := .cells #[.int .i64 t546, .int .i64 t547] 44 (0, 0)) (mB_ BK549.out) hb); have n3_ := aM (below_step (zt GE548.out GE549.out) hb); have n4_ := aM (hbox); have n5_ := aM ((by rw [hg]; exact (below_size (zt GE548.out GE549.out)) : w.heap.size ≤ gb553)); have n6_ := aM ((by rw [hg]; exact (below_size (zt GE548.out GE549.out)) : w.heap.size ≤ gb553)); have n7_ := aM ((zl BK548.out : gb548 ≠ gb553)); have n8_ := aM ((zn BK548.out : gb553 ≠ gb548)); have n9_ := aM ((zl BK549.out : gb549 ≠ gb553)); have n10_ := aM ((zn BK549.out : gb553 ≠ gb549)); clear HO_5 BK548 BK549 HB; have HO_5 := n0_; have BK548 := n1_; have BK549 := n2_; have HB := n3_; have BK553 := n4_; have GW553 := n5_; have GE553 := n6_; have NB548_553 := n7_; have NB553_548 := n8_; have NB549_553 := n9_; have NB553_549 := n10_; clear n0_ n1_ n2_ n3_ n4_ n5_ n6_ n7_ n8_ n9_ n10_ hb hbox hg; have hnb24 := NB553_548.out; have hnc24 := NB548_553.out; have hnb25 := NB553_549.out; have hnc25 := NB549_553.out; have hcz26_0 : w23.cell? ⟨gb553, 0, none⟩ = some (.int .i64 0) := (blk_cell BK553.out 0).trans rfl; have hcz26_1 : w23.cell? ⟨gb553, 1, none⟩ = some (.int .i64 0) := (blk_cell BK553.out 1).trans rfl; have hfz26_0 := blk_frozen BK553.out 0; have hfz26_1 := blk_frozen BK553.out 1) | (go_at_call 36; (with_reducible refine (impl_Cell_36.calls k2 _ _ l0 x7_2 x6_1 true _ ?side1 ?side2 A19.out).mono ?_); (case side1 => exact Kd.C_below HR0.out (by repeat (first | (with_reducible first | exact HB.out | apply below_alloc | apply pw_below_drewN | apply below_drew1 | refine below_set ?_ GE548.out | refine below_set ?_ GE549.out | refine below_set ?_ GE553.out) | exact HB.out))); (case side2 => exact HC0.out); rintro e w27 ⟨rfl, hb⟩; have n0_ := aM (Kd.R_below (by (with_reducible repeat (first | apply Kd.R_alloc | apply Kd.R_drewN | apply Kd.R_drew)); exact (Kd.R_mono (Kd.R_far (p := ⟨gb553, 1, none⟩) (Kd.R_far (p := ⟨gb553, 0, none⟩) (Kd.R_mono HO_5.out (fun k_ hk => (⟨hk, hk.2⟩ : _ ∧ k_ ≠ gb553))) (fun _ hk => hk.2) (.int .i64 x7_2)) (fun _ hk => hk.2) (.int .i64 x6_1)) (fun _ h_ => h_.1))) hb); have n1_ := aM (blk_below (g := gb548) (o := .cells #[.int .i64 t544, .int .i64 t545] 44 (0, 0)) (by (with_reducible repeat (first | refine blk_drewN ?_ _ | refine blk_drew ?_ | refine blk_alloc ?_ _)); refine blk_far ?_ NB548_553.out _; (with_reducible repeat (first | refine blk_drewN ?_ _ | refine blk_drew ?_ | refine blk_alloc ?_ _)); refine blk_far ?_ NB548_553.out _; (with_reducible repeat (first | refine blk_drewN ?_ _ | refine blk_drew ?_ | refine blk_alloc ?_ _)); exact BK548.out) hb); have n2_ := aM (blk_below (g := gb549) (o := .cells #[.int .i64 t546, .int .i64 t547] 44 (0, 0)) (by (with_reducible repeat (first | refine blk_drewN ?_ _ | refine blk_drew ?_ | refine blk_alloc ?_ _)); refine blk_far ?_ NB549_553.out _; (with_reducible repeat (first | refine blk_drewN ?_ _ | refine blk_drew ?_ | refine blk_alloc ?_ _)); refine blk_far ?_ NB549_553.out _; (with_reducible repeat (first | refine blk_drewN ?_ _ | refine blk_drew ?_ | refine blk_alloc ?_ _)); exact BK549.out) hb); have n3_ := aM (blk_below (g := gb553) (o := .cells #[.int .i64 x7_2, .int .i64 x6_1] 44 (0, 0)) (by (with_reducible repeat (first | refine blk_drewN ?_ _ | refine blk_drew ?_ | refine blk_alloc ?_ _)); refine blk_put (cs := #[.int .i64 x7_2, .int .i64 0]) ?_ 1 _ rfl; (with_reducible repeat (first | refine blk_drewN ?_ _ | refine blk_drew ?_ | refine blk_alloc ?_ _)); refine blk_put (cs := #[.int .i64 0, .int .i64 0]) ?_ 0 _ rfl; (with_reducible repeat (first | refine blk_drewN ?_ _ | refine blk_drew ?_ | refine blk_alloc ?_ _)); exact BK553.out) hb); have n4_ := aM (below_step (by repeat (first | (with_reducible first | exact HB.out | apply below_alloc | apply pw_below_drewN | apply below_drew1 | refine below_set ?_ GE548.out | refine below_set ?_ GE549.out | refine below_set ?_ GE553.out) | exact HB.out)) hb); clear HO_5 BK548 BK549 BK553 HB; have HO_5 := n0_; have BK548 := n1_; have BK549 := n2_; have BK553 := n3_; have HB := n4_; clear n0_ n1_ n2_ n3_ n4_; (try clear hb); (try clear hb2); (try clear hk); (try clear hi)))
       repeat (go_quiet (first | ((with_reducible refine gate_dst (N := 8) rfl ?_); refine zx 8 #[.int .i64 0, .int .i64 0] 44 ?_; intro gb553 hg w23 hbox hb; have n0_ := aM (Kd.R_below (Kd.R_elderB (mR_ HO_5.out) gb553 (Nat.le_of_eq hg.symm)) hb); have n1_ := aM (blk_below (g := gb548) (o := .cells #[.int .i64 t544, .int .i64 t545] 44 (0, 0)) (mB_ BK548.out) hb); have n2_ := aM (blk_below (g := gb549) (o := .cells #[.int .i64 t546, .int .i64 t547] 44 (0, 0)) (mB_ BK549.out) hb); have n3_ := aM (below_step (zt GE548.out GE549.out) hb); have n4_ := aM (hbox); have n5_ := aM ((by rw [hg]; exact (below_size (zt GE548.out GE549.out)) : w.heap.size ≤ gb553)); have n6_ := aM ((by rw [hg]; exact (below_size (zt GE548.out GE549.out)) : w.heap.size ≤ gb553)); have n7_ := aM ((zl BK548.out : gb548 ≠ gb553)); have n8_ := aM ((zn BK548.out : gb553 ≠ gb548)); have n9_ := aM ((zl BK549.out : gb549 ≠ gb553)); have n10_ := aM ((zn BK549.out : gb553 ≠ gb549)); clear HO_5 BK548 BK549 HB; have HO_5 := n0_; have BK548 := n1_; have BK549 := n2_; have HB := n3_; have BK553 := n4_; have GW553 := n5_; have GE553 := n6_; have NB548_553 := n7_; have NB553_548 := n8_; have NB549_553 := n9_; have NB553_549 := n10_; clear n0_ n1_ n2_ n3_ n4_ n5_ n6_ n7_ n8_ n9_ n10_ hb hbox hg; have hnb24 := NB553_548.out; have hnc24 := NB548_553.out; have hnb25 := NB553_549.out; have hnc25 := NB549_553.out; have hcz26_0 : w23.cell? ⟨gb553, 0, none⟩ = some (.int .i64 0) := (blk_cell BK553.out 0).trans rfl; have hcz26_1 : w23.cell? ⟨gb553, 1, none⟩ = some (.int .i64 0) := (blk_cell BK553.out 1).trans rfl; have hfz26_0 := blk_frozen BK553.out 0; have hfz26_1 := blk_frozen BK553.out 1) | (go_at_call 36; (try simp only [i64_w]); (with_reducible refine (impl_Cell_36.calls k2 _ _ l0 x7_2 x6_1 true _ ?side1 ?side2 A19.out).mono ?_); (case side1 => exact Kd.C_below HR0.out (by repeat (first | (with_reducible first | exact HB.out | apply below_alloc | apply pw_below_drewN | apply below_drew1 | refine below_set ?_ GE548.out | refine below_set ?_ GE549.out | refine below_set ?_ GE553.out) | exact HB.out))); (case side2 => exact HC0.out); rintro e w27 ⟨rfl, hb⟩; have n0_ := aM (Kd.R_below (by (with_reducible repeat (first | apply Kd.R_alloc | apply Kd.R_drewN | apply Kd.R_drew)); exact (Kd.R_mono (Kd.R_far (p := ⟨gb553, 1, none⟩) (Kd.R_far (p := ⟨gb553, 0, none⟩) (Kd.R_mono HO_5.out (fun k_ hk => (⟨hk, hk.2⟩ : _ ∧ k_ ≠ gb553))) (fun _ hk => hk.2) (.int .i64 x7_2)) (fun _ hk => hk.2) (.int .i64 x6_1)) (fun _ h_ => h_.1))) hb); have n1_ := aM (blk_below (g := gb548) (o := .cells #[.int .i64 t544, .int .i64 t545] 44 (0, 0)) (by (with_reducible repeat (first | refine blk_drewN ?_ _ | refine blk_drew ?_ | refine blk_alloc ?_ _)); refine blk_far ?_ NB548_553.out _; (with_reducible repeat (first | refine blk_drewN ?_ _ | refine blk_drew ?_ | refine blk_alloc ?_ _)); refine blk_far ?_ NB548_553.out _; (with_reducible repeat (first | refine blk_drewN ?_ _ | refine blk_drew ?_ | refine blk_alloc ?_ _)); exact BK548.out) hb); have n2_ := aM (blk_below (g := gb549) (o := .cells #[.int .i64 t546, .int .i64 t547] 44 (0, 0)) (by (with_reducible repeat (first | refine blk_drewN ?_ _ | refine blk_drew ?_ | refine blk_alloc ?_ _)); refine blk_far ?_ NB549_553.out _; (with_reducible repeat (first | refine blk_drewN ?_ _ | refine blk_drew ?_ | refine blk_alloc ?_ _)); refine blk_far ?_ NB549_553.out _; (with_reducible repeat (first | refine blk_drewN ?_ _ | refine blk_drew ?_ | refine blk_alloc ?_ _)); exact BK549.out) hb); have n3_ := aM (blk_below (g := gb553) (o := .cells #[.int .i64 x7_2, .int .i64 x6_1] 44 (0, 0)) (by (with_reducible repeat (first | refine blk_drewN ?_ _ | refine blk_drew ?_ | refine blk_alloc ?_ _)); refine blk_put (cs := #[.int .i64 x7_2, .int .i64 0]) ?_ 1 _ rfl; (with_reducible repeat (first | refine blk_drewN ?_ _ | refine blk_drew ?_ | refine blk_alloc ?_ _)); refine blk_put (cs := #[.int .i64 0, .int .i64 0]) ?_ 0 _ rfl; (with_reducible repeat (first | refine blk_drewN ?_ _ | refine blk_drew ?_ | refine blk_alloc ?_ _)); exact BK553.out) hb); have n4_ := aM (below_step (by repeat (first | (with_reducible first | exact HB.out | apply below_alloc | apply pw_below_drewN | apply below_drew1 | refine below_set ?_ GE548.out | refine below_set ?_ GE549.out | refine below_set ?_ GE553.out) | exact HB.out)) hb); clear HO_5 BK548 BK549 BK553 HB; have HO_5 := n0_; have BK548 := n1_; have BK549 := n2_; have BK553 := n3_; have HB := n4_; clear n0_ n1_ n2_ n3_ n4_; (try clear hb); (try clear hb2); (try clear hk); (try clear hi))); try go_wp2_with (first | ((with_reducible refine gate_dst (N := 8) rfl ?_); refine zx 8 #[.int .i64 0, .int .i64 0] 44 ?_; intro gb553 hg w23 hbox hb; have n0_ := aM (Kd.R_below (Kd.R_elderB (mR_ HO_5.out) gb553 (Nat.le_of_eq hg.symm)) hb); have n1_ := aM (blk_below (g := gb548) (o := .cells #[.int .i64 t544, .int .i64 t545] 44 (0, 0)) (mB_ BK548.out) hb); have n2_ := aM (blk_below (g := gb549) (o := .cells #[.int .i64 t546, .int .i64 t547] 44 (0, 0)) (mB_ BK549.out) hb); have n3_ := aM (below_step (zt GE548.out GE549.out) hb); have n4_ := aM (hbox); have n5_ := aM ((by rw [hg]; exact (below_size (zt GE548.out GE549.out)) : w.heap.size ≤ gb553)); have n6_ := aM ((by rw [hg]; exact (below_size (zt GE548.out GE549.out)) : w.heap.size ≤ gb553)); have n7_ := aM ((zl BK548.out : gb548 ≠ gb553)); have n8_ := aM ((zn BK548.out : gb553 ≠ gb548)); have n9_ := aM ((zl BK549.out : gb549 ≠ gb553)); have n10_ := aM ((zn BK549.out : gb553 ≠ gb549)); clear HO_5 BK548 BK549 HB; have HO_5 := n0_; have BK548 := n1_; have BK549 := n2_; have HB := n3_; have BK553 := n4_; have GW553 := n5_; have GE553 := n6_; have NB548_553 := n7_; have NB553_548 := n8_; have NB549_553 := n9_; have NB553_549 := n10_; clear n0_ n1_ n2_ n3_ n4_ n5_ n6_ n7_ n8_ n9_ n10_ hb hbox hg; have hnb24 := NB553_548.out; have hnc24 := NB548_553.out; have hnb25 := NB553_549.out; have hnc25 := NB549_553.out; have hcz26_0 : w23.cell? ⟨gb553, 0, none⟩ = some (.int .i64 0) := (blk_cell BK553.out 0).trans rfl; have hcz26_1 : w23.cell? ⟨gb553, 1, none⟩ = some (.int .i64 0) := (blk_cell BK553.out 1).trans rfl; have hfz26_0 := blk_frozen BK553.out 0; have hfz26_1 := blk_frozen BK553.out 1) | (go_at_call 36; (try simp only [i64_w]); (with_reducible refine (impl_Cell_36.calls k2 _ _ l0 x7_2 x6_1 true _ ?side1 ?side2 A19.out).mono ?_); (case side1 => exact Kd.C_below HR0.out (by repeat (first | (with_reducible first | exact HB.out | apply below_alloc | apply pw_below_drewN | apply below_drew1 | refine below_set ?_ GE548.out | refine below_set ?_ GE549.out | refine below_set ?_ GE553.out) | exact HB.out))); (case side2 => exact HC0.out); rintro e w27 ⟨rfl, hb⟩; have n0_ := aM (Kd.R_below (by (with_reducible repeat (first | apply Kd.R_alloc | apply Kd.R_drewN | apply Kd.R_drew)); exact (Kd.R_mono (Kd.R_far (p := ⟨gb553, 1, none⟩) (Kd.R_far (p := ⟨gb553, 0, none⟩) (Kd.R_mono HO_5.out (fun k_ hk => (⟨hk, hk.2⟩ : _ ∧ k_ ≠ gb553))) (fun _ hk => hk.2) (.int .i64 x7_2)) (fun _ hk => hk.2) (.int .i64 x6_1)) (fun _ h_ => h_.1))) hb); have n1_ := aM (blk_below (g := gb548) (o := .cells #[.int .i64 t544, .int .i64 t545] 44 (0, 0)) (by (with_reducible repeat (first | refine blk_drewN ?_ _ | refine blk_drew ?_ | refine blk_alloc ?_ _)); refine blk_far ?_ NB548_553.out _; (with_reducible repeat (first | refine blk_drewN ?_ _ | refine blk_drew ?_ | refine blk_alloc ?_ _)); refine blk_far ?_ NB548_553.out _; (with_reducible repeat (first | refine blk_drewN ?_ _ | refine blk_drew ?_ | refine blk_alloc ?_ _)); exact BK548.out) hb); have n2_ := aM (blk_below (g := gb549) (o := .cells #[.int .i64 t546, .int .i64 t547] 44 (0, 0)) (by (with_reducible repeat (first | refine blk_drewN ?_ _ | refine blk_drew ?_ | refine blk_alloc ?_ _)); refine blk_far ?_ NB549_553.out _; (with_reducible repeat (first | refine blk_drewN ?_ _ | refine blk_drew ?_ | refine blk_alloc ?_ _)); refine blk_far ?_ NB549_553.out _; (with_reducible repeat (first | refine blk_drewN ?_ _ | refine blk_drew ?_ | refine blk_alloc ?_ _)); exact BK549.out) hb); have n3_ := aM (blk_below (g := gb553) (o := .cells #[.int .i64 x7_2, .int .i64 x6_1] 44 (0, 0)) (by (with_reducible repeat (first | refine blk_drewN ?_ _ | refine blk_drew ?_ | refine blk_alloc ?_ _)); refine blk_put (cs := #[.int .i64 x7_2, .int .i64 0]) ?_ 1 _ rfl; (with_reducible repeat (first | refine blk_drewN ?_ _ | refine blk_drew ?_ | refine blk_alloc ?_ _)); refine blk_put (cs := #[.int .i64 0, .int .i64 0]) ?_ 0 _ rfl; (with_reducible repeat (first | refine blk_drewN ?_ _ | refine blk_drew ?_ | refine blk_alloc ?_ _)); exact BK553.out) hb); have n4_ := aM (below_step (by repeat (first | (with_reducible first | exact HB.out | apply below_alloc | apply pw_below_drewN | apply below_drew1 | refine below_set ?_ GE548.out | refine below_set ?_ GE549.out | refine below_set ?_ GE553.out) | exact HB.out)) hb); clear HO_5 BK548 BK549 BK553 HB; have HO_5 := n0_; have BK548 := n1_; have BK549 := n2_; have BK553 := n3_; have HB := n4_; clear n0_ n1_ n2_ n3_ n4_; (try clear hb); (try clear hb2); (try clear hk); (try clear hi))))
       go_roundg k2
       case measure => have := HK1.out; have := HK2.out; omega
       case rel => exact ⟨(x5_2), (wrap64 (x7_2 + 1)), zr, H', ⟨by have := HK1.out; have := HK2.out; omega⟩, ⟨zd6 HO_5.out⟩, ⟨mB_ BK548.out⟩, ⟨mB_ BK549.out⟩, ⟨by repeat (first | (with_reducible first | exact HB.out | apply below_alloc | apply pw_below_drewN | apply below_drew1 | refine below_set ?_ GE548.out | refine below_set ?_ GE549.out | refine below_set ?_ GE553.out) | exact HB.out)⟩⟩
      replace c20 := Bool.eq_false_iff.mpr c20
      subst c20
      have H1 : (if x5_2.length < 8796093022208 then (impl_holes.l1 k2 l0 (x5_2 ++ [(⟨x7_2, x6_1⟩ : S44)]) x6_1 (wrap64 (x7_2 + 1)) t544 t545 t546 t547) else (none)) = some r := by rw [if_neg (show ¬ (false = true) by decide)] at H; exact H
      clear H
      have H := H1
      clear H1
      by_cases c28 : x5_2.length < 8796093022208
      rotate_left
      ·rw [if_neg c28] at H
       exact absurd H (by simp)
      rw [if_pos c28] at H
      have LMc28 := aM c28
      clear c28
      obtain ⟨y555, hy555⟩ : ∃ y_ : List (S44), y_ = (x5_2 ++ [(⟨x7_2, x6_1⟩ : S44)]) := ⟨_, rfl⟩
      replace H : (impl_holes.l1 k2 l0 y555 x6_1 (wrap64 (x7_2 + 1)) t544 t545 t546 t547) = some r := zy H hy555
      have Ny555 := aM hy555
      clear hy555
      have H' := aM H
      clear H
      have hnb29 := NB549_548.out
      have hnc29 := NB548_549.out
      have hcz30_0 : wr.cell? ⟨gb549, 0, none⟩ = some (.int .i64 t546) := (blk_cell BK549.out 0).trans rfl
      have hcz30_1 : wr.cell? ⟨gb549, 1, none⟩ = some (.int .i64 t547) := (blk_cell BK549.out 1).trans rfl
      have hfz30_0 := blk_frozen BK549.out 0
      have hfz30_1 := blk_frozen BK549.out 1
      go_wp2_with (first | ((with_reducible refine gate_dst (N := 8) rfl ?_); refine zx 8 #[.int .i64 0, .int .i64 0] 44 ?_; intro gb553 hg w31 hbox hb; have n0_ := aM (Kd.R_below (Kd.R_elderB (mR_ HO_5.out) gb553 (Nat.le_of_eq hg.symm)) hb); have n1_ := aM (blk_below (g := gb548) (o := .cells #[.int .i64 t544, .int .i64 t545] 44 (0, 0)) (mB_ BK548.out) hb); have n2_ := aM (blk_below (g := gb549) (o := .cells #[.int .i64 t546, .int .i64 t547] 44 (0, 0)) (mB_ BK549.out) hb); have n3_ := aM (below_step (zt GE548.out GE549.out) hb); have n4_ := aM (hbox); have n5_ := aM ((by rw [hg]; exact (below_size (zt GE548.out GE549.out)) : w.heap.size ≤ gb553)); have n6_ := aM ((by rw [hg]; exact (below_size (zt GE548.out GE549.out)) : w.heap.size ≤ gb553)); have n7_ := aM ((zl BK548.out : gb548 ≠ gb553)); have n8_ := aM ((zn BK548.out : gb553 ≠ gb548)); have n9_ := aM ((zl BK549.out : gb549 ≠ gb553)); have n10_ := aM ((zn BK549.out : gb553 ≠ gb549)); clear HO_5 BK548 BK549 HB; have HO_5 := n0_; have BK548 := n1_; have BK549 := n2_; have HB := n3_; have BK553 := n4_; have GW553 := n5_; have GE553 := n6_; have NB548_553 := n7_; have NB553_548 := n8_; have NB549_553 := n9_; have NB553_549 := n10_; clear n0_ n1_ n2_ n3_ n4_ n5_ n6_ n7_ n8_ n9_ n10_ hb hbox hg; have hnb32 := NB553_548.out; have hnc32 := NB548_553.out; have hnb33 := NB553_549.out; have hnc33 := NB549_553.out; have hcz34_0 : w31.cell? ⟨gb553, 0, none⟩ = some (.int .i64 0) := (blk_cell BK553.out 0).trans rfl; have hcz34_1 : w31.cell? ⟨gb553, 1, none⟩ = some (.int .i64 0) := (blk_cell BK553.out 1).trans rfl; have hfz34_0 := blk_frozen BK553.out 0; have hfz34_1 := blk_frozen BK553.out 1) | (go_at_call 36; (with_reducible refine (impl_Cell_36.calls k2 _ _ l0 x7_2 x6_1 false _ ?side1 ?side2 A19.out).mono ?_); (case side1 => exact Kd.C_below HR0.out (by repeat (first | (with_reducible first | exact HB.out | apply below_alloc | apply pw_below_drewN | apply below_drew1 | refine below_set ?_ GE548.out | refine below_set ?_ GE549.out | refine below_set ?_ GE553.out) | exact HB.out))); (case side2 => exact HC0.out); rintro e w35 ⟨rfl, hb⟩; have n0_ := aM (Kd.R_below (by (with_reducible repeat (first | apply Kd.R_alloc | apply Kd.R_drewN | apply Kd.R_drew)); exact (Kd.R_mono (Kd.R_far (p := ⟨gb553, 1, none⟩) (Kd.R_far (p := ⟨gb553, 0, none⟩) (Kd.R_mono HO_5.out (fun k_ hk => (⟨hk, hk.2⟩ : _ ∧ k_ ≠ gb553))) (fun _ hk => hk.2) (.int .i64 x7_2)) (fun _ hk => hk.2) (.int .i64 x6_1)) (fun _ h_ => h_.1))) hb); have n1_ := aM (blk_below (g := gb548) (o := .cells #[.int .i64 t544, .int .i64 t545] 44 (0, 0)) (by (with_reducible repeat (first | refine blk_drewN ?_ _ | refine blk_drew ?_ | refine blk_alloc ?_ _)); refine blk_far ?_ NB548_553.out _; (with_reducible repeat (first | refine blk_drewN ?_ _ | refine blk_drew ?_ | refine blk_alloc ?_ _)); refine blk_far ?_ NB548_553.out _; (with_reducible repeat (first | refine blk_drewN ?_ _ | refine blk_drew ?_ | refine blk_alloc ?_ _)); exact BK548.out) hb); have n2_ := aM (blk_below (g := gb549) (o := .cells #[.int .i64 t546, .int .i64 t547] 44 (0, 0)) (by (with_reducible repeat (first | refine blk_drewN ?_ _ | refine blk_drew ?_ | refine blk_alloc ?_ _)); refine blk_far ?_ NB549_553.out _; (with_reducible repeat (first | refine blk_drewN ?_ _ | refine blk_drew ?_ | refine blk_alloc ?_ _)); refine blk_far ?_ NB549_553.out _; (with_reducible repeat (first | refine blk_drewN ?_ _ | refine blk_drew ?_ | refine blk_alloc ?_ _)); exact BK549.out) hb); have n3_ := aM (blk_below (g := gb553) (o := .cells #[.int .i64 x7_2, .int .i64 x6_1] 44 (0, 0)) (by (with_reducible repeat (first | refine blk_drewN ?_ _ | refine blk_drew ?_ | refine blk_alloc ?_ _)); refine blk_put (cs := #[.int .i64 x7_2, .int .i64 0]) ?_ 1 _ rfl; (with_reducible repeat (first | refine blk_drewN ?_ _ | refine blk_drew ?_ | refine blk_alloc ?_ _)); refine blk_put (cs := #[.int .i64 0, .int .i64 0]) ?_ 0 _ rfl; (with_reducible repeat (first | refine blk_drewN ?_ _ | refine blk_drew ?_ | refine blk_alloc ?_ _)); exact BK553.out) hb); have n4_ := aM (below_step (by repeat (first | (with_reducible first | exact HB.out | apply below_alloc | apply pw_below_drewN | apply below_drew1 | refine below_set ?_ GE548.out | refine below_set ?_ GE549.out | refine below_set ?_ GE553.out) | exact HB.out)) hb); clear HO_5 BK548 BK549 BK553 HB; have HO_5 := n0_; have BK548 := n1_; have BK549 := n2_; have BK553 := n3_; have HB := n4_; clear n0_ n1_ n2_ n3_ n4_; (try clear hb); (try clear hb2); (try clear hk); (try clear hi); have hcz36_0 : w35.cell? ⟨gb553, 0, none⟩ = some (.int .i64 x7_2) := (blk_cell BK553.out 0).trans rfl; have hcz36_1 : w35.cell? ⟨gb553, 1, none⟩ = some (.int .i64 x6_1) := (blk_cell BK553.out 1).trans rfl; have hfz36_0 := blk_frozen BK553.out 0; have hfz36_1 := blk_frozen BK553.out 1) | ((with_reducible refine gate_builtin (b := .append) (xs := #[.tmp 48, .tmp 50]) rfl ?_); at_builtin; refine Kd.R_append k44 (w0 := w) w.heap.size rfl (.tmp 48) (.tmp 50) 26 44 (.agg #[(.int .i64 0), (.int .i64 0)]) 16 rfl Try.underlying26 info44 rfl (by decide) (by omega) u5 x5_2 (⟨x7_2, x6_1⟩ : S44) [.int .i64 x7_2, .int .i64 x6_1] (fun k_ => (w.heap.size ≤ k_) ∧ k_ ≠ gb548 ∧ k_ ≠ gb549 ∧ k_ ≠ gb553) (fun _ => False) rfl rfl ?aP (fun _ hk => hk.elim) ?aF ?aO ?aB ?aS ?aL ?_; (case aP => exact k44_mkM _ _ _ (⟨x7_2, x6_1⟩ : S44)); (case aB => exact (by repeat (first | (with_reducible first | exact HB.out | apply below_alloc | apply pw_below_drewN | apply below_drew1 | refine below_set ?_ GE548.out | refine below_set ?_ GE549.out | refine below_set ?_ GE553.out) | exact HB.out))); (case aF => exact (fun k_ hk => ⟨(Nat.le_trans (below_size (by repeat (first | (with_reducible first | exact HB.out | apply below_alloc | apply pw_below_drewN | apply below_drew1 | refine below_set ?_ GE548.out | refine below_set ?_ GE549.out | refine below_set ?_ GE553.out) | exact HB.out))) hk), Kd.freshB (g := gb548) (o := .cells #[.int .i64 t544, .int .i64 t545] 44 (0, 0)) (mB_ BK548.out) k_ hk, Kd.freshB (g := gb549) (o := .cells #[.int .i64 t546, .int .i64 t547] 44 (0, 0)) (mB_ BK549.out) k_ hk, Kd.freshB (g := gb553) (o := .cells #[.int .i64 x7_2, .int .i64 x6_1] 44 (0, 0)) (mB_ BK553.out) k_ hk⟩)); (case aO => exact (zd7 HO_5.out)); (case aS => exact (below_size (by repeat (first | (with_reducible first | exact HB.out | apply below_alloc | apply pw_below_drewN | apply below_drew1 | refine below_set ?_ GE548.out | refine below_set ?_ GE549.out | refine below_set ?_ GE553.out) | exact HB.out)))); (case aL => have := LMc28.out; omega); intro v556 w37 ho hb hg hat; rw [← Ny555.out] at ho; have n0_ := aM (blk_grown (g := gb548) (o := .cells #[.int .i64 t544, .int .i64 t545] 44 (0, 0)) (mB_ BK548.out) hg (Kd.R_away HO_5.out (fun _ hk => hk.1.2.1))); have n1_ := aM (blk_grown (g := gb549) (o := .cells #[.int .i64 t546, .int .i64 t547] 44 (0, 0)) (mB_ BK549.out) hg (Kd.R_away HO_5.out (fun _ hk => hk.1.2.2))); have n2_ := aM (blk_grown (g := gb553) (o := .cells #[.int .i64 x7_2, .int .i64 x6_1] 44 (0, 0)) (mB_ BK553.out) hg (Kd.R_away HO_5.out (fun _ hk => hk.2))); have n3_ := aM (hb); have n4_ := aM (ho); clear BK548 BK549 BK553 HB HO_5; have BK548 := n0_; have BK549 := n1_; have BK553 := n2_; have HB := n3_; have HO557 := n4_; clear n0_ n1_ n2_ n3_ n4_; clear ho hb hg hat))
      repeat (go_quiet (first | ((with_reducible refine gate_dst (N := 8) rfl ?_); refine zx 8 #[.int .i64 0, .int .i64 0] 44 ?_; intro gb553 hg w31 hbox hb; have n0_ := aM (Kd.R_below (Kd.R_elderB (mR_ HO_5.out) gb553 (Nat.le_of_eq hg.symm)) hb); have n1_ := aM (blk_below (g := gb548) (o := .cells #[.int .i64 t544, .int .i64 t545] 44 (0, 0)) (mB_ BK548.out) hb); have n2_ := aM (blk_below (g := gb549) (o := .cells #[.int .i64 t546, .int .i64 t547] 44 (0, 0)) (mB_ BK549.out) hb); have n3_ := aM (below_step (zt GE548.out GE549.out) hb); have n4_ := aM (hbox); have n5_ := aM ((by rw [hg]; exact (below_size (zt GE548.out GE549.out)) : w.heap.size ≤ gb553)); have n6_ := aM ((by rw [hg]; exact (below_size (zt GE548.out GE549.out)) : w.heap.size ≤ gb553)); have n7_ := aM ((zl BK548.out : gb548 ≠ gb553)); have n8_ := aM ((zn BK548.out : gb553 ≠ gb548)); have n9_ := aM ((zl BK549.out : gb549 ≠ gb553)); have n10_ := aM ((zn BK549.out : gb553 ≠ gb549)); clear HO_5 BK548 BK549 HB; have HO_5 := n0_; have BK548 := n1_; have BK549 := n2_; have HB := n3_; have BK553 := n4_; have GW553 := n5_; have GE553 := n6_; have NB548_553 := n7_; have NB553_548 := n8_; have NB549_553 := n9_; have NB553_549 := n10_; clear n0_ n1_ n2_ n3_ n4_ n5_ n6_ n7_ n8_ n9_ n10_ hb hbox hg; have hnb32 := NB553_548.out; have hnc32 := NB548_553.out; have hnb33 := NB553_549.out; have hnc33 := NB549_553.out; have hcz34_0 : w31.cell? ⟨gb553, 0, none⟩ = some (.int .i64 0) := (blk_cell BK553.out 0).trans rfl; have hcz34_1 : w31.cell? ⟨gb553, 1, none⟩ = some (.int .i64 0) := (blk_cell BK553.out 1).trans rfl; have hfz34_0 := blk_frozen BK553.out 0; have hfz34_1 := blk_frozen BK553.out 1) | (go_at_call 36; (try simp only [i64_w]); (with_reducible refine (impl_Cell_36.calls k2 _ _ l0 x7_2 x6_1 false _ ?side1 ?side2 A19.out).mono ?_); (case side1 => exact Kd.C_below HR0.out (by repeat (first | (with_reducible first | exact HB.out | apply below_alloc | apply pw_below_drewN | apply below_drew1 | refine below_set ?_ GE548.out | refine below_set ?_ GE549.out | refine below_set ?_ GE553.out) | exact HB.out))); (case side2 => exact HC0.out); rintro e w35 ⟨rfl, hb⟩; have n0_ := aM (Kd.R_below (by (with_reducible repeat (first | apply Kd.R_alloc | apply Kd.R_drewN | apply Kd.R_drew)); exact (Kd.R_mono (Kd.R_far (p := ⟨gb553, 1, none⟩) (Kd.R_far (p := ⟨gb553, 0, none⟩) (Kd.R_mono HO_5.out (fun k_ hk => (⟨hk, hk.2⟩ : _ ∧ k_ ≠ gb553))) (fun _ hk => hk.2) (.int .i64 x7_2)) (fun _ hk => hk.2) (.int .i64 x6_1)) (fun _ h_ => h_.1))) hb); have n1_ := aM (blk_below (g := gb548) (o := .cells #[.int .i64 t544, .int .i64 t545] 44 (0, 0)) (by (with_reducible repeat (first | refine blk_drewN ?_ _ | refine blk_drew ?_ | refine blk_alloc ?_ _)); refine blk_far ?_ NB548_553.out _; (with_reducible repeat (first | refine blk_drewN ?_ _ | refine blk_drew ?_ | refine blk_alloc ?_ _)); refine blk_far ?_ NB548_553.out _; (with_reducible repeat (first | refine blk_drewN ?_ _ | refine blk_drew ?_ | refine blk_alloc ?_ _)); exact BK548.out) hb); have n2_ := aM (blk_below (g := gb549) (o := .cells #[.int .i64 t546, .int .i64 t547] 44 (0, 0)) (by (with_reducible repeat (first | refine blk_drewN ?_ _ | refine blk_drew ?_ | refine blk_alloc ?_ _)); refine blk_far ?_ NB549_553.out _; (with_reducible repeat (first | refine blk_drewN ?_ _ | refine blk_drew ?_ | refine blk_alloc ?_ _)); refine blk_far ?_ NB549_553.out _; (with_reducible repeat (first | refine blk_drewN ?_ _ | refine blk_drew ?_ | refine blk_alloc ?_ _)); exact BK549.out) hb); have n3_ := aM (blk_below (g := gb553) (o := .cells #[.int .i64 x7_2, .int .i64 x6_1] 44 (0, 0)) (by (with_reducible repeat (first | refine blk_drewN ?_ _ | refine blk_drew ?_ | refine blk_alloc ?_ _)); refine blk_put (cs := #[.int .i64 x7_2, .int .i64 0]) ?_ 1 _ rfl; (with_reducible repeat (first | refine blk_drewN ?_ _ | refine blk_drew ?_ | refine blk_alloc ?_ _)); refine blk_put (cs := #[.int .i64 0, .int .i64 0]) ?_ 0 _ rfl; (with_reducible repeat (first | refine blk_drewN ?_ _ | refine blk_drew ?_ | refine blk_alloc ?_ _)); exact BK553.out) hb); have n4_ := aM (below_step (by repeat (first | (with_reducible first | exact HB.out | apply below_alloc | apply pw_below_drewN | apply below_drew1 | refine below_set ?_ GE548.out | refine below_set ?_ GE549.out | refine below_set ?_ GE553.out) | exact HB.out)) hb); clear HO_5 BK548 BK549 BK553 HB; have HO_5 := n0_; have BK548 := n1_; have BK549 := n2_; have BK553 := n3_; have HB := n4_; clear n0_ n1_ n2_ n3_ n4_; (try clear hb); (try clear hb2); (try clear hk); (try clear hi); have hcz36_0 : w35.cell? ⟨gb553, 0, none⟩ = some (.int .i64 x7_2) := (blk_cell BK553.out 0).trans rfl; have hcz36_1 : w35.cell? ⟨gb553, 1, none⟩ = some (.int .i64 x6_1) := (blk_cell BK553.out 1).trans rfl; have hfz36_0 := blk_frozen BK553.out 0; have hfz36_1 := blk_frozen BK553.out 1) | ((with_reducible refine gate_builtin (b := .append) (xs := #[.tmp 48, .tmp 50]) rfl ?_); at_builtin; refine Kd.R_append k44 (w0 := w) w.heap.size rfl (.tmp 48) (.tmp 50) 26 44 (.agg #[(.int .i64 0), (.int .i64 0)]) 16 rfl Try.underlying26 info44 rfl (by decide) (by omega) u5 x5_2 (⟨x7_2, x6_1⟩ : S44) [.int .i64 x7_2, .int .i64 x6_1] (fun k_ => (w.heap.size ≤ k_) ∧ k_ ≠ gb548 ∧ k_ ≠ gb549 ∧ k_ ≠ gb553) (fun _ => False) rfl rfl ?aP (fun _ hk => hk.elim) ?aF ?aO ?aB ?aS ?aL ?_; (case aP => exact k44_mkM _ _ _ (⟨x7_2, x6_1⟩ : S44)); (case aB => exact (by repeat (first | (with_reducible first | exact HB.out | apply below_alloc | apply pw_below_drewN | apply below_drew1 | refine below_set ?_ GE548.out | refine below_set ?_ GE549.out | refine below_set ?_ GE553.out) | exact HB.out))); (case aF => exact (fun k_ hk => ⟨(Nat.le_trans (below_size (by repeat (first | (with_reducible first | exact HB.out | apply below_alloc | apply pw_below_drewN | apply below_drew1 | refine below_set ?_ GE548.out | refine below_set ?_ GE549.out | refine below_set ?_ GE553.out) | exact HB.out))) hk), Kd.freshB (g := gb548) (o := .cells #[.int .i64 t544, .int .i64 t545] 44 (0, 0)) (mB_ BK548.out) k_ hk, Kd.freshB (g := gb549) (o := .cells #[.int .i64 t546, .int .i64 t547] 44 (0, 0)) (mB_ BK549.out) k_ hk, Kd.freshB (g := gb553) (o := .cells #[.int .i64 x7_2, .int .i64 x6_1] 44 (0, 0)) (mB_ BK553.out) k_ hk⟩)); (case aO => exact (zd7 HO_5.out)); (case aS => exact (below_size (by repeat (first | (with_reducible first | exact HB.out | apply below_alloc | apply pw_below_drewN | apply below_drew1 | refine below_set ?_ GE548.out | refine below_set ?_ GE549.out | refine below_set ?_ GE553.out) | exact HB.out)))); (case aL => have := LMc28.out; omega); intro v556 w37 ho hb hg hat; rw [← Ny555.out] at ho; have n0_ := aM (blk_grown (g := gb548) (o := .cells #[.int .i64 t544, .int .i64 t545] 44 (0, 0)) (mB_ BK548.out) hg (Kd.R_away HO_5.out (fun _ hk => hk.1.2.1))); have n1_ := aM (blk_grown (g := gb549) (o := .cells #[.int .i64 t546, .int .i64 t547] 44 (0, 0)) (mB_ BK549.out) hg (Kd.R_away HO_5.out (fun _ hk => hk.1.2.2))); have n2_ := aM (blk_grown (g := gb553) (o := .cells #[.int .i64 x7_2, .int .i64 x6_1] 44 (0, 0)) (mB_ BK553.out) hg (Kd.R_away HO_5.out (fun _ hk => hk.2))); have n3_ := aM (hb); have n4_ := aM (ho); clear BK548 BK549 BK553 HB HO_5; have BK548 := n0_; have BK549 := n1_; have BK553 := n2_; have HB := n3_; have HO557 := n4_; clear n0_ n1_ n2_ n3_ n4_; clear ho hb hg hat)); try go_wp2_with (first | ((with_reducible refine gate_dst (N := 8) rfl ?_); refine zx 8 #[.int .i64 0, .int .i64 0] 44 ?_; intro gb553 hg w31 hbox hb; have n0_ := aM (Kd.R_below (Kd.R_elderB (mR_ HO_5.out) gb553 (Nat.le_of_eq hg.symm)) hb); have n1_ := aM (blk_below (g := gb548) (o := .cells #[.int .i64 t544, .int .i64 t545] 44 (0, 0)) (mB_ BK548.out) hb); have n2_ := aM (blk_below (g := gb549) (o := .cells #[.int .i64 t546, .int .i64 t547] 44 (0, 0)) (mB_ BK549.out) hb); have n3_ := aM (below_step (zt GE548.out GE549.out) hb); have n4_ := aM (hbox); have n5_ := aM ((by rw [hg]; exact (below_size (zt GE548.out GE549.out)) : w.heap.size ≤ gb553)); have n6_ := aM ((by rw [hg]; exact (below_size (zt GE548.out GE549.out)) : w.heap.size ≤ gb553)); have n7_ := aM ((zl BK548.out : gb548 ≠ gb553)); have n8_ := aM ((zn BK548.out : gb553 ≠ gb548)); have n9_ := aM ((zl BK549.out : gb549 ≠ gb553)); have n10_ := aM ((zn BK549.out : gb553 ≠ gb549)); clear HO_5 BK548 BK549 HB; have HO_5 := n0_; have BK548 := n1_; have BK549 := n2_; have HB := n3_; have BK553 := n4_; have GW553 := n5_; have GE553 := n6_; have NB548_553 := n7_; have NB553_548 := n8_; have NB549_553 := n9_; have NB553_549 := n10_; clear n0_ n1_ n2_ n3_ n4_ n5_ n6_ n7_ n8_ n9_ n10_ hb hbox hg; have hnb32 := NB553_548.out; have hnc32 := NB548_553.out; have hnb33 := NB553_549.out; have hnc33 := NB549_553.out; have hcz34_0 : w31.cell? ⟨gb553, 0, none⟩ = some (.int .i64 0) := (blk_cell BK553.out 0).trans rfl; have hcz34_1 : w31.cell? ⟨gb553, 1, none⟩ = some (.int .i64 0) := (blk_cell BK553.out 1).trans rfl; have hfz34_0 := blk_frozen BK553.out 0; have hfz34_1 := blk_frozen BK553.out 1) | (go_at_call 36; (try simp only [i64_w]); (with_reducible refine (impl_Cell_36.calls k2 _ _ l0 x7_2 x6_1 false _ ?side1 ?side2 A19.out).mono ?_); (case side1 => exact Kd.C_below HR0.out (by repeat (first | (with_reducible first | exact HB.out | apply below_alloc | apply pw_below_drewN | apply below_drew1 | refine below_set ?_ GE548.out | refine below_set ?_ GE549.out | refine below_set ?_ GE553.out) | exact HB.out))); (case side2 => exact HC0.out); rintro e w35 ⟨rfl, hb⟩; have n0_ := aM (Kd.R_below (by (with_reducible repeat (first | apply Kd.R_alloc | apply Kd.R_drewN | apply Kd.R_drew)); exact (Kd.R_mono (Kd.R_far (p := ⟨gb553, 1, none⟩) (Kd.R_far (p := ⟨gb553, 0, none⟩) (Kd.R_mono HO_5.out (fun k_ hk => (⟨hk, hk.2⟩ : _ ∧ k_ ≠ gb553))) (fun _ hk => hk.2) (.int .i64 x7_2)) (fun _ hk => hk.2) (.int .i64 x6_1)) (fun _ h_ => h_.1))) hb); have n1_ := aM (blk_below (g := gb548) (o := .cells #[.int .i64 t544, .int .i64 t545] 44 (0, 0)) (by (with_reducible repeat (first | refine blk_drewN ?_ _ | refine blk_drew ?_ | refine blk_alloc ?_ _)); refine blk_far ?_ NB548_553.out _; (with_reducible repeat (first | refine blk_drewN ?_ _ | refine blk_drew ?_ | refine blk_alloc ?_ _)); refine blk_far ?_ NB548_553.out _; (with_reducible repeat (first | refine blk_drewN ?_ _ | refine blk_drew ?_ | refine blk_alloc ?_ _)); exact BK548.out) hb); have n2_ := aM (blk_below (g := gb549) (o := .cells #[.int .i64 t546, .int .i64 t547] 44 (0, 0)) (by (with_reducible repeat (first | refine blk_drewN ?_ _ | refine blk_drew ?_ | refine blk_alloc ?_ _)); refine blk_far ?_ NB549_553.out _; (with_reducible repeat (first | refine blk_drewN ?_ _ | refine blk_drew ?_ | refine blk_alloc ?_ _)); refine blk_far ?_ NB549_553.out _; (with_reducible repeat (first | refine blk_drewN ?_ _ | refine blk_drew ?_ | refine blk_alloc ?_ _)); exact BK549.out) hb); have n3_ := aM (blk_below (g := gb553) (o := .cells #[.int .i64 x7_2, .int .i64 x6_1] 44 (0, 0)) (by (with_reducible repeat (first | refine blk_drewN ?_ _ | refine blk_drew ?_ | refine blk_alloc ?_ _)); refine blk_put (cs := #[.int .i64 x7_2, .int .i64 0]) ?_ 1 _ rfl; (with_reducible repeat (first | refine blk_drewN ?_ _ | refine blk_drew ?_ | refine blk_alloc ?_ _)); refine blk_put (cs := #[.int .i64 0, .int .i64 0]) ?_ 0 _ rfl; (with_reducible repeat (first | refine blk_drewN ?_ _ | refine blk_drew ?_ | refine blk_alloc ?_ _)); exact BK553.out) hb); have n4_ := aM (below_step (by repeat (first | (with_reducible first | exact HB.out | apply below_alloc | apply pw_below_drewN | apply below_drew1 | refine below_set ?_ GE548.out | refine below_set ?_ GE549.out | refine below_set ?_ GE553.out) | exact HB.out)) hb); clear HO_5 BK548 BK549 BK553 HB; have HO_5 := n0_; have BK548 := n1_; have BK549 := n2_; have BK553 := n3_; have HB := n4_; clear n0_ n1_ n2_ n3_ n4_; (try clear hb); (try clear hb2); (try clear hk); (try clear hi); have hcz36_0 : w35.cell? ⟨gb553, 0, none⟩ = some (.int .i64 x7_2) := (blk_cell BK553.out 0).trans rfl; have hcz36_1 : w35.cell? ⟨gb553, 1, none⟩ = some (.int .i64 x6_1) := (blk_cell BK553.out 1).trans rfl; have hfz36_0 := blk_frozen BK553.out 0; have hfz36_1 := blk_frozen BK553.out 1) | ((with_reducible refine gate_builtin (b := .append) (xs := #[.tmp 48, .tmp 50]) rfl ?_); at_builtin; refine Kd.R_append k44 (w0 := w) w.heap.size rfl (.tmp 48) (.tmp 50) 26 44 (.agg #[(.int .i64 0), (.int .i64 0)]) 16 rfl Try.underlying26 info44 rfl (by decide) (by omega) u5 x5_2 (⟨x7_2, x6_1⟩ : S44) [.int .i64 x7_2, .int .i64 x6_1] (fun k_ => (w.heap.size ≤ k_) ∧ k_ ≠ gb548 ∧ k_ ≠ gb549 ∧ k_ ≠ gb553) (fun _ => False) rfl rfl ?aP (fun _ hk => hk.elim) ?aF ?aO ?aB ?aS ?aL ?_; (case aP => exact k44_mkM _ _ _ (⟨x7_2, x6_1⟩ : S44)); (case aB => exact (by repeat (first | (with_reducible first | exact HB.out | apply below_alloc | apply pw_below_drewN | apply below_drew1 | refine below_set ?_ GE548.out | refine below_set ?_ GE549.out | refine below_set ?_ GE553.out) | exact HB.out))); (case aF => exact (fun k_ hk => ⟨(Nat.le_trans (below_size (by repeat (first | (with_reducible first | exact HB.out | apply below_alloc | apply pw_below_drewN | apply below_drew1 | refine below_set ?_ GE548.out | refine below_set ?_ GE549.out | refine below_set ?_ GE553.out) | exact HB.out))) hk), Kd.freshB (g := gb548) (o := .cells #[.int .i64 t544, .int .i64 t545] 44 (0, 0)) (mB_ BK548.out) k_ hk, Kd.freshB (g := gb549) (o := .cells #[.int .i64 t546, .int .i64 t547] 44 (0, 0)) (mB_ BK549.out) k_ hk, Kd.freshB (g := gb553) (o := .cells #[.int .i64 x7_2, .int .i64 x6_1] 44 (0, 0)) (mB_ BK553.out) k_ hk⟩)); (case aO => exact (zd7 HO_5.out)); (case aS => exact (below_size (by repeat (first | (with_reducible first | exact HB.out | apply below_alloc | apply pw_below_drewN | apply below_drew1 | refine below_set ?_ GE548.out | refine below_set ?_ GE549.out | refine below_set ?_ GE553.out) | exact HB.out)))); (case aL => have := LMc28.out; omega); intro v556 w37 ho hb hg hat; rw [← Ny555.out] at ho; have n0_ := aM (blk_grown (g := gb548) (o := .cells #[.int .i64 t544, .int .i64 t545] 44 (0, 0)) (mB_ BK548.out) hg (Kd.R_away HO_5.out (fun _ hk => hk.1.2.1))); have n1_ := aM (blk_grown (g := gb549) (o := .cells #[.int .i64 t546, .int .i64 t547] 44 (0, 0)) (mB_ BK549.out) hg (Kd.R_away HO_5.out (fun _ hk => hk.1.2.2))); have n2_ := aM (blk_grown (g := gb553) (o := .cells #[.int .i64 x7_2, .int .i64 x6_1] 44 (0, 0)) (mB_ BK553.out) hg (Kd.R_away HO_5.out (fun _ hk => hk.2))); have n3_ := aM (hb); have n4_ := aM (ho); clear BK548 BK549 BK553 HB HO_5; have BK548 := n0_; have BK549 := n1_; have BK553 := n2_; have HB := n3_; have HO557 := n4_; clear n0_ n1_ n2_ n3_ n4_; clear ho hb hg hat)))
      go_roundg k2
      case measure => have := HK1.out; have := HK2.out; omega
      case rel => exact ⟨(y555), (wrap64 (x7_2 + 1)), zr, H', ⟨by have := HK1.out; have := HK2.out; omega⟩, ⟨zd8 HO557.out⟩, ⟨mB_ BK548.out⟩, ⟨mB_ BK549.out⟩, ⟨by repeat (first | (with_reducible first | exact HB.out | apply below_alloc | apply pw_below_drewN | apply below_drew1 | refine below_set ?_ GE548.out | refine below_set ?_ GE549.out | refine below_set ?_ GE553.out) | exact HB.out)⟩⟩
   rw [if_neg c14] at H
   have c14b0 : decide (x6_1 ≤ (wrap64 (t547 + 1))) = false := decide_eq_false c14
   clear c14
   obtain ⟨y558, hy558⟩ : ∃ y_ : List Int, y_ = (([] : List Int)) := ⟨_, rfl⟩
   replace H : ((impl_parts__impl_around.f k1 x5_1).bind fun t561 => (impl_holes.l2 k1 x5_1 y558 t561 (t561.length : Int) 0)) = some r := zy H hy558
   have Ny558 := aM hy558
   clear hy558
   replace H := Option.bind_eq_some_iff.mp H
   obtain ⟨t561, A400, H⟩ := H
   replace H : (impl_holes.l2 k1 x5_1 y558 t561 (t561.length : Int) 0) = some r := H
   have A40 := aM A400
   clear A400
   have H' := aM H
   clear H
   have hnb41 := NB549_548.out
   have hnc41 := NB548_549.out
   have hcz42_0 : wr.cell? ⟨gb549, 0, none⟩ = some (.int .i64 t546) := (blk_cell BK549.out 0).trans rfl
   have hcz42_1 : wr.cell? ⟨gb549, 1, none⟩ = some (.int .i64 t547) := (blk_cell BK549.out 1).trans rfl
   have hfz42_0 := blk_frozen BK549.out 0
   have hfz42_1 := blk_frozen BK549.out 1
   go_wp2_with (first | ((with_reducible refine gate_dst (N := 52) rfl ?_); refine gm_make rfl rfl ?_; intro bm wm_ N0_ hN_ hb hlt_ hM_; have HW_ := aM (show w.heap.size ≤ N0_ from hN_ ▸ below_size (zt GE548.out GE549.out)); have HF_ := aM (show ∀ b_, (u5 : Value).ownBlock = some b_ → b_ < N0_ from hN_ ▸ Kd.R_lt (mR_ HO_5.out)); have H8_ := aM (show gb548 < N0_ from hN_ ▸ blk_lt (g := gb548) (o := .cells #[.int .i64 t544, .int .i64 t545] 44 (0, 0)) (mB_ BK548.out)); have H9_ := aM (show gb549 < N0_ from hN_ ▸ blk_lt (g := gb549) (o := .cells #[.int .i64 t546, .int .i64 t547] 44 (0, 0)) (mB_ BK549.out)); have HMB := aM (show N0_ ≤ bm from hlt_); have HM := aM hM_; have n0_ := aM (Kd.R_below (mR_ HO_5.out) hb); have n1_ := aM (blk_below (g := gb548) (o := .cells #[.int .i64 t544, .int .i64 t545] 44 (0, 0)) (mB_ BK548.out) hb); have n2_ := aM (blk_below (g := gb549) (o := .cells #[.int .i64 t546, .int .i64 t547] 44 (0, 0)) (mB_ BK549.out) hb); have n3_ := aM (below_step (zt GE548.out GE549.out) hb); clear HO_5 BK548 BK549 HB; have HO_5 := n0_; have BK548 := n1_; have BK549 := n2_; have HB := n3_; clear n0_ n1_ n2_ n3_ hb hM_ hlt_) | ((with_reducible refine gate_dst (N := 53) rfl ?_); refine Kd.R_lit (Kd.int .i64) _ 2 ?hg (N := 53) ?hd (xs := ([] : List Int)) (inner := []) (ok := fun _ => True) (okp := fun _ => True) ?hr ?hp (fun _ hk => hk) trivial (Below.refl _ _) (Nat.le_refl _) (by simp) ?_; (case hd => rfl); (case hg => rfl); (case hr => first | (go_simp; done) | (go_simp; rfl)); (case hp => exact (Reps.none _ _)); intro v559 w43 ho44 hb hg_ hnew_; clear hg_ hnew_; have m0_ := aM (gm_below (by (with_reducible repeat (first | apply gm_alloc | apply gm_drewN | apply gm_drew)); exact HM.out) hb); clear HM; have HM := m0_; clear m0_; (first | rw [← Ny558.out] at ho44 | (simp only [Int.reduceToNat] at ho44; rw [← Ny558.out] at ho44)); have n0_ := aM (Kd.R_below (mR_ HO_5.out) hb); have n1_ := aM (Kd.R_lower (Kd.R_newM (M := fun k_ => (w.heap.size ≤ k_)) ho44 (below_size (zt GE548.out GE549.out)) (fun k_ h_ => h_)) (below_size (zt GE548.out GE549.out))); have n2_ := aM (blk_below (g := gb548) (o := .cells #[.int .i64 t544, .int .i64 t545] 44 (0, 0)) (mB_ BK548.out) hb); have n3_ := aM (blk_below (g := gb549) (o := .cells #[.int .i64 t546, .int .i64 t547] 44 (0, 0)) (mB_ BK549.out) hb); have n4_ := aM (below_step (zt GE548.out GE549.out) hb); clear HO_5 BK548 BK549 HB; have HO_5 := n0_; have HO560 := n1_; have BK548 := n2_; have BK549 := n3_; have HB := n4_; clear n0_ n1_ n2_ n3_ n4_ hb ho44; obtain ⟨Ao45, co45, eo45⟩ := Kd.R_slice HO_5.out; subst eo45) | (go_at_call 68; (with_reducible refine (impl_parts__impl_around.calls k1 _ _ x5_1  t561 _ ?side1 ?side2 A40.out).mono ?_); (case side1 => exact zc HO_5.out); (case side2 => exact (Kd.R_reads' HO_5.out).2.1); rintro e w46 ⟨v562, rfl, ho0, hb⟩; have m0_ := aM (gm_below (by (with_reducible repeat (first | apply gm_alloc | apply gm_drewN | apply gm_drew)); exact HM.out) hb); clear HM; have HM := m0_; clear m0_; have n0_ := aM (Kd.R_below (mR_ HO_5.out) hb); have n1_ := aM (Kd.R_elder' (mR_ HO560.out) (Kd.R_base ho0) hb); have n2_ := aM (Kd.R_lower (Kd.R_new' (Kd.R_newM (M := fun k_ => (w.heap.size ≤ k_)) ho0 (below_size (zt GE548.out GE549.out)) (fun k_ h_ => h_)) (Kd.R_lt (mR_ HO560.out))) (below_size (zt GE548.out GE549.out))); have n3_ := aM (blk_below (g := gb548) (o := .cells #[.int .i64 t544, .int .i64 t545] 44 (0, 0)) (mB_ BK548.out) hb); have n4_ := aM (blk_below (g := gb549) (o := .cells #[.int .i64 t546, .int .i64 t547] 44 (0, 0)) (mB_ BK549.out) hb); have n5_ := aM (below_step (zt GE548.out GE549.out) hb); clear HO_5 HO560 BK548 BK549 HB; have HO_5 := n0_; have HO560 := n1_; have HO563 := n2_; have BK548 := n3_; have BK549 := n4_; have HB := n5_; clear n0_ n1_ n2_ n3_ n4_ n5_; (try clear hb); (try clear hb2); (try clear hk); (try clear hi); (try clear ho0); obtain ⟨Ao47, co47, eo47⟩ := Kd.R_slice HO563.out; subst eo47))
   repeat (go_quiet (first | ((with_reducible refine gate_dst (N := 52) rfl ?_); refine gm_make rfl rfl ?_; intro bm wm_ N0_ hN_ hb hlt_ hM_; have HW_ := aM (show w.heap.size ≤ N0_ from hN_ ▸ below_size (zt GE548.out GE549.out)); have HF_ := aM (show ∀ b_, (u5 : Value).ownBlock = some b_ → b_ < N0_ from hN_ ▸ Kd.R_lt (mR_ HO_5.out)); have H8_ := aM (show gb548 < N0_ from hN_ ▸ blk_lt (g := gb548) (o := .cells #[.int .i64 t544, .int .i64 t545] 44 (0, 0)) (mB_ BK548.out)); have H9_ := aM (show gb549 < N0_ from hN_ ▸ blk_lt (g := gb549) (o := .cells #[.int .i64 t546, .int .i64 t547] 44 (0, 0)) (mB_ BK549.out)); have HMB := aM (show N0_ ≤ bm from hlt_); have HM := aM hM_; have n0_ := aM (Kd.R_below (mR_ HO_5.out) hb); have n1_ := aM (blk_below (g := gb548) (o := .cells #[.int .i64 t544, .int .i64 t545] 44 (0, 0)) (mB_ BK548.out) hb); have n2_ := aM (blk_below (g := gb549) (o := .cells #[.int .i64 t546, .int .i64 t547] 44 (0, 0)) (mB_ BK549.out) hb); have n3_ := aM (below_step (zt GE548.out GE549.out) hb); clear HO_5 BK548 BK549 HB; have HO_5 := n0_; have BK548 := n1_; have BK549 := n2_; have HB := n3_; clear n0_ n1_ n2_ n3_ hb hM_ hlt_) | ((with_reducible refine gate_dst (N := 53) rfl ?_); refine Kd.R_lit (Kd.int .i64) _ 2 ?hg (N := 53) ?hd (xs := ([] : List Int)) (inner := []) (ok := fun _ => True) (okp := fun _ => True) ?hr ?hp (fun _ hk => hk) trivial (Below.refl _ _) (Nat.le_refl _) (by simp) ?_; (case hd => rfl); (case hg => rfl); (case hr => first | (go_simp; done) | (go_simp; rfl)); (case hp => exact (Reps.none _ _)); intro v559 w43 ho44 hb hg_ hnew_; clear hg_ hnew_; have m0_ := aM (gm_below (by (with_reducible repeat (first | apply gm_alloc | apply gm_drewN | apply gm_drew)); exact HM.out) hb); clear HM; have HM := m0_; clear m0_; (first | rw [← Ny558.out] at ho44 | (simp only [Int.reduceToNat] at ho44; rw [← Ny558.out] at ho44)); have n0_ := aM (Kd.R_below (mR_ HO_5.out) hb); have n1_ := aM (Kd.R_lower (Kd.R_newM (M := fun k_ => (w.heap.size ≤ k_)) ho44 (below_size (zt GE548.out GE549.out)) (fun k_ h_ => h_)) (below_size (zt GE548.out GE549.out))); have n2_ := aM (blk_below (g := gb548) (o := .cells #[.int .i64 t544, .int .i64 t545] 44 (0, 0)) (mB_ BK548.out) hb); have n3_ := aM (blk_below (g := gb549) (o := .cells #[.int .i64 t546, .int .i64 t547] 44 (0, 0)) (mB_ BK549.out) hb); have n4_ := aM (below_step (zt GE548.out GE549.out) hb); clear HO_5 BK548 BK549 HB; have HO_5 := n0_; have HO560 := n1_; have BK548 := n2_; have BK549 := n3_; have HB := n4_; clear n0_ n1_ n2_ n3_ n4_ hb ho44; obtain ⟨Ao45, co45, eo45⟩ := Kd.R_slice HO_5.out; subst eo45) | (go_at_call 68; (try simp only [i64_w]); (with_reducible refine (impl_parts__impl_around.calls k1 _ _ x5_1  t561 _ ?side1 ?side2 A40.out).mono ?_); (case side1 => exact zc HO_5.out); (case side2 => exact (Kd.R_reads' HO_5.out).2.1); rintro e w46 ⟨v562, rfl, ho0, hb⟩; have m0_ := aM (gm_below (by (with_reducible repeat (first | apply gm_alloc | apply gm_drewN | apply gm_drew)); exact HM.out) hb); clear HM; have HM := m0_; clear m0_; have n0_ := aM (Kd.R_below (mR_ HO_5.out) hb); have n1_ := aM (Kd.R_elder' (mR_ HO560.out) (Kd.R_base ho0) hb); have n2_ := aM (Kd.R_lower (Kd.R_new' (Kd.R_newM (M := fun k_ => (w.heap.size ≤ k_)) ho0 (below_size (zt GE548.out GE549.out)) (fun k_ h_ => h_)) (Kd.R_lt (mR_ HO560.out))) (below_size (zt GE548.out GE549.out))); have n3_ := aM (blk_below (g := gb548) (o := .cells #[.int .i64 t544, .int .i64 t545] 44 (0, 0)) (mB_ BK548.out) hb); have n4_ := aM (blk_below (g := gb549) (o := .cells #[.int .i64 t546, .int .i64 t547] 44 (0, 0)) (mB_ BK549.out) hb); have n5_ := aM (below_step (zt GE548.out GE549.out) hb); clear HO_5 HO560 BK548 BK549 HB; have HO_5 := n0_; have HO560 := n1_; have HO563 := n2_; have BK548 := n3_; have BK549 := n4_; have HB := n5_; clear n0_ n1_ n2_ n3_ n4_ n5_; (try clear hb); (try clear hb2); (try clear hk); (try clear hi); (try clear ho0); obtain ⟨Ao47, co47, eo47⟩ := Kd.R_slice HO563.out; subst eo47)); try go_wp2_with (first | ((with_reducible refine gate_dst (N := 52) rfl ?_); refine gm_make rfl rfl ?_; intro bm wm_ N0_ hN_ hb hlt_ hM_; have HW_ := aM (show w.heap.size ≤ N0_ from hN_ ▸ below_size (zt GE548.out GE549.out)); have HF_ := aM (show ∀ b_, (u5 : Value).ownBlock = some b_ → b_ < N0_ from hN_ ▸ Kd.R_lt (mR_ HO_5.out)); have H8_ := aM (show gb548 < N0_ from hN_ ▸ blk_lt (g := gb548) (o := .cells #[.int .i64 t544, .int .i64 t545] 44 (0, 0)) (mB_ BK548.out)); have H9_ := aM (show gb549 < N0_ from hN_ ▸ blk_lt (g := gb549) (o := .cells #[.int .i64 t546, .int .i64 t547] 44 (0, 0)) (mB_ BK549.out)); have HMB := aM (show N0_ ≤ bm from hlt_); have HM := aM hM_; have n0_ := aM (Kd.R_below (mR_ HO_5.out) hb); have n1_ := aM (blk_below (g := gb548) (o := .cells #[.int .i64 t544, .int .i64 t545] 44 (0, 0)) (mB_ BK548.out) hb); have n2_ := aM (blk_below (g := gb549) (o := .cells #[.int .i64 t546, .int .i64 t547] 44 (0, 0)) (mB_ BK549.out) hb); have n3_ := aM (below_step (zt GE548.out GE549.out) hb); clear HO_5 BK548 BK549 HB; have HO_5 := n0_; have BK548 := n1_; have BK549 := n2_; have HB := n3_; clear n0_ n1_ n2_ n3_ hb hM_ hlt_) | ((with_reducible refine gate_dst (N := 53) rfl ?_); refine Kd.R_lit (Kd.int .i64) _ 2 ?hg (N := 53) ?hd (xs := ([] : List Int)) (inner := []) (ok := fun _ => True) (okp := fun _ => True) ?hr ?hp (fun _ hk => hk) trivial (Below.refl _ _) (Nat.le_refl _) (by simp) ?_; (case hd => rfl); (case hg => rfl); (case hr => first | (go_simp; done) | (go_simp; rfl)); (case hp => exact (Reps.none _ _)); intro v559 w43 ho44 hb hg_ hnew_; clear hg_ hnew_; have m0_ := aM (gm_below (by (with_reducible repeat (first | apply gm_alloc | apply gm_drewN | apply gm_drew)); exact HM.out) hb); clear HM; have HM := m0_; clear m0_; (first | rw [← Ny558.out] at ho44 | (simp only [Int.reduceToNat] at ho44; rw [← Ny558.out] at ho44)); have n0_ := aM (Kd.R_below (mR_ HO_5.out) hb); have n1_ := aM (Kd.R_lower (Kd.R_newM (M := fun k_ => (w.heap.size ≤ k_)) ho44 (below_size (zt GE548.out GE549.out)) (fun k_ h_ => h_)) (below_size (zt GE548.out GE549.out))); have n2_ := aM (blk_below (g := gb548) (o := .cells #[.int .i64 t544, .int .i64 t545] 44 (0, 0)) (mB_ BK548.out) hb); have n3_ := aM (blk_below (g := gb549) (o := .cells #[.int .i64 t546, .int .i64 t547] 44 (0, 0)) (mB_ BK549.out) hb); have n4_ := aM (below_step (zt GE548.out GE549.out) hb); clear HO_5 BK548 BK549 HB; have HO_5 := n0_; have HO560 := n1_; have BK548 := n2_; have BK549 := n3_; have HB := n4_; clear n0_ n1_ n2_ n3_ n4_ hb ho44; obtain ⟨Ao45, co45, eo45⟩ := Kd.R_slice HO_5.out; subst eo45) | (go_at_call 68; (try simp only [i64_w]); (with_reducible refine (impl_parts__impl_around.calls k1 _ _ x5_1  t561 _ ?side1 ?side2 A40.out).mono ?_); (case side1 => exact zc HO_5.out); (case side2 => exact (Kd.R_reads' HO_5.out).2.1); rintro e w46 ⟨v562, rfl, ho0, hb⟩; have m0_ := aM (gm_below (by (with_reducible repeat (first | apply gm_alloc | apply gm_drewN | apply gm_drew)); exact HM.out) hb); clear HM; have HM := m0_; clear m0_; have n0_ := aM (Kd.R_below (mR_ HO_5.out) hb); have n1_ := aM (Kd.R_elder' (mR_ HO560.out) (Kd.R_base ho0) hb); have n2_ := aM (Kd.R_lower (Kd.R_new' (Kd.R_newM (M := fun k_ => (w.heap.size ≤ k_)) ho0 (below_size (zt GE548.out GE549.out)) (fun k_ h_ => h_)) (Kd.R_lt (mR_ HO560.out))) (below_size (zt GE548.out GE549.out))); have n3_ := aM (blk_below (g := gb548) (o := .cells #[.int .i64 t544, .int .i64 t545] 44 (0, 0)) (mB_ BK548.out) hb); have n4_ := aM (blk_below (g := gb549) (o := .cells #[.int .i64 t546, .int .i64 t547] 44 (0, 0)) (mB_ BK549.out) hb); have n5_ := aM (below_step (zt GE548.out GE549.out) hb); clear HO_5 HO560 BK548 BK549 HB; have HO_5 := n0_; have HO560 := n1_; have HO563 := n2_; have BK548 := n3_; have BK549 := n4_; have HB := n5_; clear n0_ n1_ n2_ n3_ n4_ n5_; (try clear hb); (try clear hb2); (try clear hk); (try clear hi); (try clear ho0); obtain ⟨Ao47, co47, eo47⟩ := Kd.R_slice HO563.out; subst eo47)))
   go_loopg [10, 57] k1 (fun kq v10 v57 w' => ∃ (x10_2 : List Int) (x57_2 : Int), v57 = .int .i64 x57_2 ∧ Aside0 (impl_holes.l2 kq x5_1 x10_2 t561 (t561.length : Int) x57_2 = some r) ∧ Aside0 (kq ≤ k1) ∧ Aside0 (Kd.R k44 44 w' w.heap.size (fun k_ => (w.heap.size ≤ k_) ∧ k_ ≠ gb548 ∧ k_ ≠ gb549) (.slice Ao45 x5_1.length co45) x5_1) ∧ Aside0 (Kd.R (Kd.int .i64) 2 w' w.heap.size (fun k_ => (w.heap.size ≤ k_) ∧ some k_ ≠ ((.slice Ao47 t561.length co47) : Value).ownBlock) v10 x10_2) ∧ Aside0 (Kd.R (Kd.int .i64) 2 w' w.heap.size (fun k_ => (w.heap.size ≤ k_) ∧ some k_ ≠ (v10 : Value).ownBlock) (.slice Ao47 t561.length co47) t561) ∧ Aside0 (w'.heap[gb548]? = some (.cells #[.int .i64 t544, .int .i64 t545] 44 (0, 0))) ∧ Aside0 (w'.heap[gb549]? = some (.cells #[.int .i64 t546, .int .i64 t547] 44 (0, 0))) ∧ Aside0 (Below w.heap.size w w') ∧ Aside0 (GM w' N0_ bm x57_2.toNat (fun b_ => N0_ ≤ b_) (fun k_ => grp x5_1 t561 x57_2.toNat k_)) ∧ Aside0 (0 ≤ x57_2 ∧ x57_2 ≤ (t561.length : Int)))
   case atStart => exact ⟨(y558), (0), zr, H', ⟨Nat.le_refl _⟩, ⟨mR_ HO_5.out⟩, ⟨zd9 HO560.out⟩, ⟨zd9 HO563.out⟩, ⟨mB_ BK548.out⟩, ⟨mB_ BK549.out⟩, ⟨zt GE548.out GE549.out⟩, ⟨(by (with_reducible repeat (first | apply gm_alloc | apply gm_drewN | apply gm_drew)); exact HM.out)⟩, ⟨Int.le_refl _, Int.natCast_nonneg _⟩⟩
   case round =>
    clear H'
    try clear c1
    try clear c2
    try clear p2
    try clear c3
    try clear c4
    try clear p6
    try clear c8
    try clear c14
    try clear c14b0
    try clear c15
    try clear c18
    try clear c18b0
    try clear c20
    try clear c21
    try clear c24
    try clear c25
    try clear c28
    try clear c29
    try clear c32
    try clear c33
    try clear c38
    try clear c41
    try clear c46
    try clear hcz10_0
    try clear hcz10_1
    try clear hcz13_0
    try clear hcz13_1
    try clear hcz16_0
    try clear hcz16_1
    try clear hcz17_0
    try clear hcz17_1
    try clear hcz22_0
    try clear hcz22_1
    try clear hcz26_0
    try clear hcz26_1
    try clear hcz30_0
    try clear hcz30_1
    try clear hcz34_0
    try clear hcz34_1
    try clear hcz36_0
    try clear hcz36_1
    try clear hcz39_0
    try clear hcz39_1
    try clear hcz42_0
    try clear hcz42_1
    try clear hcz9_0
    try clear hcz9_1
    try clear hfz10_0
    try clear hfz10_1
    try clear hfz13_0
    try clear hfz13_1
    try clear hfz16_0
    try clear hfz16_1
    try clear hfz17_0
    try clear hfz17_1
    try clear hfz22_0
    try clear hfz22_1
    try clear hfz26_0
    try clear hfz26_1
    try clear hfz30_0
    try clear hfz30_1
    try clear hfz34_0
    try clear hfz34_1
    try clear hfz36_0
    try clear hfz36_1
    try clear hfz39_0
    try clear hfz39_1
    try clear hfz42_0
    try clear hfz42_1
    try clear hfz9_0
    try clear hfz9_1
    try clear p2
    try clear p6
    obtain ⟨x10_2, x57_2, rfl, HA, HK2, HO_5, HO_10, HO_55, BK548, BK549, HB, HM, HI⟩ := hrel
    cases gk with
    | zero => exact absurd HA.out (by simp [impl_holes.l2])
    | succ k2 =>
     have H := HA.out
     clear HA
     simp only [impl_holes.l2] at H
     by_cases c48 : x57_2 < (t561.length : Int)
     rotate_left
     ·rw [if_neg c48] at H
      have c48b0 : decide (x57_2 < (t561.length : Int)) = false := decide_eq_false c48
      clear c48
      obtain ⟨y569, hy569⟩ : ∃ y_ : List (List (S44)), y_ = (([] : List (List (S44)))) := ⟨_, rfl⟩
      replace H : (if 1 ≤ (x10_2.length : Int) then ((some (x10_2.drop 1 : List Int)).bind fun y572 => (impl_holes.l3 k2 x5_1 y569 t561 y572 (y572.length : Int) 0)) else (none)) = some r := zy H hy569
      have Ny569 := aM hy569
      clear hy569
      by_cases c55 : 1 ≤ (x10_2.length : Int)
      rotate_left
      ·rw [if_neg c55] at H
       exact absurd H (by simp)
      rw [if_pos c55] at H
      have c55b0 := eq_true c55
      have c55b1 : decide (1 ≤ (x10_2.length : Int)) = true := decide_eq_true c55
      clear c55
      obtain ⟨y572, hy572⟩ : ∃ y_ : List Int, y_ = (x10_2.drop 1) := ⟨_, rfl⟩
      replace H : (impl_holes.l3 k2 x5_1 y569 t561 y572 (y572.length : Int) 0) = some r := zy H hy572
      have Ny572 := aM hy572
      clear hy572
      have H' := aM H
      clear H
      go_wp2_with (first | ((with_reducible refine gate_dst (N := 83) rfl ?_); refine Kd.N_lit (Kd.slice 44 k44) _ 26 ?hg (N' := 83) ?hd (xs := ([] : List (List (S44)))) (inner := []) (ok := (fun k_ => (w.heap.size ≤ k_) ∧ some k_ ≠ (.slice Ao45 x5_1.length co45 : Value).ownBlock ∧ some k_ ≠ (u10 : Value).ownBlock ∧ some k_ ≠ (.slice Ao47 t561.length co47 : Value).ownBlock ∧ k_ ≠ gb548 ∧ k_ ≠ gb549)) (okp := (fun k_ => (w.heap.size ≤ k_) ∧ some k_ ≠ (.slice Ao45 x5_1.length co45 : Value).ownBlock ∧ some k_ ≠ (u10 : Value).ownBlock ∧ some k_ ≠ (.slice Ao47 t561.length co47 : Value).ownBlock ∧ k_ ≠ gb548 ∧ k_ ≠ gb549)) ?hr ?hp (fun _ hk => hk) ((show ∀ k_, wr.heap.size ≤ k_ → (fun k_ => (w.heap.size ≤ k_) ∧ some k_ ≠ (.slice Ao45 x5_1.length co45 : Value).ownBlock ∧ some k_ ≠ (u10 : Value).ownBlock ∧ some k_ ≠ (.slice Ao47 t561.length co47 : Value).ownBlock ∧ k_ ≠ gb548 ∧ k_ ≠ gb549) k_ from fun k_ hk => ⟨(Nat.le_trans (below_size (zt GE548.out GE549.out)) hk), Kd.fresh' (Kd.R_lt (mR_ HO_5.out)) k_ hk, Kd.fresh' (Kd.R_lt (mR_ HO_10.out)) k_ hk, Kd.fresh' (Kd.R_lt (mR_ HO_55.out)) k_ hk, Kd.freshB (g := gb548) (o := .cells #[.int .i64 t544, .int .i64 t545] 44 (0, 0)) (mB_ BK548.out) k_ hk, Kd.freshB (g := gb549) (o := .cells #[.int .i64 t546, .int .i64 t547] 44 (0, 0)) (mB_ BK549.out) k_ hk⟩) _ (Nat.le_refl _)) (Below.refl _ _) (Nat.le_refl _) (by simp) ?_; (case hd => rfl); (case hg => rfl); (case hr => first | (go_simp; done) | (go_simp; rfl)); (case hp => exact (Reps.none _ _)); intro v570 w56 ho57 hb hg_ hnew_; clear hg_ hnew_; have m0_ := aM (gm_below (by (with_reducible repeat (first | apply gm_alloc | apply gm_drewN | apply gm_drew)); exact HM.out) hb); clear HM; have HM := m0_; clear m0_; (first | rw [← Ny569.out] at ho57 | (simp only [Int.reduceToNat] at ho57; rw [← Ny569.out] at ho57)); have n0_ := aM (Kd.R_below (mR_ HO_5.out) hb); have n1_ := aM (Kd.R_below (mR_ HO_10.out) hb); have n2_ := aM (Kd.R_below (mR_ HO_55.out) hb); have n3_ := aM (Kd.N_lower ho57 (below_size (zt GE548.out GE549.out))); have n4_ := aM (blk_below (g := gb548) (o := .cells #[.int .i64 t544, .int .i64 t545] 44 (0, 0)) (mB_ BK548.out) hb); have n5_ := aM (blk_below (g := gb549) (o := .cells #[.int .i64 t546, .int .i64 t547] 44 (0, 0)) (mB_ BK549.out) hb); have n6_ := aM (below_step (zt GE548.out GE549.out) hb); clear HO_5 HO_10 HO_55 BK548 BK549 HB; have HO_5 := n0_; have HO_10 := n1_; have HO_55 := n2_; have HO571 := n3_; have BK548 := n4_; have BK549 := n5_; have HB := n6_; clear n0_ n1_ n2_ n3_ n4_ n5_ n6_ hb ho57; obtain ⟨Ao59, co59, eo59⟩ := Kd.R_slice HO_10.out; subst eo59; have q58 : (1 : Int) ≤ ((x10_2.length : Int) : Int) := of_decide_eq_true za; obtain ⟨i058, hi058, _, hsz58, _⟩ := info_parts info2; have hroom58 : x10_2.length ≤ co59 := (Kd.R_reads' HO_10.out).2.1; have hC58 : Kd.F (Kd.int .i64) _ _ Ao59 x10_2.length x10_2 := (Kd.V_at (base := w.heap.size) (Kd.R_V (Kd.R_types (Kd.R_types (Kd.R_apart' (Kd.R_apart' (HO_10.out) (Kd.R_typed HO_5.out) (by decide)) (Kd.N_typed HO571.out) (by decide)) BK548.out (by decide)) BK549.out (by decide)))).2.2; have hcut58 := cut_from (P := Try.prog) 33 2 .i64 Try.underlying33 hi058 1 hsz58 Ao59 x10_2.length co59 1 (by omega) q58; have hr58 := Kd.F_cut (m := (1 : Int).toNat) (c := co59) hC58 (by omega) hroom58; obtain ⟨A58, hA58⟩ : ∃ A1, A1 = (if co59 = (1 : Int).toNat then Ao59 else (Ao59 : Option Addr).map (·.add ((1 : Int).toNat * 1))) := ⟨_, rfl⟩; obtain ⟨c58, hc58⟩ : ∃ c1, c1 = co59 - (1 : Int).toNat := ⟨_, rfl⟩; have hy58 : y572.length = x10_2.length - (1 : Int).toNat := (by rw [Ny572.out, List.length_drop] <;> omega); rw [show (x10_2).drop (1 : Int).toNat = y572 from Ny572.out.symm] at hr58; replace hr58 : Kd.F (Kd.int .i64) _ _ A58 y572.length y572 := (by rw [hA58]; exact hr58); rw [← hy58, ← hA58, ← hc58] at hcut58; have HO576 := aM (show Kd.V (Kd.int .i64) 2 _ w.heap.size _ (.slice A58 y572.length c58) y572 from Kd.V_mk (by rw [hy58, hc58]; exact Nat.sub_le_sub_right hroom58 _) hr58); have HC576 := aM (show y572.length ≤ c58 from by rw [hy58, hc58]; exact Nat.sub_le_sub_right hroom58 _); clear hr58 hC58 hroom58 hi058 hsz58 hc58; have KY58 := aM hy58; have KA58 := aM hA58; clear hy58 hA58; replace q58 := eq_true q58))
      repeat (go_quiet (first | ((with_reducible refine gate_dst (N := 83) rfl ?_); refine Kd.N_lit (Kd.slice 44 k44) _ 26 ?hg (N' := 83) ?hd (xs := ([] : List (List (S44)))) (inner := []) (ok := (fun k_ => (w.heap.size ≤ k_) ∧ some k_ ≠ (.slice Ao45 x5_1.length co45 : Value).ownBlock ∧ some k_ ≠ (u10 : Value).ownBlock ∧ some k_ ≠ (.slice Ao47 t561.length co47 : Value).ownBlock ∧ k_ ≠ gb548 ∧ k_ ≠ gb549)) (okp := (fun k_ => (w.heap.size ≤ k_) ∧ some k_ ≠ (.slice Ao45 x5_1.length co45 : Value).ownBlock ∧ some k_ ≠ (u10 : Value).ownBlock ∧ some k_ ≠ (.slice Ao47 t561.length co47 : Value).ownBlock ∧ k_ ≠ gb548 ∧ k_ ≠ gb549)) ?hr ?hp (fun _ hk => hk) ((show ∀ k_, wr.heap.size ≤ k_ → (fun k_ => (w.heap.size ≤ k_) ∧ some k_ ≠ (.slice Ao45 x5_1.length co45 : Value).ownBlock ∧ some k_ ≠ (u10 : Value).ownBlock ∧ some k_ ≠ (.slice Ao47 t561.length co47 : Value).ownBlock ∧ k_ ≠ gb548 ∧ k_ ≠ gb549) k_ from fun k_ hk => ⟨(Nat.le_trans (below_size (zt GE548.out GE549.out)) hk), Kd.fresh' (Kd.R_lt (mR_ HO_5.out)) k_ hk, Kd.fresh' (Kd.R_lt (mR_ HO_10.out)) k_ hk, Kd.fresh' (Kd.R_lt (mR_ HO_55.out)) k_ hk, Kd.freshB (g := gb548) (o := .cells #[.int .i64 t544, .int .i64 t545] 44 (0, 0)) (mB_ BK548.out) k_ hk, Kd.freshB (g := gb549) (o := .cells #[.int .i64 t546, .int .i64 t547] 44 (0, 0)) (mB_ BK549.out) k_ hk⟩) _ (Nat.le_refl _)) (Below.refl _ _) (Nat.le_refl _) (by simp) ?_; (case hd => rfl); (case hg => rfl); (case hr => first | (go_simp; done) | (go_simp; rfl)); (case hp => exact (Reps.none _ _)); intro v570 w56 ho57 hb hg_ hnew_; clear hg_ hnew_; have m0_ := aM (gm_below (by (with_reducible repeat (first | apply gm_alloc | apply gm_drewN | apply gm_drew)); exact HM.out) hb); clear HM; have HM := m0_; clear m0_; (first | rw [← Ny569.out] at ho57 | (simp only [Int.reduceToNat] at ho57; rw [← Ny569.out] at ho57)); have n0_ := aM (Kd.R_below (mR_ HO_5.out) hb); have n1_ := aM (Kd.R_below (mR_ HO_10.out) hb); have n2_ := aM (Kd.R_below (mR_ HO_55.out) hb); have n3_ := aM (Kd.N_lower ho57 (below_size (zt GE548.out GE549.out))); have n4_ := aM (blk_below (g := gb548) (o := .cells #[.int .i64 t544, .int .i64 t545] 44 (0, 0)) (mB_ BK548.out) hb); have n5_ := aM (blk_below (g := gb549) (o := .cells #[.int .i64 t546, .int .i64 t547] 44 (0, 0)) (mB_ BK549.out) hb); have n6_ := aM (below_step (zt GE548.out GE549.out) hb); clear HO_5 HO_10 HO_55 BK548 BK549 HB; have HO_5 := n0_; have HO_10 := n1_; have HO_55 := n2_; have HO571 := n3_; have BK548 := n4_; have BK549 := n5_; have HB := n6_; clear n0_ n1_ n2_ n3_ n4_ n5_ n6_ hb ho57; obtain ⟨Ao59, co59, eo59⟩ := Kd.R_slice HO_10.out; subst eo59; have q58 : (1 : Int) ≤ ((x10_2.length : Int) : Int) := of_decide_eq_true za; obtain ⟨i058, hi058, _, hsz58, _⟩ := info_parts info2; have hroom58 : x10_2.length ≤ co59 := (Kd.R_reads' HO_10.out).2.1; have hC58 : Kd.F (Kd.int .i64) _ _ Ao59 x10_2.length x10_2 := (Kd.V_at (base := w.heap.size) (Kd.R_V (Kd.R_types (Kd.R_types (Kd.R_apart' (Kd.R_apart' (HO_10.out) (Kd.R_typed HO_5.out) (by decide)) (Kd.N_typed HO571.out) (by decide)) BK548.out (by decide)) BK549.out (by decide)))).2.2; have hcut58 := cut_from (P := Try.prog) 33 2 .i64 Try.underlying33 hi058 1 hsz58 Ao59 x10_2.length co59 1 (by omega) q58; have hr58 := Kd.F_cut (m := (1 : Int).toNat) (c := co59) hC58 (by omega) hroom58; obtain ⟨A58, hA58⟩ : ∃ A1, A1 = (if co59 = (1 : Int).toNat then Ao59 else (Ao59 : Option Addr).map (·.add ((1 : Int).toNat * 1))) := ⟨_, rfl⟩; obtain ⟨c58, hc58⟩ : ∃ c1, c1 = co59 - (1 : Int).toNat := ⟨_, rfl⟩; have hy58 : y572.length = x10_2.length - (1 : Int).toNat := (by rw [Ny572.out, List.length_drop] <;> omega); rw [show (x10_2).drop (1 : Int).toNat = y572 from Ny572.out.symm] at hr58; replace hr58 : Kd.F (Kd.int .i64) _ _ A58 y572.length y572 := (by rw [hA58]; exact hr58); rw [← hy58, ← hA58, ← hc58] at hcut58; have HO576 := aM (show Kd.V (Kd.int .i64) 2 _ w.heap.size _ (.slice A58 y572.length c58) y572 from Kd.V_mk (by rw [hy58, hc58]; exact Nat.sub_le_sub_right hroom58 _) hr58); have HC576 := aM (show y572.length ≤ c58 from by rw [hy58, hc58]; exact Nat.sub_le_sub_right hroom58 _); clear hr58 hC58 hroom58 hi058 hsz58 hc58; have KY58 := aM hy58; have KA58 := aM hA58; clear hy58 hA58; replace q58 := eq_true q58)); try go_wp2_with (first | ((with_reducible refine gate_dst (N := 83) rfl ?_); refine Kd.N_lit (Kd.slice 44 k44) _ 26 ?hg (N' := 83) ?hd (xs := ([] : List (List (S44)))) (inner := []) (ok := (fun k_ => (w.heap.size ≤ k_) ∧ some k_ ≠ (.slice Ao45 x5_1.length co45 : Value).ownBlock ∧ some k_ ≠ (u10 : Value).ownBlock ∧ some k_ ≠ (.slice Ao47 t561.length co47 : Value).ownBlock ∧ k_ ≠ gb548 ∧ k_ ≠ gb549)) (okp := (fun k_ => (w.heap.size ≤ k_) ∧ some k_ ≠ (.slice Ao45 x5_1.length co45 : Value).ownBlock ∧ some k_ ≠ (u10 : Value).ownBlock ∧ some k_ ≠ (.slice Ao47 t561.length co47 : Value).ownBlock ∧ k_ ≠ gb548 ∧ k_ ≠ gb549)) ?hr ?hp (fun _ hk => hk) ((show ∀ k_, wr.heap.size ≤ k_ → (fun k_ => (w.heap.size ≤ k_) ∧ some k_ ≠ (.slice Ao45 x5_1.length co45 : Value).ownBlock ∧ some k_ ≠ (u10 : Value).ownBlock ∧ some k_ ≠ (.slice Ao47 t561.length co47 : Value).ownBlock ∧ k_ ≠ gb548 ∧ k_ ≠ gb549) k_ from fun k_ hk => ⟨(Nat.le_trans (below_size (zt GE548.out GE549.out)) hk), Kd.fresh' (Kd.R_lt (mR_ HO_5.out)) k_ hk, Kd.fresh' (Kd.R_lt (mR_ HO_10.out)) k_ hk, Kd.fresh' (Kd.R_lt (mR_ HO_55.out)) k_ hk, Kd.freshB (g := gb548) (o := .cells #[.int .i64 t544, .int .i64 t545] 44 (0, 0)) (mB_ BK548.out) k_ hk, Kd.freshB (g := gb549) (o := .cells #[.int .i64 t546, .int .i64 t547] 44 (0, 0)) (mB_ BK549.out) k_ hk⟩) _ (Nat.le_refl _)) (Below.refl _ _) (Nat.le_refl _) (by simp) ?_; (case hd => rfl); (case hg => rfl); (case hr => first | (go_simp; done) | (go_simp; rfl)); (case hp => exact (Reps.none _ _)); intro v570 w56 ho57 hb hg_ hnew_; clear hg_ hnew_; have m0_ := aM (gm_below (by (with_reducible repeat (first | apply gm_alloc | apply gm_drewN | apply gm_drew)); exact HM.out) hb); clear HM; have HM := m0_; clear m0_; (first | rw [← Ny569.out] at ho57 | (simp only [Int.reduceToNat] at ho57; rw [← Ny569.out] at ho57)); have n0_ := aM (Kd.R_below (mR_ HO_5.out) hb); have n1_ := aM (Kd.R_below (mR_ HO_10.out) hb); have n2_ := aM (Kd.R_below (mR_ HO_55.out) hb); have n3_ := aM (Kd.N_lower ho57 (below_size (zt GE548.out GE549.out))); have n4_ := aM (blk_below (g := gb548) (o := .cells #[.int .i64 t544, .int .i64 t545] 44 (0, 0)) (mB_ BK548.out) hb); have n5_ := aM (blk_below (g := gb549) (o := .cells #[.int .i64 t546, .int .i64 t547] 44 (0, 0)) (mB_ BK549.out) hb); have n6_ := aM (below_step (zt GE548.out GE549.out) hb); clear HO_5 HO_10 HO_55 BK548 BK549 HB; have HO_5 := n0_; have HO_10 := n1_; have HO_55 := n2_; have HO571 := n3_; have BK548 := n4_; have BK549 := n5_; have HB := n6_; clear n0_ n1_ n2_ n3_ n4_ n5_ n6_ hb ho57; obtain ⟨Ao59, co59, eo59⟩ := Kd.R_slice HO_10.out; subst eo59; have q58 : (1 : Int) ≤ ((x10_2.length : Int) : Int) := of_decide_eq_true za; obtain ⟨i058, hi058, _, hsz58, _⟩ := info_parts info2; have hroom58 : x10_2.length ≤ co59 := (Kd.R_reads' HO_10.out).2.1; have hC58 : Kd.F (Kd.int .i64) _ _ Ao59 x10_2.length x10_2 := (Kd.V_at (base := w.heap.size) (Kd.R_V (Kd.R_types (Kd.R_types (Kd.R_apart' (Kd.R_apart' (HO_10.out) (Kd.R_typed HO_5.out) (by decide)) (Kd.N_typed HO571.out) (by decide)) BK548.out (by decide)) BK549.out (by decide)))).2.2; have hcut58 := cut_from (P := Try.prog) 33 2 .i64 Try.underlying33 hi058 1 hsz58 Ao59 x10_2.length co59 1 (by omega) q58; have hr58 := Kd.F_cut (m := (1 : Int).toNat) (c := co59) hC58 (by omega) hroom58; obtain ⟨A58, hA58⟩ : ∃ A1, A1 = (if co59 = (1 : Int).toNat then Ao59 else (Ao59 : Option Addr).map (·.add ((1 : Int).toNat * 1))) := ⟨_, rfl⟩; obtain ⟨c58, hc58⟩ : ∃ c1, c1 = co59 - (1 : Int).toNat := ⟨_, rfl⟩; have hy58 : y572.length = x10_2.length - (1 : Int).toNat := (by rw [Ny572.out, List.length_drop] <;> omega); rw [show (x10_2).drop (1 : Int).toNat = y572 from Ny572.out.symm] at hr58; replace hr58 : Kd.F (Kd.int .i64) _ _ A58 y572.length y572 := (by rw [hA58]; exact hr58); rw [← hy58, ← hA58, ← hc58] at hcut58; have HO576 := aM (show Kd.V (Kd.int .i64) 2 _ w.heap.size _ (.slice A58 y572.length c58) y572 from Kd.V_mk (by rw [hy58, hc58]; exact Nat.sub_le_sub_right hroom58 _) hr58); have HC576 := aM (show y572.length ≤ c58 from by rw [hy58, hc58]; exact Nat.sub_le_sub_right hroom58 _); clear hr58 hC58 hroom58 hi058 hsz58 hc58; have KY58 := aM hy58; have KA58 := aM hA58; clear hy58 hA58; replace q58 := eq_true q58)))
      have hE9_ : x57_2.toNat = t561.length := by have := HI.out; have := of_decide_eq_false ‹decide (x57_2 < (t561.length : Int)) = false›; omega
      have m9_ := HM.out
      clear HM
      rw [hE9_] at m9_
      have HM := aM m9_
      clear hE9_ m9_
      go_loopg [13, 87] k2 (fun kq v13 v87 w' => ∃ (x13_3 : List (List (S44))) (x87_3 : Int), v87 = .int .i64 x87_3 ∧ Aside0 (impl_holes.l3 kq x5_1 x13_3 t561 y572 (y572.length : Int) x87_3 = some r) ∧ Aside0 (kq ≤ k2) ∧ Aside0 (Kd.R k44 44 w' w.heap.size (fun k_ => (w.heap.size ≤ k_) ∧ k_ ≠ gb548 ∧ k_ ≠ gb549) (.slice Ao45 x5_1.length co45) x5_1) ∧ Aside0 (Kd.N (Kd.slice 44 k44) 26 w' w.heap.size (fun k_ => (w.heap.size ≤ k_) ∧ some k_ ≠ ((.slice Ao45 x5_1.length co45) : Value).ownBlock ∧ some k_ ≠ ((.slice Ao47 t561.length co47) : Value).ownBlock ∧ k_ ≠ gb548 ∧ k_ ≠ gb549) v13 x13_3) ∧ Aside0 (Kd.R (Kd.int .i64) 2 w' w.heap.size (fun k_ => (w.heap.size ≤ k_)) (.slice Ao47 t561.length co47) t561) ∧ Aside0 (Kd.V (Kd.int .i64) 2 w' w.heap.size (fun k_ => (w.heap.size ≤ k_) ∧ some k_ ≠ ((.slice Ao45 x5_1.length co45) : Value).ownBlock ∧ some k_ ≠ (v13 : Value).ownBlock ∧ some k_ ≠ ((.slice Ao47 t561.length co47) : Value).ownBlock ∧ k_ ≠ gb548 ∧ k_ ≠ gb549) (.slice A58 y572.length c58) y572) ∧ Aside0 (w'.heap[gb548]? = some (.cells #[.int .i64 t544, .int .i64 t545] 44 (0, 0))) ∧ Aside0 (w'.heap[gb549]? = some (.cells #[.int .i64 t546, .int .i64 t547] 44 (0, 0))) ∧ Aside0 (Below w.heap.size w w') ∧ Aside0 (GM w' N0_ bm t561.length (fun b_ => N0_ ≤ b_) (fun k_ => grp x5_1 t561 t561.length k_)))
      case atStart => exact ⟨(y569), (0), zr, H', ⟨Nat.le_refl _⟩, ⟨mR_ HO_5.out⟩, ⟨zd14 HO571.out⟩, ⟨zd10 HO_55.out⟩, ⟨zd11 HO576.out⟩, ⟨mB_ BK548.out⟩, ⟨mB_ BK549.out⟩, ⟨zt GE548.out GE549.out⟩, ⟨(by (with_reducible repeat (first | apply gm_alloc | apply gm_drewN | apply gm_drew)); exact HM.out)⟩⟩
      case round =>
       clear H'
       try clear c1
       try clear c2
       try clear p2
       try clear c3
       try clear c4
       try clear c5
       try clear p5
       try clear q5
       try clear hx5
       try clear p6
       try clear c8
       try clear c14
       try clear c14b0
       try clear c15
       try clear c18
       try clear c18b0
       try clear c20
       try clear c21
       try clear c24
       try clear c25
       try clear c28
       try clear c29
       try clear c32
       try clear c33
       try clear c38
       try clear c41
       try clear c46
       try clear c48
       try clear c48b0
       try clear c49
       try clear c49b0
       try clear c50
       try clear c50b0
       try clear c52
       try clear c52b0
       try clear c52b1
       try clear c53
       try clear c55
       try clear c55b0
       try clear c55b1
       try clear p56
       try clear q56
       try clear hx56
       try clear c58
       try clear q58
       try clear hcz10_0
       try clear hcz10_1
       try clear hcz13_0
       try clear hcz13_1
       try clear hcz16_0
       try clear hcz16_1
       try clear hcz17_0
       try clear hcz17_1
       try clear hcz22_0
       try clear hcz22_1
       try clear hcz26_0
       try clear hcz26_1
       try clear hcz30_0
       try clear hcz30_1
       try clear hcz34_0
       try clear hcz34_1
       try clear hcz36_0
       try clear hcz36_1
       try clear hcz39_0
       try clear hcz39_1
       try clear hcz42_0
       try clear hcz42_1
       try clear hcz9_0
       try clear hcz9_1
       try clear hfz10_0
       try clear hfz10_1
       try clear hfz13_0
       try clear hfz13_1
       try clear hfz16_0
       try clear hfz16_1
       try clear hfz17_0
       try clear hfz17_1
       try clear hfz22_0
       try clear hfz22_1
       try clear hfz26_0
       try clear hfz26_1
       try clear hfz30_0
       try clear hfz30_1
       try clear hfz34_0
       try clear hfz34_1
       try clear hfz36_0
       try clear hfz36_1
       try clear hfz39_0
       try clear hfz39_1
       try clear hfz42_0
       try clear hfz42_1
       try clear hfz9_0
       try clear hfz9_1
       try clear hx564_0
       try clear p2
       try clear p564
       try clear p6
       try clear q564
       try clear q58
       obtain ⟨x13_3, x87_3, rfl, HA, HK3, HO_5, HO_13, HO_55, HO_85, BK548, BK549, HB, HM⟩ := hrel
       cases gk with
       | zero => exact absurd HA.out (by simp [impl_holes.l3])
       | succ k3 =>
        have H := HA.out
        clear HA
        simp only [impl_holes.l3] at H
        by_cases c60 : x87_3 < (y572.length : Int)
        rotate_left
        ·rw [if_neg c60] at H
         have c60b0 : decide (x87_3 < (y572.length : Int)) = false := decide_eq_false c60
         clear c60
         obtain rfl := Option.some.inj H
         go_wp2
         repeat (go_quiet (fail); try go_wp2)
         go_ret
         exact ⟨_, zw, zd15 HO_13.out, zt GE548.out GE549.out⟩
        rw [if_pos c60] at H
        have c60b0 : decide (x87_3 < (y572.length : Int)) = true := decide_eq_true c60
        clear c60
        by_cases c61 : 0 ≤ x87_3
        rotate_left
        ·rw [if_neg c61] at H
         exact absurd H (by simp)
        rw [if_pos c61] at H
        have c61b0 : decide (0 ≤ x87_3) = true := decide_eq_true c61
        clear c61
        by_cases c62 : x87_3 < (y572.length : Int)
        rotate_left
        ·rw [if_neg c62] at H
         exact absurd H (by simp)
        rw [if_pos c62] at H
        have c62b0 : decide (x87_3 < (y572.length : Int)) = true := decide_eq_true c62
        clear c62
        replace H := Option.bind_eq_some_iff.mp H
        obtain ⟨t578, A630, H⟩ := H
        replace H : (if x13_3.length < 5864062014805 then (impl_holes.l3 k3 x5_1 (x13_3 ++ [t578]) t561 y572 (y572.length : Int) (wrap64 (x87_3 + 1))) else (none)) = some r := H
        have A63 := aM A630
        clear A630
        obtain ⟨hwf_, ht_⟩ := holesRow_open A63.out
        have HWF := aM hwf_
        clear hwf_ A63
        subst ht_
        by_cases c64 : x13_3.length < 5864062014805
        rotate_left
        ·rw [if_neg c64] at H
         exact absurd H (by simp)
        rw [if_pos c64] at H
        have LMc64 := aM c64
        clear c64
        obtain ⟨y581, hy581⟩ : ∃ y_ : List (List (S44)), y_ = (x13_3 ++ [(grp x5_1 t561 t561.length (rd y572 x87_3))]) := ⟨_, rfl⟩
        replace H : (impl_holes.l3 k3 x5_1 y581 t561 y572 (y572.length : Int) (wrap64 (x87_3 + 1))) = some r := zy H hy581
        have Ny581 := aM hy581
        clear hy581
        have H' := aM H
        clear H
        have p577 : 0 ≤ (x87_3 : Int) := of_decide_eq_true za
        have q577 : x87_3 < (y572.length : Int) := of_decide_eq_true za
        obtain ⟨ad577, e577, hx577_0⟩ := Kd.at_int (Kd.V_reads' HO_85.out).2.2 x87_3 p577 q577
        cases e577
        replace p577 := eq_true p577
        replace q577 := eq_true q577
        go_wp2_with (first | ((with_reducible refine gate_dst (N := 94) rfl ?_); refine gm_look2 rfl _ _ rfl rfl (by (with_reducible repeat (first | apply gm_alloc | apply gm_drewN | apply gm_drew)); exact HM.out) (rd y572 x87_3) HWF.out rfl ?_; intro Ao67 co67 hL_; have HO580 := aM (Kd.V_lower (Kd.V_mono (ok' := fun k_ => (w.heap.size ≤ k_) ∧ some k_ ≠ (.slice Ao45 x5_1.length co45 : Value).ownBlock ∧ some k_ ≠ (u13 : Value).ownBlock ∧ some k_ ≠ (.slice Ao47 t561.length co47 : Value).ownBlock ∧ k_ ≠ gb548 ∧ k_ ≠ gb549) hL_ (fun k_ hk_ => ⟨Nat.le_trans HW_.out hk_.1, fun he_ => absurd hk_.1 (Nat.not_le.2 (HF_.out k_ he_.symm)), ne_typed_ hk_.2 (Kd.N_typed (mN_ HO_13.out)) (by decide), ne_typed_ hk_.2 (Kd.R_typed (mR_ HO_55.out)) (by decide), Nat.ne_of_gt (Nat.lt_of_lt_of_le H8_.out hk_.1), Nat.ne_of_gt (Nat.lt_of_lt_of_le H9_.out hk_.1)⟩)) HW_.out); clear hL_) | ((with_reducible refine gate_builtin (b := .append) (xs := #[.tmp 91, .tmp 95]) rfl ?_); at_builtin; refine Kd.N_append (Kd.slice 44 k44) (w0 := w) w.heap.size rfl (.tmp 91) (.tmp 95) 58 26 (.slice none 0 0) 24 rfl Try.underlying58 info26 rfl (by decide) (by omega) u13 x13_3 (grp x5_1 t561 t561.length (rd y572 x87_3)) [.slice Ao67 (grp x5_1 t561 t561.length (rd y572 x87_3)).length co67] (fun k_ => (w.heap.size ≤ k_) ∧ some k_ ≠ (.slice Ao45 x5_1.length co45 : Value).ownBlock ∧ some k_ ≠ (.slice Ao47 t561.length co47 : Value).ownBlock ∧ k_ ≠ gb548 ∧ k_ ≠ gb549) (fun k_ => ((fun k_ => (w.heap.size ≤ k_) ∧ some k_ ≠ (.slice Ao45 x5_1.length co45 : Value).ownBlock ∧ some k_ ≠ (.slice Ao47 t561.length co47 : Value).ownBlock ∧ k_ ≠ gb548 ∧ k_ ≠ gb549)) k_ ∧ some k_ ≠ (u13 : Value).ownBlock) rfl rfl ?aP (fun _ hk => hk) ?aF ?aO ?aB ?aS ?aL ?_; (case aP => first | exact (Kd.FK_slice_mk (Kd.V_reads' (Kd.V_mono (ok' := (fun k_ => ((fun k_ => (w.heap.size ≤ k_) ∧ some k_ ≠ (.slice Ao45 x5_1.length co45 : Value).ownBlock ∧ some k_ ≠ (.slice Ao47 t561.length co47 : Value).ownBlock ∧ k_ ≠ gb548 ∧ k_ ≠ gb549)) k_ ∧ some k_ ≠ (u13 : Value).ownBlock)) (Kd.V_drewN HO580.out _) (fun k_ hk => ⟨⟨hk.1, ⟨hk.2.1, ⟨hk.2.2.2.1, ⟨hk.2.2.2.2.1, hk.2.2.2.2.2⟩⟩⟩⟩, hk.2.2.1⟩))).2.1 (Kd.V_F (Kd.V_mono (ok' := (fun k_ => ((fun k_ => (w.heap.size ≤ k_) ∧ some k_ ≠ (.slice Ao45 x5_1.length co45 : Value).ownBlock ∧ some k_ ≠ (.slice Ao47 t561.length co47 : Value).ownBlock ∧ k_ ≠ gb548 ∧ k_ ≠ gb549)) k_ ∧ some k_ ≠ (u13 : Value).ownBlock)) (Kd.V_drewN HO580.out _) (fun k_ hk => ⟨⟨hk.1, ⟨hk.2.1, ⟨hk.2.2.2.1, ⟨hk.2.2.2.2.1, hk.2.2.2.2.2⟩⟩⟩⟩, hk.2.2.1⟩)))) | exact (Kd.FK_slice_mk (Kd.V_reads' (Kd.V_mono (ok' := (fun k_ => ((fun k_ => (w.heap.size ≤ k_) ∧ some k_ ≠ (.slice Ao45 x5_1.length co45 : Value).ownBlock ∧ some k_ ≠ (.slice Ao47 t561.length co47 : Value).ownBlock ∧ k_ ≠ gb548 ∧ k_ ≠ gb549)) k_ ∧ some k_ ≠ (u13 : Value).ownBlock)) (HO580.out) (fun k_ hk => ⟨⟨hk.1, ⟨hk.2.1, ⟨hk.2.2.2.1, ⟨hk.2.2.2.2.1, hk.2.2.2.2.2⟩⟩⟩⟩, hk.2.2.1⟩))).2.1 (Kd.V_F (Kd.V_mono (ok' := (fun k_ => ((fun k_ => (w.heap.size ≤ k_) ∧ some k_ ≠ (.slice Ao45 x5_1.length co45 : Value).ownBlock ∧ some k_ ≠ (.slice Ao47 t561.length co47 : Value).ownBlock ∧ k_ ≠ gb548 ∧ k_ ≠ gb549)) k_ ∧ some k_ ≠ (u13 : Value).ownBlock)) (HO580.out) (fun k_ hk => ⟨⟨hk.1, ⟨hk.2.1, ⟨hk.2.2.2.1, ⟨hk.2.2.2.2.1, hk.2.2.2.2.2⟩⟩⟩⟩, hk.2.2.1⟩)))) | exact (Kd.FK_slice_mk (Kd.V_reads' (Kd.V_mono (ok' := (fun k_ => ((fun k_ => (w.heap.size ≤ k_) ∧ some k_ ≠ (.slice Ao45 x5_1.length co45 : Value).ownBlock ∧ some k_ ≠ (.slice Ao47 t561.length co47 : Value).ownBlock ∧ k_ ≠ gb548 ∧ k_ ≠ gb549)) k_ ∧ some k_ ≠ (u13 : Value).ownBlock)) (Kd.V_alloc (Kd.V_drewN HO580.out _) _) (fun k_ hk => ⟨⟨hk.1, ⟨hk.2.1, ⟨hk.2.2.2.1, ⟨hk.2.2.2.2.1, hk.2.2.2.2.2⟩⟩⟩⟩, hk.2.2.1⟩))).2.1 (Kd.V_F (Kd.V_mono (ok' := (fun k_ => ((fun k_ => (w.heap.size ≤ k_) ∧ some k_ ≠ (.slice Ao45 x5_1.length co45 : Value).ownBlock ∧ some k_ ≠ (.slice Ao47 t561.length co47 : Value).ownBlock ∧ k_ ≠ gb548 ∧ k_ ≠ gb549)) k_ ∧ some k_ ≠ (u13 : Value).ownBlock)) (Kd.V_alloc (Kd.V_drewN HO580.out _) _) (fun k_ hk => ⟨⟨hk.1, ⟨hk.2.1, ⟨hk.2.2.2.1, ⟨hk.2.2.2.2.1, hk.2.2.2.2.2⟩⟩⟩⟩, hk.2.2.1⟩)))) | (have h2_ := Kd.V_mono (ok' := (fun k_ => ((fun k_ => (w.heap.size ≤ k_) ∧ some k_ ≠ (.slice Ao45 x5_1.length co45 : Value).ownBlock ∧ some k_ ≠ (.slice Ao47 t561.length co47 : Value).ownBlock ∧ k_ ≠ gb548 ∧ k_ ≠ gb549)) k_ ∧ some k_ ≠ (u13 : Value).ownBlock)) (Kd.V_drewN HO580.out nd) (fun k_ hk => ⟨⟨hk.1, ⟨hk.2.1, ⟨hk.2.2.2.1, ⟨hk.2.2.2.2.1, hk.2.2.2.2.2⟩⟩⟩⟩, hk.2.2.1⟩); exact Kd.FK_slice_mk (Kd.V_reads' h2_).2.1 (Kd.V_F h2_))); (case aB => exact (zt GE548.out GE549.out)); (case aF => exact (fun k_ hk => ⟨(Nat.le_trans (below_size (zt GE548.out GE549.out)) hk), Kd.fresh' (Kd.R_lt (mR_ HO_5.out)) k_ hk, Kd.fresh' (Kd.R_lt (mR_ HO_55.out)) k_ hk, Kd.freshB (g := gb548) (o := .cells #[.int .i64 t544, .int .i64 t545] 44 (0, 0)) (mB_ BK548.out) k_ hk, Kd.freshB (g := gb549) (o := .cells #[.int .i64 t546, .int .i64 t547] 44 (0, 0)) (mB_ BK549.out) k_ hk⟩)); (case aO => exact (mN_ HO_13.out)); (case aS => exact (below_size (zt GE548.out GE549.out))); (case aL => have := LMc64.out; omega); intro v582 w66 ho hb hg hat; rw [← Ny581.out] at ho; have m0_ := aM (gm_over (by (with_reducible repeat (first | apply gm_alloc | apply gm_drewN | apply gm_drew)); exact HM.out) hg (Kd.N_typed (mN_ HO_13.out)) (by decide)); clear HM; have HM := m0_; clear m0_; have n0_ := aM (Kd.R_over' (mR_ HO_5.out) (Kd.N_typed (mN_ HO_13.out)) (by decide) hg); have n1_ := aM (Kd.R_over' (mR_ HO_55.out) (Kd.N_typed (mN_ HO_13.out)) (by decide) hg); have n2_ := aM (Kd.V_afterv (ok := (fun k_ => (w.heap.size ≤ k_) ∧ some k_ ≠ (.slice Ao45 x5_1.length co45 : Value).ownBlock ∧ some k_ ≠ (.slice Ao47 t561.length co47 : Value).ownBlock ∧ k_ ≠ gb548 ∧ k_ ≠ gb549)) (zd12 HO_85.out) hg hat); have n3_ := aM (blk_grown (g := gb548) (o := .cells #[.int .i64 t544, .int .i64 t545] 44 (0, 0)) (mB_ BK548.out) hg (Kd.N_ne HO_13.out BK548.out (by decide))); have n4_ := aM (blk_grown (g := gb549) (o := .cells #[.int .i64 t546, .int .i64 t547] 44 (0, 0)) (mB_ BK549.out) hg (Kd.N_ne HO_13.out BK549.out (by decide))); have n5_ := aM (Kd.V_afterv (ok := (fun k_ => (w.heap.size ≤ k_) ∧ some k_ ≠ (.slice Ao45 x5_1.length co45 : Value).ownBlock ∧ some k_ ≠ (.slice Ao47 t561.length co47 : Value).ownBlock ∧ k_ ≠ gb548 ∧ k_ ≠ gb549)) (zd12 HO580.out) hg hat); have n6_ := aM (hb); have n7_ := aM (ho); clear HO_5 HO_55 HO_85 BK548 BK549 HO580 HB HO_13; have HO_5 := n0_; have HO_55 := n1_; have HO_85 := n2_; have BK548 := n3_; have BK549 := n4_; have HO580 := n5_; have HB := n6_; have HO583 := n7_; clear n0_ n1_ n2_ n3_ n4_ n5_ n6_ n7_; clear ho hb hg hat))
        repeat (go_quiet (first | ((with_reducible refine gate_dst (N := 94) rfl ?_); refine gm_look2 rfl _ _ rfl rfl (by (with_reducible repeat (first | apply gm_alloc | apply gm_drewN | apply gm_drew)); exact HM.out) (rd y572 x87_3) HWF.out rfl ?_; intro Ao67 co67 hL_; have HO580 := aM (Kd.V_lower (Kd.V_mono (ok' := fun k_ => (w.heap.size ≤ k_) ∧ some k_ ≠ (.slice Ao45 x5_1.length co45 : Value).ownBlock ∧ some k_ ≠ (u13 : Value).ownBlock ∧ some k_ ≠ (.slice Ao47 t561.length co47 : Value).ownBlock ∧ k_ ≠ gb548 ∧ k_ ≠ gb549) hL_ (fun k_ hk_ => ⟨Nat.le_trans HW_.out hk_.1, fun he_ => absurd hk_.1 (Nat.not_le.2 (HF_.out k_ he_.symm)), ne_typed_ hk_.2 (Kd.N_typed (mN_ HO_13.out)) (by decide), ne_typed_ hk_.2 (Kd.R_typed (mR_ HO_55.out)) (by decide), Nat.ne_of_gt (Nat.lt_of_lt_of_le H8_.out hk_.1), Nat.ne_of_gt (Nat.lt_of_lt_of_le H9_.out hk_.1)⟩)) HW_.out); clear hL_) | ((with_reducible refine gate_builtin (b := .append) (xs := #[.tmp 91, .tmp 95]) rfl ?_); at_builtin; refine Kd.N_append (Kd.slice 44 k44) (w0 := w) w.heap.size rfl (.tmp 91) (.tmp 95) 58 26 (.slice none 0 0) 24 rfl Try.underlying58 info26 rfl (by decide) (by omega) u13 x13_3 (grp x5_1 t561 t561.length (rd y572 x87_3)) [.slice Ao67 (grp x5_1 t561 t561.length (rd y572 x87_3)).length co67] (fun k_ => (w.heap.size ≤ k_) ∧ some k_ ≠ (.slice Ao45 x5_1.length co45 : Value).ownBlock ∧ some k_ ≠ (.slice Ao47 t561.length co47 : Value).ownBlock ∧ k_ ≠ gb548 ∧ k_ ≠ gb549) (fun k_ => ((fun k_ => (w.heap.size ≤ k_) ∧ some k_ ≠ (.slice Ao45 x5_1.length co45 : Value).ownBlock ∧ some k_ ≠ (.slice Ao47 t561.length co47 : Value).ownBlock ∧ k_ ≠ gb548 ∧ k_ ≠ gb549)) k_ ∧ some k_ ≠ (u13 : Value).ownBlock) rfl rfl ?aP (fun _ hk => hk) ?aF ?aO ?aB ?aS ?aL ?_; (case aP => first | exact (Kd.FK_slice_mk (Kd.V_reads' (Kd.V_mono (ok' := (fun k_ => ((fun k_ => (w.heap.size ≤ k_) ∧ some k_ ≠ (.slice Ao45 x5_1.length co45 : Value).ownBlock ∧ some k_ ≠ (.slice Ao47 t561.length co47 : Value).ownBlock ∧ k_ ≠ gb548 ∧ k_ ≠ gb549)) k_ ∧ some k_ ≠ (u13 : Value).ownBlock)) (Kd.V_drewN HO580.out _) (fun k_ hk => ⟨⟨hk.1, ⟨hk.2.1, ⟨hk.2.2.2.1, ⟨hk.2.2.2.2.1, hk.2.2.2.2.2⟩⟩⟩⟩, hk.2.2.1⟩))).2.1 (Kd.V_F (Kd.V_mono (ok' := (fun k_ => ((fun k_ => (w.heap.size ≤ k_) ∧ some k_ ≠ (.slice Ao45 x5_1.length co45 : Value).ownBlock ∧ some k_ ≠ (.slice Ao47 t561.length co47 : Value).ownBlock ∧ k_ ≠ gb548 ∧ k_ ≠ gb549)) k_ ∧ some k_ ≠ (u13 : Value).ownBlock)) (Kd.V_drewN HO580.out _) (fun k_ hk => ⟨⟨hk.1, ⟨hk.2.1, ⟨hk.2.2.2.1, ⟨hk.2.2.2.2.1, hk.2.2.2.2.2⟩⟩⟩⟩, hk.2.2.1⟩)))) | exact (Kd.FK_slice_mk (Kd.V_reads' (Kd.V_mono (ok' := (fun k_ => ((fun k_ => (w.heap.size ≤ k_) ∧ some k_ ≠ (.slice Ao45 x5_1.length co45 : Value).ownBlock ∧ some k_ ≠ (.slice Ao47 t561.length co47 : Value).ownBlock ∧ k_ ≠ gb548 ∧ k_ ≠ gb549)) k_ ∧ some k_ ≠ (u13 : Value).ownBlock)) (HO580.out) (fun k_ hk => ⟨⟨hk.1, ⟨hk.2.1, ⟨hk.2.2.2.1, ⟨hk.2.2.2.2.1, hk.2.2.2.2.2⟩⟩⟩⟩, hk.2.2.1⟩))).2.1 (Kd.V_F (Kd.V_mono (ok' := (fun k_ => ((fun k_ => (w.heap.size ≤ k_) ∧ some k_ ≠ (.slice Ao45 x5_1.length co45 : Value).ownBlock ∧ some k_ ≠ (.slice Ao47 t561.length co47 : Value).ownBlock ∧ k_ ≠ gb548 ∧ k_ ≠ gb549)) k_ ∧ some k_ ≠ (u13 : Value).ownBlock)) (HO580.out) (fun k_ hk => ⟨⟨hk.1, ⟨hk.2.1, ⟨hk.2.2.2.1, ⟨hk.2.2.2.2.1, hk.2.2.2.2.2⟩⟩⟩⟩, hk.2.2.1⟩)))) | exact (Kd.FK_slice_mk (Kd.V_reads' (Kd.V_mono (ok' := (fun k_ => ((fun k_ => (w.heap.size ≤ k_) ∧ some k_ ≠ (.slice Ao45 x5_1.length co45 : Value).ownBlock ∧ some k_ ≠ (.slice Ao47 t561.length co47 : Value).ownBlock ∧ k_ ≠ gb548 ∧ k_ ≠ gb549)) k_ ∧ some k_ ≠ (u13 : Value).ownBlock)) (Kd.V_alloc (Kd.V_drewN HO580.out _) _) (fun k_ hk => ⟨⟨hk.1, ⟨hk.2.1, ⟨hk.2.2.2.1, ⟨hk.2.2.2.2.1, hk.2.2.2.2.2⟩⟩⟩⟩, hk.2.2.1⟩))).2.1 (Kd.V_F (Kd.V_mono (ok' := (fun k_ => ((fun k_ => (w.heap.size ≤ k_) ∧ some k_ ≠ (.slice Ao45 x5_1.length co45 : Value).ownBlock ∧ some k_ ≠ (.slice Ao47 t561.length co47 : Value).ownBlock ∧ k_ ≠ gb548 ∧ k_ ≠ gb549)) k_ ∧ some k_ ≠ (u13 : Value).ownBlock)) (Kd.V_alloc (Kd.V_drewN HO580.out _) _) (fun k_ hk => ⟨⟨hk.1, ⟨hk.2.1, ⟨hk.2.2.2.1, ⟨hk.2.2.2.2.1, hk.2.2.2.2.2⟩⟩⟩⟩, hk.2.2.1⟩)))) | (have h2_ := Kd.V_mono (ok' := (fun k_ => ((fun k_ => (w.heap.size ≤ k_) ∧ some k_ ≠ (.slice Ao45 x5_1.length co45 : Value).ownBlock ∧ some k_ ≠ (.slice Ao47 t561.length co47 : Value).ownBlock ∧ k_ ≠ gb548 ∧ k_ ≠ gb549)) k_ ∧ some k_ ≠ (u13 : Value).ownBlock)) (Kd.V_drewN HO580.out nd) (fun k_ hk => ⟨⟨hk.1, ⟨hk.2.1, ⟨hk.2.2.2.1, ⟨hk.2.2.2.2.1, hk.2.2.2.2.2⟩⟩⟩⟩, hk.2.2.1⟩); exact Kd.FK_slice_mk (Kd.V_reads' h2_).2.1 (Kd.V_F h2_))); (case aB => exact (zt GE548.out GE549.out)); (case aF => exact (fun k_ hk => ⟨(Nat.le_trans (below_size (zt GE548.out GE549.out)) hk), Kd.fresh' (Kd.R_lt (mR_ HO_5.out)) k_ hk, Kd.fresh' (Kd.R_lt (mR_ HO_55.out)) k_ hk, Kd.freshB (g := gb548) (o := .cells #[.int .i64 t544, .int .i64 t545] 44 (0, 0)) (mB_ BK548.out) k_ hk, Kd.freshB (g := gb549) (o := .cells #[.int .i64 t546, .int .i64 t547] 44 (0, 0)) (mB_ BK549.out) k_ hk⟩)); (case aO => exact (mN_ HO_13.out)); (case aS => exact (below_size (zt GE548.out GE549.out))); (case aL => have := LMc64.out; omega); intro v582 w66 ho hb hg hat; rw [← Ny581.out] at ho; have m0_ := aM (gm_over (by (with_reducible repeat (first | apply gm_alloc | apply gm_drewN | apply gm_drew)); exact HM.out) hg (Kd.N_typed (mN_ HO_13.out)) (by decide)); clear HM; have HM := m0_; clear m0_; have n0_ := aM (Kd.R_over' (mR_ HO_5.out) (Kd.N_typed (mN_ HO_13.out)) (by decide) hg); have n1_ := aM (Kd.R_over' (mR_ HO_55.out) (Kd.N_typed (mN_ HO_13.out)) (by decide) hg); have n2_ := aM (Kd.V_afterv (ok := (fun k_ => (w.heap.size ≤ k_) ∧ some k_ ≠ (.slice Ao45 x5_1.length co45 : Value).ownBlock ∧ some k_ ≠ (.slice Ao47 t561.length co47 : Value).ownBlock ∧ k_ ≠ gb548 ∧ k_ ≠ gb549)) (zd12 HO_85.out) hg hat); have n3_ := aM (blk_grown (g := gb548) (o := .cells #[.int .i64 t544, .int .i64 t545] 44 (0, 0)) (mB_ BK548.out) hg (Kd.N_ne HO_13.out BK548.out (by decide))); have n4_ := aM (blk_grown (g := gb549) (o := .cells #[.int .i64 t546, .int .i64 t547] 44 (0, 0)) (mB_ BK549.out) hg (Kd.N_ne HO_13.out BK549.out (by decide))); have n5_ := aM (Kd.V_afterv (ok := (fun k_ => (w.heap.size ≤ k_) ∧ some k_ ≠ (.slice Ao45 x5_1.length co45 : Value).ownBlock ∧ some k_ ≠ (.slice Ao47 t561.length co47 : Value).ownBlock ∧ k_ ≠ gb548 ∧ k_ ≠ gb549)) (zd12 HO580.out) hg hat); have n6_ := aM (hb); have n7_ := aM (ho); clear HO_5 HO_55 HO_85 BK548 BK549 HO580 HB HO_13; have HO_5 := n0_; have HO_55 := n1_; have HO_85 := n2_; have BK548 := n3_; have BK549 := n4_; have HO580 := n5_; have HB := n6_; have HO583 := n7_; clear n0_ n1_ n2_ n3_ n4_ n5_ n6_ n7_; clear ho hb hg hat)); try go_wp2_with (first | ((with_reducible refine gate_dst (N := 94) rfl ?_); refine gm_look2 rfl _ _ rfl rfl (by (with_reducible repeat (first | apply gm_alloc | apply gm_drewN | apply gm_drew)); exact HM.out) (rd y572 x87_3) HWF.out rfl ?_; intro Ao67 co67 hL_; have HO580 := aM (Kd.V_lower (Kd.V_mono (ok' := fun k_ => (w.heap.size ≤ k_) ∧ some k_ ≠ (.slice Ao45 x5_1.length co45 : Value).ownBlock ∧ some k_ ≠ (u13 : Value).ownBlock ∧ some k_ ≠ (.slice Ao47 t561.length co47 : Value).ownBlock ∧ k_ ≠ gb548 ∧ k_ ≠ gb549) hL_ (fun k_ hk_ => ⟨Nat.le_trans HW_.out hk_.1, fun he_ => absurd hk_.1 (Nat.not_le.2 (HF_.out k_ he_.symm)), ne_typed_ hk_.2 (Kd.N_typed (mN_ HO_13.out)) (by decide), ne_typed_ hk_.2 (Kd.R_typed (mR_ HO_55.out)) (by decide), Nat.ne_of_gt (Nat.lt_of_lt_of_le H8_.out hk_.1), Nat.ne_of_gt (Nat.lt_of_lt_of_le H9_.out hk_.1)⟩)) HW_.out); clear hL_) | ((with_reducible refine gate_builtin (b := .append) (xs := #[.tmp 91, .tmp 95]) rfl ?_); at_builtin; refine Kd.N_append (Kd.slice 44 k44) (w0 := w) w.heap.size rfl (.tmp 91) (.tmp 95) 58 26 (.slice none 0 0) 24 rfl Try.underlying58 info26 rfl (by decide) (by omega) u13 x13_3 (grp x5_1 t561 t561.length (rd y572 x87_3)) [.slice Ao67 (grp x5_1 t561 t561.length (rd y572 x87_3)).length co67] (fun k_ => (w.heap.size ≤ k_) ∧ some k_ ≠ (.slice Ao45 x5_1.length co45 : Value).ownBlock ∧ some k_ ≠ (.slice Ao47 t561.length co47 : Value).ownBlock ∧ k_ ≠ gb548 ∧ k_ ≠ gb549) (fun k_ => ((fun k_ => (w.heap.size ≤ k_) ∧ some k_ ≠ (.slice Ao45 x5_1.length co45 : Value).ownBlock ∧ some k_ ≠ (.slice Ao47 t561.length co47 : Value).ownBlock ∧ k_ ≠ gb548 ∧ k_ ≠ gb549)) k_ ∧ some k_ ≠ (u13 : Value).ownBlock) rfl rfl ?aP (fun _ hk => hk) ?aF ?aO ?aB ?aS ?aL ?_; (case aP => first | exact (Kd.FK_slice_mk (Kd.V_reads' (Kd.V_mono (ok' := (fun k_ => ((fun k_ => (w.heap.size ≤ k_) ∧ some k_ ≠ (.slice Ao45 x5_1.length co45 : Value).ownBlock ∧ some k_ ≠ (.slice Ao47 t561.length co47 : Value).ownBlock ∧ k_ ≠ gb548 ∧ k_ ≠ gb549)) k_ ∧ some k_ ≠ (u13 : Value).ownBlock)) (Kd.V_drewN HO580.out _) (fun k_ hk => ⟨⟨hk.1, ⟨hk.2.1, ⟨hk.2.2.2.1, ⟨hk.2.2.2.2.1, hk.2.2.2.2.2⟩⟩⟩⟩, hk.2.2.1⟩))).2.1 (Kd.V_F (Kd.V_mono (ok' := (fun k_ => ((fun k_ => (w.heap.size ≤ k_) ∧ some k_ ≠ (.slice Ao45 x5_1.length co45 : Value).ownBlock ∧ some k_ ≠ (.slice Ao47 t561.length co47 : Value).ownBlock ∧ k_ ≠ gb548 ∧ k_ ≠ gb549)) k_ ∧ some k_ ≠ (u13 : Value).ownBlock)) (Kd.V_drewN HO580.out _) (fun k_ hk => ⟨⟨hk.1, ⟨hk.2.1, ⟨hk.2.2.2.1, ⟨hk.2.2.2.2.1, hk.2.2.2.2.2⟩⟩⟩⟩, hk.2.2.1⟩)))) | exact (Kd.FK_slice_mk (Kd.V_reads' (Kd.V_mono (ok' := (fun k_ => ((fun k_ => (w.heap.size ≤ k_) ∧ some k_ ≠ (.slice Ao45 x5_1.length co45 : Value).ownBlock ∧ some k_ ≠ (.slice Ao47 t561.length co47 : Value).ownBlock ∧ k_ ≠ gb548 ∧ k_ ≠ gb549)) k_ ∧ some k_ ≠ (u13 : Value).ownBlock)) (HO580.out) (fun k_ hk => ⟨⟨hk.1, ⟨hk.2.1, ⟨hk.2.2.2.1, ⟨hk.2.2.2.2.1, hk.2.2.2.2.2⟩⟩⟩⟩, hk.2.2.1⟩))).2.1 (Kd.V_F (Kd.V_mono (ok' := (fun k_ => ((fun k_ => (w.heap.size ≤ k_) ∧ some k_ ≠ (.slice Ao45 x5_1.length co45 : Value).ownBlock ∧ some k_ ≠ (.slice Ao47 t561.length co47 : Value).ownBlock ∧ k_ ≠ gb548 ∧ k_ ≠ gb549)) k_ ∧ some k_ ≠ (u13 : Value).ownBlock)) (HO580.out) (fun k_ hk => ⟨⟨hk.1, ⟨hk.2.1, ⟨hk.2.2.2.1, ⟨hk.2.2.2.2.1, hk.2.2.2.2.2⟩⟩⟩⟩, hk.2.2.1⟩)))) | exact (Kd.FK_slice_mk (Kd.V_reads' (Kd.V_mono (ok' := (fun k_ => ((fun k_ => (w.heap.size ≤ k_) ∧ some k_ ≠ (.slice Ao45 x5_1.length co45 : Value).ownBlock ∧ some k_ ≠ (.slice Ao47 t561.length co47 : Value).ownBlock ∧ k_ ≠ gb548 ∧ k_ ≠ gb549)) k_ ∧ some k_ ≠ (u13 : Value).ownBlock)) (Kd.V_alloc (Kd.V_drewN HO580.out _) _) (fun k_ hk => ⟨⟨hk.1, ⟨hk.2.1, ⟨hk.2.2.2.1, ⟨hk.2.2.2.2.1, hk.2.2.2.2.2⟩⟩⟩⟩, hk.2.2.1⟩))).2.1 (Kd.V_F (Kd.V_mono (ok' := (fun k_ => ((fun k_ => (w.heap.size ≤ k_) ∧ some k_ ≠ (.slice Ao45 x5_1.length co45 : Value).ownBlock ∧ some k_ ≠ (.slice Ao47 t561.length co47 : Value).ownBlock ∧ k_ ≠ gb548 ∧ k_ ≠ gb549)) k_ ∧ some k_ ≠ (u13 : Value).ownBlock)) (Kd.V_alloc (Kd.V_drewN HO580.out _) _) (fun k_ hk => ⟨⟨hk.1, ⟨hk.2.1, ⟨hk.2.2.2.1, ⟨hk.2.2.2.2.1, hk.2.2.2.2.2⟩⟩⟩⟩, hk.2.2.1⟩)))) | (have h2_ := Kd.V_mono (ok' := (fun k_ => ((fun k_ => (w.heap.size ≤ k_) ∧ some k_ ≠ (.slice Ao45 x5_1.length co45 : Value).ownBlock ∧ some k_ ≠ (.slice Ao47 t561.length co47 : Value).ownBlock ∧ k_ ≠ gb548 ∧ k_ ≠ gb549)) k_ ∧ some k_ ≠ (u13 : Value).ownBlock)) (Kd.V_drewN HO580.out nd) (fun k_ hk => ⟨⟨hk.1, ⟨hk.2.1, ⟨hk.2.2.2.1, ⟨hk.2.2.2.2.1, hk.2.2.2.2.2⟩⟩⟩⟩, hk.2.2.1⟩); exact Kd.FK_slice_mk (Kd.V_reads' h2_).2.1 (Kd.V_F h2_))); (case aB => exact (zt GE548.out GE549.out)); (case aF => exact (fun k_ hk => ⟨(Nat.le_trans (below_size (zt GE548.out GE549.out)) hk), Kd.fresh' (Kd.R_lt (mR_ HO_5.out)) k_ hk, Kd.fresh' (Kd.R_lt (mR_ HO_55.out)) k_ hk, Kd.freshB (g := gb548) (o := .cells #[.int .i64 t544, .int .i64 t545] 44 (0, 0)) (mB_ BK548.out) k_ hk, Kd.freshB (g := gb549) (o := .cells #[.int .i64 t546, .int .i64 t547] 44 (0, 0)) (mB_ BK549.out) k_ hk⟩)); (case aO => exact (mN_ HO_13.out)); (case aS => exact (below_size (zt GE548.out GE549.out))); (case aL => have := LMc64.out; omega); intro v582 w66 ho hb hg hat; rw [← Ny581.out] at ho; have m0_ := aM (gm_over (by (with_reducible repeat (first | apply gm_alloc | apply gm_drewN | apply gm_drew)); exact HM.out) hg (Kd.N_typed (mN_ HO_13.out)) (by decide)); clear HM; have HM := m0_; clear m0_; have n0_ := aM (Kd.R_over' (mR_ HO_5.out) (Kd.N_typed (mN_ HO_13.out)) (by decide) hg); have n1_ := aM (Kd.R_over' (mR_ HO_55.out) (Kd.N_typed (mN_ HO_13.out)) (by decide) hg); have n2_ := aM (Kd.V_afterv (ok := (fun k_ => (w.heap.size ≤ k_) ∧ some k_ ≠ (.slice Ao45 x5_1.length co45 : Value).ownBlock ∧ some k_ ≠ (.slice Ao47 t561.length co47 : Value).ownBlock ∧ k_ ≠ gb548 ∧ k_ ≠ gb549)) (zd12 HO_85.out) hg hat); have n3_ := aM (blk_grown (g := gb548) (o := .cells #[.int .i64 t544, .int .i64 t545] 44 (0, 0)) (mB_ BK548.out) hg (Kd.N_ne HO_13.out BK548.out (by decide))); have n4_ := aM (blk_grown (g := gb549) (o := .cells #[.int .i64 t546, .int .i64 t547] 44 (0, 0)) (mB_ BK549.out) hg (Kd.N_ne HO_13.out BK549.out (by decide))); have n5_ := aM (Kd.V_afterv (ok := (fun k_ => (w.heap.size ≤ k_) ∧ some k_ ≠ (.slice Ao45 x5_1.length co45 : Value).ownBlock ∧ some k_ ≠ (.slice Ao47 t561.length co47 : Value).ownBlock ∧ k_ ≠ gb548 ∧ k_ ≠ gb549)) (zd12 HO580.out) hg hat); have n6_ := aM (hb); have n7_ := aM (ho); clear HO_5 HO_55 HO_85 BK548 BK549 HO580 HB HO_13; have HO_5 := n0_; have HO_55 := n1_; have HO_85 := n2_; have BK548 := n3_; have BK549 := n4_; have HO580 := n5_; have HB := n6_; have HO583 := n7_; clear n0_ n1_ n2_ n3_ n4_ n5_ n6_ n7_; clear ho hb hg hat)))
        go_roundg k3
        case measure => have := HK1.out; have := HK2.out; have := HK3.out; omega
        case rel => exact ⟨(y581), (wrap64 (x87_3 + 1)), zr, H', ⟨by have := HK1.out; have := HK2.out; have := HK3.out; omega⟩, ⟨mR_ HO_5.out⟩, ⟨mN_ HO583.out⟩, ⟨mR_ HO_55.out⟩, ⟨zd13 HO_85.out⟩, ⟨mB_ BK548.out⟩, ⟨mB_ BK549.out⟩, ⟨zt GE548.out GE549.out⟩, ⟨(by (with_reducible repeat (first | apply gm_alloc | apply gm_drewN | apply gm_drew)); exact HM.out)⟩⟩
     rw [if_pos c48] at H
     have c48b0 : decide (x57_2 < (t561.length : Int)) = true := decide_eq_true c48
     clear c48
     by_cases c49 : 0 ≤ x57_2
     rotate_left
     ·rw [if_neg c49] at H
      exact absurd H (by simp)
     rw [if_pos c49] at H
     have c49b0 : decide (0 ≤ x57_2) = true := decide_eq_true c49
     clear c49
     by_cases c50 : x57_2 < (t561.length : Int)
     rotate_left
     ·rw [if_neg c50] at H
      exact absurd H (by simp)
     rw [if_pos c50] at H
     have c50b0 : decide (x57_2 < (t561.length : Int)) = true := decide_eq_true c50
     clear c50
     replace H := Option.bind_eq_some_iff.mp H
     obtain ⟨t565, A510, H⟩ := H
     replace H : (if t565 = 0 then (if x10_2.length < 17592186044416 then (impl_holes.l2 k2 x5_1 (x10_2 ++ [rd t561 x57_2]) t561 (t561.length : Int) (wrap64 (x57_2 + 1))) else (none)) else (impl_holes.l2 k2 x5_1 x10_2 t561 (t561.length : Int) (wrap64 (x57_2 + 1)))) = some r := H
     have A51 := aM A510
     clear A510
     obtain ⟨hwf_, hlen_, hi0_, hi1_, hpl_⟩ := holesLen_open A51.out
     have HWF := aM hwf_
     have HFI := aM (And.intro hi0_ hi1_)
     have HPL := aM hpl_
     clear hwf_ hi0_ hi1_ hpl_
     subst hlen_
     by_cases c52 : ((grp x5_1 t561 x57_2.toNat (rd t561 x57_2)).length : Int) = 0
     rotate_left
     ·rw [if_neg c52] at H
      have c52b0 : (((grp x5_1 t561 x57_2.toNat (rd t561 x57_2)).length : Int) == 0) = false := beq_eq_false_iff_ne.mpr c52
      have c52b1 : (((grp x5_1 t561 x57_2.toNat (rd t561 x57_2)).length : Int) != 0) = true := bne_iff_ne.mpr c52
      have H' := aM H
      clear H
      have p564 : 0 ≤ (x57_2 : Int) := of_decide_eq_true za
      have q564 : x57_2 < (t561.length : Int) := of_decide_eq_true za
      obtain ⟨ad564, e564, hx564_0⟩ := Kd.at_int (Kd.R_reads' HO_55.out).2.2 x57_2 p564 q564
      cases e564
      replace p564 := eq_true p564
      replace q564 := eq_true q564
      go_wp2_with (first | ((with_reducible refine gate_dst (N := 64) rfl ?_); refine gm_look rfl _ _ rfl rfl (by (with_reducible repeat (first | apply gm_alloc | apply gm_drewN | apply gm_drew)); exact HM.out) (rd t561 x57_2) HWF.out rfl ?_; intro AL_ cL_ hL_; clear hL_))
      repeat (go_quiet (first | ((with_reducible refine gate_dst (N := 64) rfl ?_); refine gm_look rfl _ _ rfl rfl (by (with_reducible repeat (first | apply gm_alloc | apply gm_drewN | apply gm_drew)); exact HM.out) (rd t561 x57_2) HWF.out rfl ?_; intro AL_ cL_ hL_; clear hL_)); try go_wp2_with (first | ((with_reducible refine gate_dst (N := 64) rfl ?_); refine gm_look rfl _ _ rfl rfl (by (with_reducible repeat (first | apply gm_alloc | apply gm_drewN | apply gm_drew)); exact HM.out) (rd t561 x57_2) HWF.out rfl ?_; intro AL_ cL_ hL_; clear hL_)))
      obtain ⟨V9, f9, hD9, hG9⟩ := HM.out
      have hR9 := hG9 (rd t561 x57_2)
      obtain ⟨A9, c9, eV9⟩ := Kd.R_slice hR9
      rw [eV9] at hR9
      have hF9 := HFI.out
      obtain ⟨ad9, e9, hx9_0, hx9_1⟩ := at_T44 (Kd.R_reads' HO_5.out).2.2 x57_2 hF9.1 hF9.2
      cases e9
      have pF9 := eq_true hF9.1
      have qF9 : (x57_2 < (x5_1.length : Int)) = True := eq_true hF9.2
      refine start_ (n := 12) (S := fun w' => w'.cell? (ad9.add (x57_2.toNat * 2)) = some (.int .i64 (rd_T44 x5_1 x57_2).f0) ∧ w'.cell? ⟨(ad9.add (x57_2.toNat * 2)).block, (ad9.add (x57_2.toNat * 2)).off + 1, none⟩ = some (.int .i64 (rd_T44 x5_1 x57_2).f1) ∧ GD w' bm x57_2.toNat V9) (ds := [11]) zA86 (by kernel_rfl) rfl rfl ⟨hx9_0, hx9_1, by first | exact gd_below hD9 (below_drew1 (Below.refl _ _)) | exact gd_below hD9 (below_drew1 (pw_below_drewN (Below.refl _ _) _))⟩ (fun hHeld => ?_)
      refine pure_ (i := 0) (N := some 71) (v := ?_) (a' := ?_) zA87 rfl rfl (by kernel_rfl) (fun _ _ _ h => h) (Or.inl ⟨by rfl, ?_⟩) ?_ ?_
      rotate_left
      ·intro w'
       go_simp
       with_reducible rfl
      rotate_left
      ·simp only [Act.put, xA, xB, xC, i64_w, i32_w]
       rfl
      refine pure_ (i := 1) (N := some 72) (v := ?_) (a' := ?_) zA88 rfl rfl (by kernel_rfl) (fun _ _ _ h => h) (Or.inl ⟨by rfl, ?_⟩) ?_ ?_
      rotate_left
      ·intro w'
       go_simp
       with_reducible rfl
      rotate_left
      ·simp only [Act.put, xA, xB, xC, i64_w, i32_w]
       rfl
      refine pure_ (i := 2) (N := some 73) (v := ?_) (a' := ?_) zA89 rfl rfl (by kernel_rfl) (fun _ _ _ h => h) (Or.inl ⟨by rfl, ?_⟩) ?_ ?_
      rotate_left
      ·intro w'
       go_simp
       with_reducible rfl
      rotate_left
      ·simp only [Act.put, xA, xB, xC, i64_w, i32_w]
       rfl
      refine pure_ (i := 3) (N := some 74) (v := ?_) (a' := ?_) zA90 rfl rfl (by kernel_rfl) (fun _ _ _ h => h) (Or.inl ⟨by rfl, ?_⟩) ?_ ?_
      rotate_left
      ·intro w'
       go_simp
       with_reducible rfl
      rotate_left
      ·simp only [Act.put, xA, xB, xC, i64_w, i32_w]
       rfl
      refine take_ (i := 4) (N := some 75) (v := ?_) (a' := ?_) zA91 rfl rfl (by kernel_rfl) (fun _ _ _ h => h) (Or.inl ⟨by rfl, ?_⟩) hHeld ?_ ?_
      rotate_left
      ·rintro w' ⟨s0, s1, s2⟩
       have hr9 := gd_run s2 (rd t561 x57_2) HWF.out
       rw [eV9] at hr9
       rw [look_run (bm := bm) (k := (rd t561 x57_2)) _ _ rfl rfl rfl hr9]
      rotate_left
      ·simp only [Act.put, xA, xB, xC, i64_w, i32_w]
       rfl
      refine pure_ (i := 5) (N := some 76) (v := ?_) (a' := ?_) zA92 rfl rfl (by kernel_rfl) (fun _ _ _ h => h) (Or.inl ⟨by rfl, ?_⟩) ?_ ?_
      rotate_left
      ·intro w'
       go_simp
       with_reducible rfl
      rotate_left
      ·simp only [Act.put, xA, xB, xC, i64_w, i32_w]
       rfl
      refine pure_ (i := 6) (N := some 77) (v := ?_) (a' := ?_) zA93 rfl rfl (by kernel_rfl) (fun _ _ _ h => h) (Or.inl ⟨by rfl, ?_⟩) ?_ ?_
      rotate_left
      ·intro w'
       go_simp
       with_reducible rfl
      rotate_left
      ·simp only [Act.put, xA, xB, xC, i64_w, i32_w]
       rfl
      refine pure_ (i := 7) (N := some 78) (v := ?_) (a' := ?_) zA94 rfl rfl (by kernel_rfl) (fun _ _ _ h => h) (Or.inl ⟨by rfl, ?_⟩) ?_ ?_
      rotate_left
      ·intro w'
       go_simp
       with_reducible rfl
      rotate_left
      ·simp only [Act.put, xA, xB, xC, i64_w, i32_w]
       rfl
      refine take_ (i := 8) (N := some 79) (v := ?_) (a' := ?_) zA95 rfl rfl (by kernel_rfl) (fun _ _ _ h => h) (Or.inl ⟨by rfl, ?_⟩) hHeld ?_ ?_
      rotate_left
      ·rintro w' ⟨s0, s1, s2⟩
       go_simp
       with_reducible rfl
      rotate_left
      ·simp only [Act.put, xA, xB, xC, i64_w, i32_w]
       rfl
      refine one_ (i := 9) (N := some 80) zA96 rfl rfl (by kernel_rfl) (by decide) (fun K hK => ?_)
      refine Kd.R_lit_step k44 _ 44 ?hg (N := 80) ?hd (xs := ([(⟨(rd_T44 x5_1 x57_2).f0, (rd_T44 x5_1 x57_2).f1⟩ : S44)] : List (S44))) (inner := [.int .i64 (rd_T44 x5_1 x57_2).f0, .int .i64 (rd_T44 x5_1 x57_2).f1]) (ok := fun _ => True) (okp := fun _ => True) ?hr ?hp (fun _ hk => hk) trivial (Below.refl _ _) (Nat.le_refl _) (by simp) ?_; (case hd => rfl); (case hg => rfl); (case hr => first | (go_simp; done) | (go_simp; rfl)); (case hp => exact (Reps.c2 (show Kd.M k44 _ _ _ (⟨(rd_T44 x5_1 x57_2).f0, (rd_T44 x5_1 x57_2).f1⟩ : S44) [.int .i64 (rd_T44 x5_1 x57_2).f0, .int .i64 (rd_T44 x5_1 x57_2).f1] from (k44_mkM _ _ _ (⟨(rd_T44 x5_1 x57_2).f0, (rd_T44 x5_1 x57_2).f1⟩ : S44) )) (Reps.none _ _)))
      intro v9_ w9_ ho9_ hb hg_ hnew_
      clear hg_ hnew_
      have n0_ := aM (Kd.R_below (mR_ HO_5.out) hb)
      have n1_ := aM (Kd.R_below (mR_ HO_10.out) hb)
      have n2_ := aM (Kd.R_below (mR_ HO_55.out) hb)
      have n3_ := aM (blk_below (g := gb548) (o := .cells #[.int .i64 t544, .int .i64 t545] 44 (0, 0)) (mB_ BK548.out) hb)
      have n4_ := aM (blk_below (g := gb549) (o := .cells #[.int .i64 t546, .int .i64 t547] 44 (0, 0)) (mB_ BK549.out) hb)
      have n5_ := aM (below_step (zt GE548.out GE549.out) hb)
      skip
      have HS0_ := zk hb hHeld.1
      have HS1_ := zk hb hHeld.2.1
      have HS2_ := gd_below hHeld.2.2 hb
      have n7_ : GR w9_ N0_ (fun b_ => N0_ ≤ b_) f9 V9 (fun k_ => grp x5_1 t561 x57_2.toNat k_) := gr_below (by first | exact gr_below hG9 (below_drew1 (Below.refl _ _)) | exact gr_below hG9 (below_drew1 (pw_below_drewN (Below.refl _ _) _))) hb
      have n8_ := aM ho9_
      clear HO_5 HO_10 HO_55 BK548 BK549 HB HM hG9 hR9
      have HO_5 := n0_
      have HO_10 := n1_
      have HO_55 := n2_
      have BK548 := n3_
      have BK549 := n4_
      have HB := n5_
      have hG9 := n7_
      have HY9 := n8_
      clear n0_ n1_ n2_ n3_ n4_ n5_ n7_ n8_ hb ho9_
      obtain ⟨Ay9, cy9, ey9⟩ := Kd.R_slice HY9.out
      subst ey9
      refine hK.out _ _ ⟨HS0_, HS1_, HS2_⟩ (fun hHeld => ?_)
      clear hK K
      refine norm_ (a' := ?_) ?_ ?_
      rotate_left
      ·show Act.put _ (some 80) _ = _
       simp only [Act.put, xA, xB, xC, i64_w, i32_w]
       rfl
      refine one_ (i := 10) (N := some 81) zA97 rfl rfl (by kernel_rfl) (by decide) (fun K hK => ?_)
      have hR9 := hG9 (rd t561 x57_2)
      rw [eV9] at hR9
      have hbm9_ := Nat.lt_of_le_of_lt HMB.out (gd_lt hHeld.2.2)
      refine Kd.R_append_rows_step k44 (w0 := w9_) N0_ (by rfl) (.tmp 75) (.tmp 80) 26 44 (.agg #[(.int .i64 0), (.int .i64 0)]) 16 rfl Try.underlying26 info44 rfl (by decide) (by omega) (.slice A9 (grp x5_1 t561 x57_2.toNat (rd t561 x57_2)).length c9) (grp x5_1 t561 x57_2.toNat (rd t561 x57_2)) [(⟨(rd_T44 x5_1 x57_2).f0, (rd_T44 x5_1 x57_2).f1⟩ : S44)] _ _ _ (fun b_ => N0_ ≤ b_) (fun _ => False) rfl rfl ?aO ?aR (fun _ _ h => h) (fun _ h => h.elim) ?aF ?aB ?aS ?aL ?_
      (case aR => exact (Kd.R_reads' HY9.out).2.2)
      (case aB => exact Below.refl _ _)
      (case aF => exact fun b_ hb_ => Nat.le_trans (Nat.le_of_lt hbm9_) hb_)
      (case aO => exact Kd.R_mono hR9 (fun _ h_ => h_.1))
      (case aS => exact Nat.le_of_lt hbm9_)
      (case aL => have hl9_ := grp_len x5_1 t561 x57_2.toNat (rd t561 x57_2); have := HI.out; have := HPL.out; simp only [List.length_singleton]; omega)
      intro v10_ w10_ ho10_ hb hg hat
      have hne9_ := gd_row hHeld.2.2 hR9
      have n0_ := aM (R_keep9 rfl (mR_ HO_5.out) hg (fun b_ hb_ he_ => absurd (hR9.1 b_ he_.symm).1 (Nat.not_le.2 (HF_.out b_ hb_))))
      have n1_ := aM (Kd.R_over' (mR_ HO_10.out) (Kd.R_typed hR9) (by decide) hg)
      have n2_ := aM (Kd.R_over' (mR_ HO_55.out) (Kd.R_typed hR9) (by decide) hg)
      have n3_ := aM (blk_grown (g := gb548) (o := .cells #[.int .i64 t544, .int .i64 t545] 44 (0, 0)) (mB_ BK548.out) hg (fun he_ => absurd (hR9.1 gb548 he_.symm).1 (Nat.not_le.2 H8_.out)))
      have n4_ := aM (blk_grown (g := gb549) (o := .cells #[.int .i64 t546, .int .i64 t547] 44 (0, 0)) (mB_ BK549.out) hg (fun he_ => absurd (hR9.1 gb549 he_.symm).1 (Nat.not_le.2 H9_.out)))
      have n5_ := aM (pw_below_grown (zt GE548.out GE549.out) _ (below_size (zt GE548.out GE549.out)) hg (fun b_ hb_ => Nat.le_trans HW_.out (hR9.1 b_ hb_).1))
      have HS0_ := cell_grown9_ hg hHeld.1 (fun he_ => absurd (hR9.1 _ he_.symm).1 (Nat.not_le.2 (HF_.out _ (congrArg some (add_block _ _).symm))))
      have HS1_ := cell_grown9_ hg hHeld.2.1 (fun he_ => absurd (hR9.1 _ he_.symm).1 (Nat.not_le.2 (HF_.out _ (congrArg some (add_block _ _).symm))))
      have HS2_ := gd_kept hHeld.2.2 hg hne9_
      obtain ⟨f10, hG10⟩ := gr_app (k := (rd t561 x57_2)) hG9 (by rw [eV9]; exact hg) (by rw [eV9]; exact hat) (fun b_ hb_ => Nat.le_trans (Nat.le_of_lt hbm9_) hb_) ho10_
      clear HO_5 HO_10 HO_55 BK548 BK549 HB hG9 hR9 HY9 ho10_ hat hg hb
      have HO_5 := n0_
      have HO_10 := n1_
      have HO_55 := n2_
      have BK548 := n3_
      have BK549 := n4_
      have HB := n5_
      clear n0_ n1_ n2_ n3_ n4_ n5_
      refine hK.out _ _ ⟨HS0_, HS1_, HS2_⟩ (fun hHeld => ?_)
      clear hK K
      refine norm_ (a' := ?_) ?_ ?_
      rotate_left
      ·show Act.put _ (some 81) _ = _
       simp only [Act.put, xA, xB, xC, i64_w, i32_w]
       rfl
      refine last_ (i := 11) (N := none) zA98 rfl rfl (by kernel_rfl) (by decide) (fun K hK => ?_)
      refine gd_put_step (m := x57_2.toNat) (V := V9) (by rfl) (.tmp 71) (.tmp 72) (.tmp 81) rfl rfl hHeld.2.2 (by have := HI.out; have := HPL.out; show _ < 9223372036854775807; omega) (rd t561 x57_2) HWF.out rfl v10_ rfl ?_
      intro w11_ hg hD11
      have n0_ := aM (R_map9 rfl (mR_ HO_5.out) hHeld.2.2 hg)
      have n1_ := aM (R_map9 rfl (mR_ HO_10.out) hHeld.2.2 hg)
      have n2_ := aM (R_map9 rfl (mR_ HO_55.out) hHeld.2.2 hg)
      have n3_ := aM (blk_map9 (g := gb548) (cs := #[.int .i64 t544, .int .i64 t545]) (t := 44) (mB_ BK548.out) hHeld.2.2 hg)
      have n4_ := aM (blk_map9 (g := gb549) (cs := #[.int .i64 t546, .int .i64 t547]) (t := 44) (mB_ BK549.out) hHeld.2.2 hg)
      have n5_ := aM (pw_below_grown (zt GE548.out GE549.out) _ (below_size (zt GE548.out GE549.out)) hg (fun b_ hb_ => Option.some.inj hb_ ▸ Nat.le_trans HW_.out HMB.out))
      have hG11 := gr_map hG10 hHeld.2.2 hg
      have HLT9 := of_eq_true ‹(x57_2 < (t561.length : Int)) = True›
      have HM := aM (gm_next HI.out.1 HLT9 HPL.out ⟨_, f10, hD11, hG11⟩)
      have HI9 := aM (And.intro (show 0 ≤ wrap64 (x57_2 + 1) by rw [(up1_ HI.out.1 HI.out.2 (by have := HPL.out; omega)).1]; have := HI.out.1; omega) (show wrap64 (x57_2 + 1) ≤ (t561.length : Int) by rw [(up1_ HI.out.1 HI.out.2 (by have := HPL.out; omega)).1]; omega))
      clear HO_5 HO_10 HO_55 BK548 BK549 HB
      have HO_5 := n0_
      have HO_10 := n1_
      have HO_55 := n2_
      have BK548 := n3_
      have BK549 := n4_
      have HB := n5_
      clear n0_ n1_ n2_ n3_ n4_ n5_
      refine hK.out _ _ ?_
      clear hK K
      refine norm_ (a' := ?_) ?_ ?_
      rotate_left
      ·show Act.put _ none _ = _
       simp only [Act.put, xA, xB, xC, i64_w, i32_w]
       rfl
      refine done_ (by kernel_rfl) ?_
      go_wp2
      go_roundg k2
      case measure => have := HK1.out; have := HK2.out; omega
      case rel => exact ⟨(x10_2), (wrap64 (x57_2 + 1)), zr, H', ⟨by have := HK1.out; have := HK2.out; omega⟩, ⟨mR_ HO_5.out⟩, ⟨mR_ HO_10.out⟩, ⟨mR_ HO_55.out⟩, ⟨mB_ BK548.out⟩, ⟨mB_ BK549.out⟩, ⟨zt GE548.out GE549.out⟩, ⟨HM.out⟩, ⟨HI9.out⟩⟩
     rw [if_pos c52] at H
     have c52b0 : (((grp x5_1 t561 x57_2.toNat (rd t561 x57_2)).length : Int) == 0) = true := beq_iff_eq.mpr c52
     have c52b1 : (((grp x5_1 t561 x57_2.toNat (rd t561 x57_2)).length : Int) != 0) = false := bne_eq_false_iff_eq.mpr c52
     clear c52
     by_cases c53 : x10_2.length < 17592186044416
     rotate_left
     ·rw [if_neg c53] at H
      exact absurd H (by simp)
     rw [if_pos c53] at H
     have LMc53 := aM c53
     clear c53
     obtain ⟨y566, hy566⟩ : ∃ y_ : List Int, y_ = (x10_2 ++ [rd t561 x57_2]) := ⟨_, rfl⟩
     replace H : (impl_holes.l2 k2 x5_1 y566 t561 (t561.length : Int) (wrap64 (x57_2 + 1))) = some r := zy H hy566
     have Ny566 := aM hy566
     clear hy566
     have H' := aM H
     clear H
     have p564 : 0 ≤ (x57_2 : Int) := of_decide_eq_true za
     have q564 : x57_2 < (t561.length : Int) := of_decide_eq_true za
     obtain ⟨ad564, e564, hx564_0⟩ := Kd.at_int (Kd.R_reads' HO_55.out).2.2 x57_2 p564 q564
     cases e564
     replace p564 := eq_true p564
     replace q564 := eq_true q564
     go_wp2_with (first | ((with_reducible refine gate_dst (N := 64) rfl ?_); refine gm_look rfl _ _ rfl rfl (by (with_reducible repeat (first | apply gm_alloc | apply gm_drewN | apply gm_drew)); exact HM.out) (rd t561 x57_2) HWF.out rfl ?_; intro AL_ cL_ hL_; clear hL_) | ((with_reducible refine gate_builtin (b := .append) (xs := #[.tmp 67, .tmp 69]) rfl ?_); at_builtin; refine Kd.R_append (Kd.int .i64) (w0 := w) w.heap.size rfl (.tmp 67) (.tmp 69) 33 2 (.int .i64 0) 8 rfl Try.underlying33 info2 rfl (by decide) (by omega) u10 x10_2 (rd t561 x57_2) [.int .i64 (rd t561 x57_2)] (fun k_ => (w.heap.size ≤ k_) ∧ some k_ ≠ (.slice (some ad564) t561.length co47 : Value).ownBlock) (fun _ => False) rfl rfl ?aP (fun _ hk => hk.elim) ?aF ?aO ?aB ?aS ?aL ?_; (case aP => exact rfl); (case aB => exact (zt GE548.out GE549.out)); (case aF => exact (fun k_ hk => ⟨(Nat.le_trans (below_size (zt GE548.out GE549.out)) hk), Kd.fresh' (Kd.R_lt (mR_ HO_55.out)) k_ hk⟩)); (case aO => exact (mR_ HO_10.out)); (case aS => exact (below_size (zt GE548.out GE549.out))); (case aL => have := LMc53.out; omega); intro v567 w54 ho hb hg hat; rw [← Ny566.out] at ho; have m0_ := aM (gm_over (by (with_reducible repeat (first | apply gm_alloc | apply gm_drewN | apply gm_drew)); exact HM.out) hg (Kd.R_typed (mR_ HO_10.out)) (by decide)); clear HM; have HM := m0_; clear m0_; have n0_ := aM (Kd.R_over' (mR_ HO_5.out) (Kd.R_typed (mR_ HO_10.out)) (by decide) hg); have n1_ := aM (Kd.R_after (ok := (fun k_ => (w.heap.size ≤ k_))) (mR_ HO_55.out) hg hat); have n2_ := aM (blk_grown (g := gb548) (o := .cells #[.int .i64 t544, .int .i64 t545] 44 (0, 0)) (mB_ BK548.out) hg (Kd.R_ne HO_10.out BK548.out (by decide))); have n3_ := aM (blk_grown (g := gb549) (o := .cells #[.int .i64 t546, .int .i64 t547] 44 (0, 0)) (mB_ BK549.out) hg (Kd.R_ne HO_10.out BK549.out (by decide))); have n4_ := aM (hb); have n5_ := aM (ho); clear HO_5 HO_55 BK548 BK549 HB HO_10; have HO_5 := n0_; have HO_55 := n1_; have BK548 := n2_; have BK549 := n3_; have HB := n4_; have HO568 := n5_; clear n0_ n1_ n2_ n3_ n4_ n5_; clear ho hb hg hat))
     repeat (go_quiet (first | ((with_reducible refine gate_dst (N := 64) rfl ?_); refine gm_look rfl _ _ rfl rfl (by (with_reducible repeat (first | apply gm_alloc | apply gm_drewN | apply gm_drew)); exact HM.out) (rd t561 x57_2) HWF.out rfl ?_; intro AL_ cL_ hL_; clear hL_) | ((with_reducible refine gate_builtin (b := .append) (xs := #[.tmp 67, .tmp 69]) rfl ?_); at_builtin; refine Kd.R_append (Kd.int .i64) (w0 := w) w.heap.size rfl (.tmp 67) (.tmp 69) 33 2 (.int .i64 0) 8 rfl Try.underlying33 info2 rfl (by decide) (by omega) u10 x10_2 (rd t561 x57_2) [.int .i64 (rd t561 x57_2)] (fun k_ => (w.heap.size ≤ k_) ∧ some k_ ≠ (.slice (some ad564) t561.length co47 : Value).ownBlock) (fun _ => False) rfl rfl ?aP (fun _ hk => hk.elim) ?aF ?aO ?aB ?aS ?aL ?_; (case aP => exact rfl); (case aB => exact (zt GE548.out GE549.out)); (case aF => exact (fun k_ hk => ⟨(Nat.le_trans (below_size (zt GE548.out GE549.out)) hk), Kd.fresh' (Kd.R_lt (mR_ HO_55.out)) k_ hk⟩)); (case aO => exact (mR_ HO_10.out)); (case aS => exact (below_size (zt GE548.out GE549.out))); (case aL => have := LMc53.out; omega); intro v567 w54 ho hb hg hat; rw [← Ny566.out] at ho; have m0_ := aM (gm_over (by (with_reducible repeat (first | apply gm_alloc | apply gm_drewN | apply gm_drew)); exact HM.out) hg (Kd.R_typed (mR_ HO_10.out)) (by decide)); clear HM; have HM := m0_; clear m0_; have n0_ := aM (Kd.R_over' (mR_ HO_5.out) (Kd.R_typed (mR_ HO_10.out)) (by decide) hg); have n1_ := aM (Kd.R_after (ok := (fun k_ => (w.heap.size ≤ k_))) (mR_ HO_55.out) hg hat); have n2_ := aM (blk_grown (g := gb548) (o := .cells #[.int .i64 t544, .int .i64 t545] 44 (0, 0)) (mB_ BK548.out) hg (Kd.R_ne HO_10.out BK548.out (by decide))); have n3_ := aM (blk_grown (g := gb549) (o := .cells #[.int .i64 t546, .int .i64 t547] 44 (0, 0)) (mB_ BK549.out) hg (Kd.R_ne HO_10.out BK549.out (by decide))); have n4_ := aM (hb); have n5_ := aM (ho); clear HO_5 HO_55 BK548 BK549 HB HO_10; have HO_5 := n0_; have HO_55 := n1_; have BK548 := n2_; have BK549 := n3_; have HB := n4_; have HO568 := n5_; clear n0_ n1_ n2_ n3_ n4_ n5_; clear ho hb hg hat)); try go_wp2_with (first | ((with_reducible refine gate_dst (N := 64) rfl ?_); refine gm_look rfl _ _ rfl rfl (by (with_reducible repeat (first | apply gm_alloc | apply gm_drewN | apply gm_drew)); exact HM.out) (rd t561 x57_2) HWF.out rfl ?_; intro AL_ cL_ hL_; clear hL_) | ((with_reducible refine gate_builtin (b := .append) (xs := #[.tmp 67, .tmp 69]) rfl ?_); at_builtin; refine Kd.R_append (Kd.int .i64) (w0 := w) w.heap.size rfl (.tmp 67) (.tmp 69) 33 2 (.int .i64 0) 8 rfl Try.underlying33 info2 rfl (by decide) (by omega) u10 x10_2 (rd t561 x57_2) [.int .i64 (rd t561 x57_2)] (fun k_ => (w.heap.size ≤ k_) ∧ some k_ ≠ (.slice (some ad564) t561.length co47 : Value).ownBlock) (fun _ => False) rfl rfl ?aP (fun _ hk => hk.elim) ?aF ?aO ?aB ?aS ?aL ?_; (case aP => exact rfl); (case aB => exact (zt GE548.out GE549.out)); (case aF => exact (fun k_ hk => ⟨(Nat.le_trans (below_size (zt GE548.out GE549.out)) hk), Kd.fresh' (Kd.R_lt (mR_ HO_55.out)) k_ hk⟩)); (case aO => exact (mR_ HO_10.out)); (case aS => exact (below_size (zt GE548.out GE549.out))); (case aL => have := LMc53.out; omega); intro v567 w54 ho hb hg hat; rw [← Ny566.out] at ho; have m0_ := aM (gm_over (by (with_reducible repeat (first | apply gm_alloc | apply gm_drewN | apply gm_drew)); exact HM.out) hg (Kd.R_typed (mR_ HO_10.out)) (by decide)); clear HM; have HM := m0_; clear m0_; have n0_ := aM (Kd.R_over' (mR_ HO_5.out) (Kd.R_typed (mR_ HO_10.out)) (by decide) hg); have n1_ := aM (Kd.R_after (ok := (fun k_ => (w.heap.size ≤ k_))) (mR_ HO_55.out) hg hat); have n2_ := aM (blk_grown (g := gb548) (o := .cells #[.int .i64 t544, .int .i64 t545] 44 (0, 0)) (mB_ BK548.out) hg (Kd.R_ne HO_10.out BK548.out (by decide))); have n3_ := aM (blk_grown (g := gb549) (o := .cells #[.int .i64 t546, .int .i64 t547] 44 (0, 0)) (mB_ BK549.out) hg (Kd.R_ne HO_10.out BK549.out (by decide))); have n4_ := aM (hb); have n5_ := aM (ho); clear HO_5 HO_55 BK548 BK549 HB HO_10; have HO_5 := n0_; have HO_55 := n1_; have BK548 := n2_; have BK549 := n3_; have HB := n4_; have HO568 := n5_; clear n0_ n1_ n2_ n3_ n4_ n5_; clear ho hb hg hat)))
     obtain ⟨V9, f9, hD9, hG9⟩ := HM.out
     have hR9 := hG9 (rd t561 x57_2)
     obtain ⟨A9, c9, eV9⟩ := Kd.R_slice hR9
     rw [eV9] at hR9
     have hF9 := HFI.out
     obtain ⟨ad9, e9, hx9_0, hx9_1⟩ := at_T44 (Kd.R_reads' HO_5.out).2.2 x57_2 hF9.1 hF9.2
     cases e9
     have pF9 := eq_true hF9.1
     have qF9 : (x57_2 < (x5_1.length : Int)) = True := eq_true hF9.2
     refine start_ (n := 12) (S := fun w' => w'.cell? (ad9.add (x57_2.toNat * 2)) = some (.int .i64 (rd_T44 x5_1 x57_2).f0) ∧ w'.cell? ⟨(ad9.add (x57_2.toNat * 2)).block, (ad9.add (x57_2.toNat * 2)).off + 1, none⟩ = some (.int .i64 (rd_T44 x5_1 x57_2).f1) ∧ GD w' bm x57_2.toNat V9) (ds := [11]) zA86 (by kernel_rfl) rfl rfl ⟨hx9_0, hx9_1, by first | exact gd_below hD9 (below_drew1 (Below.refl _ _)) | exact gd_below hD9 (below_drew1 (pw_below_drewN (Below.refl _ _) _))⟩ (fun hHeld => ?_)
     refine pure_ (i := 0) (N := some 71) (v := ?_) (a' := ?_) zA87 rfl rfl (by kernel_rfl) (fun _ _ _ h => h) (Or.inl ⟨by rfl, ?_⟩) ?_ ?_
     rotate_left
     ·intro w'
      go_simp
      with_reducible rfl
     rotate_left
     ·simp only [Act.put, xA, xB, xC, i64_w, i32_w]
      rfl
     refine pure_ (i := 1) (N := some 72) (v := ?_) (a' := ?_) zA88 rfl rfl (by kernel_rfl) (fun _ _ _ h => h) (Or.inl ⟨by rfl, ?_⟩) ?_ ?_
     rotate_left
     ·intro w'
      go_simp
      with_reducible rfl
     rotate_left
     ·simp only [Act.put, xA, xB, xC, i64_w, i32_w]
      rfl
     refine pure_ (i := 2) (N := some 73) (v := ?_) (a' := ?_) zA89 rfl rfl (by kernel_rfl) (fun _ _ _ h => h) (Or.inl ⟨by rfl, ?_⟩) ?_ ?_
     rotate_left
     ·intro w'
      go_simp
      with_reducible rfl
     rotate_left
     ·simp only [Act.put, xA, xB, xC, i64_w, i32_w]
      rfl
     refine pure_ (i := 3) (N := some 74) (v := ?_) (a' := ?_) zA90 rfl rfl (by kernel_rfl) (fun _ _ _ h => h) (Or.inl ⟨by rfl, ?_⟩) ?_ ?_
     rotate_left
     ·intro w'
      go_simp
      with_reducible rfl
     rotate_left
     ·simp only [Act.put, xA, xB, xC, i64_w, i32_w]
      rfl
     refine take_ (i := 4) (N := some 75) (v := ?_) (a' := ?_) zA91 rfl rfl (by kernel_rfl) (fun _ _ _ h => h) (Or.inl ⟨by rfl, ?_⟩) hHeld ?_ ?_
     rotate_left
     ·rintro w' ⟨s0, s1, s2⟩
      have hr9 := gd_run s2 (rd t561 x57_2) HWF.out
      rw [eV9] at hr9
      rw [look_run (bm := bm) (k := (rd t561 x57_2)) _ _ rfl rfl rfl hr9]
     rotate_left
     ·simp only [Act.put, xA, xB, xC, i64_w, i32_w]
      rfl
     refine pure_ (i := 5) (N := some 76) (v := ?_) (a' := ?_) zA92 rfl rfl (by kernel_rfl) (fun _ _ _ h => h) (Or.inl ⟨by rfl, ?_⟩) ?_ ?_
     rotate_left
     ·intro w'
      go_simp
      with_reducible rfl
     rotate_left
     ·simp only [Act.put, xA, xB, xC, i64_w, i32_w]
      rfl
     refine pure_ (i := 6) (N := some 77) (v := ?_) (a' := ?_) zA93 rfl rfl (by kernel_rfl) (fun _ _ _ h => h) (Or.inl ⟨by rfl, ?_⟩) ?_ ?_
     rotate_left
     ·intro w'
      go_simp
      with_reducible rfl
     rotate_left
     ·simp only [Act.put, xA, xB, xC, i64_w, i32_w]
      rfl
     refine pure_ (i := 7) (N := some 78) (v := ?_) (a' := ?_) zA94 rfl rfl (by kernel_rfl) (fun _ _ _ h => h) (Or.inl ⟨by rfl, ?_⟩) ?_ ?_
     rotate_left
     ·intro w'
      go_simp
      with_reducible rfl
     rotate_left
     ·simp only [Act.put, xA, xB, xC, i64_w, i32_w]
      rfl
     refine take_ (i := 8) (N := some 79) (v := ?_) (a' := ?_) zA95 rfl rfl (by kernel_rfl) (fun _ _ _ h => h) (Or.inl ⟨by rfl, ?_⟩) hHeld ?_ ?_
     rotate_left
     ·rintro w' ⟨s0, s1, s2⟩
      go_simp
      with_reducible rfl
     rotate_left
     ·simp only [Act.put, xA, xB, xC, i64_w, i32_w]
      rfl
     refine one_ (i := 9) (N := some 80) zA96 rfl rfl (by kernel_rfl) (by decide) (fun K hK => ?_)
     refine Kd.R_lit_step k44 _ 44 ?hg (N := 80) ?hd (xs := ([(⟨(rd_T44 x5_1 x57_2).f0, (rd_T44 x5_1 x57_2).f1⟩ : S44)] : List (S44))) (inner := [.int .i64 (rd_T44 x5_1 x57_2).f0, .int .i64 (rd_T44 x5_1 x57_2).f1]) (ok := fun _ => True) (okp := fun _ => True) ?hr ?hp (fun _ hk => hk) trivial (Below.refl _ _) (Nat.le_refl _) (by simp) ?_; (case hd => rfl); (case hg => rfl); (case hr => first | (go_simp; done) | (go_simp; rfl)); (case hp => exact (Reps.c2 (show Kd.M k44 _ _ _ (⟨(rd_T44 x5_1 x57_2).f0, (rd_T44 x5_1 x57_2).f1⟩ : S44) [.int .i64 (rd_T44 x5_1 x57_2).f0, .int .i64 (rd_T44 x5_1 x57_2).f1] from (k44_mkM _ _ _ (⟨(rd_T44 x5_1 x57_2).f0, (rd_T44 x5_1 x57_2).f1⟩ : S44) )) (Reps.none _ _)))
     intro v9_ w9_ ho9_ hb hg_ hnew_
     clear hg_ hnew_
     have n0_ := aM (Kd.R_below (mR_ HO_5.out) hb)
     have n1_ := aM (Kd.R_below (mR_ HO568.out) hb)
     have n2_ := aM (Kd.R_below (mR_ HO_55.out) hb)
     have n3_ := aM (blk_below (g := gb548) (o := .cells #[.int .i64 t544, .int .i64 t545] 44 (0, 0)) (mB_ BK548.out) hb)
     have n4_ := aM (blk_below (g := gb549) (o := .cells #[.int .i64 t546, .int .i64 t547] 44 (0, 0)) (mB_ BK549.out) hb)
     have n5_ := aM (below_step (zt GE548.out GE549.out) hb)
     skip
     have HS0_ := zk hb hHeld.1
     have HS1_ := zk hb hHeld.2.1
     have HS2_ := gd_below hHeld.2.2 hb
     have n7_ : GR w9_ N0_ (fun b_ => N0_ ≤ b_) f9 V9 (fun k_ => grp x5_1 t561 x57_2.toNat k_) := gr_below (by first | exact gr_below hG9 (below_drew1 (Below.refl _ _)) | exact gr_below hG9 (below_drew1 (pw_below_drewN (Below.refl _ _) _))) hb
     have n8_ := aM ho9_
     clear HO_5 HO568 HO_55 BK548 BK549 HB HM hG9 hR9
     have HO_5 := n0_
     have HO568 := n1_
     have HO_55 := n2_
     have BK548 := n3_
     have BK549 := n4_
     have HB := n5_
     have hG9 := n7_
     have HY9 := n8_
     clear n0_ n1_ n2_ n3_ n4_ n5_ n7_ n8_ hb ho9_
     obtain ⟨Ay9, cy9, ey9⟩ := Kd.R_slice HY9.out
     subst ey9
     refine hK.out _ _ ⟨HS0_, HS1_, HS2_⟩ (fun hHeld => ?_)
     clear hK K
     refine norm_ (a' := ?_) ?_ ?_
     rotate_left
     ·show Act.put _ (some 80) _ = _
      simp only [Act.put, xA, xB, xC, i64_w, i32_w]
      rfl
     refine one_ (i := 10) (N := some 81) zA97 rfl rfl (by kernel_rfl) (by decide) (fun K hK => ?_)
     have hR9 := hG9 (rd t561 x57_2)
     rw [eV9] at hR9
     have hbm9_ := Nat.lt_of_le_of_lt HMB.out (gd_lt hHeld.2.2)
     refine Kd.R_append_rows_step k44 (w0 := w9_) N0_ (by rfl) (.tmp 75) (.tmp 80) 26 44 (.agg #[(.int .i64 0), (.int .i64 0)]) 16 rfl Try.underlying26 info44 rfl (by decide) (by omega) (.slice A9 (grp x5_1 t561 x57_2.toNat (rd t561 x57_2)).length c9) (grp x5_1 t561 x57_2.toNat (rd t561 x57_2)) [(⟨(rd_T44 x5_1 x57_2).f0, (rd_T44 x5_1 x57_2).f1⟩ : S44)] _ _ _ (fun b_ => N0_ ≤ b_) (fun _ => False) rfl rfl ?aO ?aR (fun _ _ h => h) (fun _ h => h.elim) ?aF ?aB ?aS ?aL ?_
     (case aR => exact (Kd.R_reads' HY9.out).2.2)
     (case aB => exact Below.refl _ _)
     (case aF => exact fun b_ hb_ => Nat.le_trans (Nat.le_of_lt hbm9_) hb_)
     (case aO => exact Kd.R_mono hR9 (fun _ h_ => h_.1))
     (case aS => exact Nat.le_of_lt hbm9_)
     (case aL => have hl9_ := grp_len x5_1 t561 x57_2.toNat (rd t561 x57_2); have := HI.out; have := HPL.out; simp only [List.length_singleton]; omega)
     intro v10_ w10_ ho10_ hb hg hat
     have hne9_ := gd_row hHeld.2.2 hR9
     have n0_ := aM (R_keep9 rfl (mR_ HO_5.out) hg (fun b_ hb_ he_ => absurd (hR9.1 b_ he_.symm).1 (Nat.not_le.2 (HF_.out b_ hb_))))
     have n1_ := aM (Kd.R_over' (mR_ HO568.out) (Kd.R_typed hR9) (by decide) hg)
     have n2_ := aM (Kd.R_over' (mR_ HO_55.out) (Kd.R_typed hR9) (by decide) hg)
     have n3_ := aM (blk_grown (g := gb548) (o := .cells #[.int .i64 t544, .int .i64 t545] 44 (0, 0)) (mB_ BK548.out) hg (fun he_ => absurd (hR9.1 gb548 he_.symm).1 (Nat.not_le.2 H8_.out)))
     have n4_ := aM (blk_grown (g := gb549) (o := .cells #[.int .i64 t546, .int .i64 t547] 44 (0, 0)) (mB_ BK549.out) hg (fun he_ => absurd (hR9.1 gb549 he_.symm).1 (Nat.not_le.2 H9_.out)))
     have n5_ := aM (pw_below_grown (zt GE548.out GE549.out) _ (below_size (zt GE548.out GE549.out)) hg (fun b_ hb_ => Nat.le_trans HW_.out (hR9.1 b_ hb_).1))
     have HS0_ := cell_grown9_ hg hHeld.1 (fun he_ => absurd (hR9.1 _ he_.symm).1 (Nat.not_le.2 (HF_.out _ (congrArg some (add_block _ _).symm))))
     have HS1_ := cell_grown9_ hg hHeld.2.1 (fun he_ => absurd (hR9.1 _ he_.symm).1 (Nat.not_le.2 (HF_.out _ (congrArg some (add_block _ _).symm))))
     have HS2_ := gd_kept hHeld.2.2 hg hne9_
     obtain ⟨f10, hG10⟩ := gr_app (k := (rd t561 x57_2)) hG9 (by rw [eV9]; exact hg) (by rw [eV9]; exact hat) (fun b_ hb_ => Nat.le_trans (Nat.le_of_lt hbm9_) hb_) ho10_
     clear HO_5 HO568 HO_55 BK548 BK549 HB hG9 hR9 HY9 ho10_ hat hg hb
     have HO_5 := n0_
     have HO568 := n1_
     have HO_55 := n2_
     have BK548 := n3_
     have BK549 := n4_
     have HB := n5_
     clear n0_ n1_ n2_ n3_ n4_ n5_
     refine hK.out _ _ ⟨HS0_, HS1_, HS2_⟩ (fun hHeld => ?_)
     clear hK K
     refine norm_ (a' := ?_) ?_ ?_
     rotate_left
     ·show Act.put _ (some 81) _ = _
      simp only [Act.put, xA, xB, xC, i64_w, i32_w]
      rfl
     refine last_ (i := 11) (N := none) zA98 rfl rfl (by kernel_rfl) (by decide) (fun K hK => ?_)
     refine gd_put_step (m := x57_2.toNat) (V := V9) (by rfl) (.tmp 71) (.tmp 72) (.tmp 81) rfl rfl hHeld.2.2 (by have := HI.out; have := HPL.out; show _ < 9223372036854775807; omega) (rd t561 x57_2) HWF.out rfl v10_ rfl ?_
     intro w11_ hg hD11
     have n0_ := aM (R_map9 rfl (mR_ HO_5.out) hHeld.2.2 hg)
     have n1_ := aM (R_map9 rfl (mR_ HO568.out) hHeld.2.2 hg)
     have n2_ := aM (R_map9 rfl (mR_ HO_55.out) hHeld.2.2 hg)
     have n3_ := aM (blk_map9 (g := gb548) (cs := #[.int .i64 t544, .int .i64 t545]) (t := 44) (mB_ BK548.out) hHeld.2.2 hg)
     have n4_ := aM (blk_map9 (g := gb549) (cs := #[.int .i64 t546, .int .i64 t547]) (t := 44) (mB_ BK549.out) hHeld.2.2 hg)
     have n5_ := aM (pw_below_grown (zt GE548.out GE549.out) _ (below_size (zt GE548.out GE549.out)) hg (fun b_ hb_ => Option.some.inj hb_ ▸ Nat.le_trans HW_.out HMB.out))
     have hG11 := gr_map hG10 hHeld.2.2 hg
     have HLT9 := of_eq_true ‹(x57_2 < (t561.length : Int)) = True›
     have HM := aM (gm_next HI.out.1 HLT9 HPL.out ⟨_, f10, hD11, hG11⟩)
     have HI9 := aM (And.intro (show 0 ≤ wrap64 (x57_2 + 1) by rw [(up1_ HI.out.1 HI.out.2 (by have := HPL.out; omega)).1]; have := HI.out.1; omega) (show wrap64 (x57_2 + 1) ≤ (t561.length : Int) by rw [(up1_ HI.out.1 HI.out.2 (by have := HPL.out; omega)).1]; omega))
     clear HO_5 HO568 HO_55 BK548 BK549 HB
     have HO_5 := n0_
     have HO568 := n1_
     have HO_55 := n2_
     have BK548 := n3_
     have BK549 := n4_
     have HB := n5_
     clear n0_ n1_ n2_ n3_ n4_ n5_
     refine hK.out _ _ ?_
     clear hK K
     refine norm_ (a' := ?_) ?_ ?_
     rotate_left
     ·show Act.put _ none _ = _
      simp only [Act.put, xA, xB, xC, i64_w, i32_w]
      rfl
     refine done_ (by kernel_rfl) ?_
     go_wp2
     go_roundg k2
     case measure => have := HK1.out; have := HK2.out; omega
     case rel => exact ⟨(y566), (wrap64 (x57_2 + 1)), zr, H', ⟨by have := HK1.out; have := HK2.out; omega⟩, ⟨mR_ HO_5.out⟩, ⟨mR_ HO568.out⟩, ⟨mR_ HO_55.out⟩, ⟨mB_ BK548.out⟩, ⟨mB_ BK549.out⟩, ⟨zt GE548.out GE549.out⟩, ⟨HM.out⟩, ⟨HI9.out⟩⟩
end Go.Proofs.Ytaecheolnpofeaa.F
end
section
namespace Go.Proofs.Ytaecheolnpofeaa.F
open Go.RowKit Go.Proofs.YtaecheolnpofeaaW.PrintWords Go.Proofs.YtaecheolnpofeaaW.PrintLast Go.Proofs.YtaecheolnpofeaaW.PrintMore
attribute [local go_sem] max2_int min2_int max_two min_two max_three min_three max_four min_four
set_option linter.unusedVariables false
set_option linter.unusedSimpArgs false
end Go.Proofs.Ytaecheolnpofeaa.F
end
