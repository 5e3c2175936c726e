/- The row of FnExactIsSolid, with what it needs: text 7 of 8. -/
import Derived.Test.YtabdmdkoffpppaaKIS5
import Derived.ChangeArms
import Derived.ChangeSame
import Derived.Deep.Fields
import Derived.Deep.Slices
import Derived.Deep.Strs
import Derived.WideShapes
set_option maxHeartbeats 8000000
set_option maxRecDepth 100000
section
namespace Go.Proofs.Ytabdmdkoffpppaa.F
open Go.RowKit Go.Proofs.YtabdmdkoffpppaaW.PrintWords Go.Proofs.YtabdmdkoffpppaaW.PrintLast Go.Proofs.YtabdmdkoffpppaaW.PrintMore
attribute [local go_sem] max2_int min2_int max_two min_two max_three min_three max_four min_four
set_option linter.unusedVariables false
set_option linter.unusedSimpArgs false
theorem impl_connectedCubes.calls (k : Nat) (A0 : Option Addr) (c0 : Nat) (l0 : List (S57)) (r : Bool) (w : World) (hr0 : Kd.C k57 w A0 l0.length l0) (hc0 : l0.length ≤ c0) (h : impl_connectedCubes.f k l0 = some r) :
  Calls Try.prog 86 #[.slice A0 l0.length c0] w fun e w' => e = .returned (.bool r) ∧ Below w.heap.size w w' := by
 have hu57 := Try.underlying57
 have HR0 := aM hr0
 have HC0 := aM hc0
 clear hr0 hc0
 have HB := aM (Below.refl w.heap.size w)
 have H : (if 0 < (l0.length : Int) then (impl_connectedCubes.l0 k l0 (([(⟨(rd_T57 l0 0).f0, (rd_T57 l0 0).f1, (rd_T57 l0 0).f2⟩ : S57)] : List (S57))) 0) else (none)) = some r := h
 clear h
 by_cases c2 : 0 < (l0.length : Int)
 rotate_left
 ·rw [if_neg c2] at H
  exact absurd H (by simp)
 rw [if_pos c2] at H
 have c2b0 : decide (0 < (l0.length : Int)) = true := decide_eq_true c2
 have c2b1 : decide (0 < l0.length) = true := decide_eq_true (by omega)
 clear c2
 obtain ⟨y280, hy280⟩ : ∃ y_ : List (S57), y_ = (([(⟨(rd_T57 l0 0).f0, (rd_T57 l0 0).f1, (rd_T57 l0 0).f2⟩ : S57)] : List (S57))) := ⟨_, rfl⟩
 replace H : (impl_connectedCubes.l0 k l0 y280 0) = some r := zy H hy280
 have Ny280 := aM hy280
 clear hy280
 have H' := aM H
 clear H
 have p279 : 0 ≤ (0 : Int) := (by omega)
 have q279 : 0 < (l0.length : Int) := of_decide_eq_true za
 obtain ⟨ad279, e279, hx279_0, hx279_1, hx279_2⟩ := at_T57 HR0.out 0 p279 q279
 cases e279
 have qi279 : (0 < l0.length) = True := eq_true (by omega)
 (try rw [show ((0 : Int)).toNat = 0 from rfl] at hx279_0)
 (try rw [show 0 * 3 = 0 from rfl] at hx279_0)
 (try rw [Addr.add_zero'] at hx279_0)
 (try rw [show ((0 : Int)).toNat = 0 from rfl] at hx279_1)
 (try rw [show 0 * 3 = 0 from rfl] at hx279_1)
 (try rw [Addr.add_zero'] at hx279_1)
 (try rw [show ((0 : Int)).toNat = 0 from rfl] at hx279_2)
 (try rw [show 0 * 3 = 0 from rfl] at hx279_2)
 (try rw [Addr.add_zero'] at hx279_2)
 replace p279 := eq_true p279
 replace q279 := eq_true q279
 go_enter Try.func86, Try.ntmps86
 go_wp2_with (first | ((with_reducible refine gate_dst (N := 10) rfl ?_); refine Kd.R_lit k57 _ 57 ?hg (N := 10) ?hd (xs := ([(⟨(rd_T57 l0 0).f0, (rd_T57 l0 0).f1, (rd_T57 l0 0).f2⟩ : S57)] : List (S57))) (inner := [.int .i64 ((rd_T57 l0 0).f0), .int .i64 ((rd_T57 l0 0).f1), .int .i64 ((rd_T57 l0 0).f2)]) (ok := fun _ => True) (okp := fun _ => True) ?hr ?hp (fun _ hk => hk) trivial (Below.refl _ _) (Nat.le_refl _) (by simp) ?_; (case hd => rfl); (case hg => rfl); (case hr => first | (go_simp; done) | (go_simp; rfl)); (case hp => exact (Reps.c3 (show Kd.M k57 _ _ _ (⟨(rd_T57 l0 0).f0, (rd_T57 l0 0).f1, (rd_T57 l0 0).f2⟩ : S57) [.int .i64 ((rd_T57 l0 0).f0), .int .i64 ((rd_T57 l0 0).f1), .int .i64 ((rd_T57 l0 0).f2)] from (k57_mkM _ _ _ (⟨(rd_T57 l0 0).f0, (rd_T57 l0 0).f1, (rd_T57 l0 0).f2⟩ : S57) )) (Reps.none _ _))); intro v281 w3 ho4 hb hg_ hnew_; clear hg_ hnew_; (first | rw [← Ny280.out] at ho4 | (simp only [Int.reduceToNat] at ho4; rw [← Ny280.out] at ho4)); have n0_ := aM (Kd.R_lower ho4 (below_size zb)); have n1_ := aM (below_step zb hb); clear HB; have HO282 := n0_; have HB := n1_; clear n0_ n1_; clear hb ho4))
 go_loopg [3, 4] k (fun kq v3 v4 w' => ∃ (x3_1 : List (S57)) (x4_1 : Int), v4 = .int .i64 x4_1 ∧ Aside0 (impl_connectedCubes.l0 kq l0 x3_1 x4_1 = some r) ∧ Aside0 (kq ≤ k) ∧ Aside0 (Kd.R k57 57 w' w.heap.size (fun _ => True) v3 x3_1) ∧ Aside0 (Below w.heap.size w w'))
 case atStart => exact ⟨(y280), (0), zr, H', ⟨Nat.le_refl _⟩, ⟨mR_ HO282.out⟩, ⟨zb⟩⟩
 case round =>
  clear H'
  try clear c2
  try clear c2b0
  try clear c2b1
  try clear p2
  try clear q2
  try clear hx2
  try clear qi2
  try clear c3
  try clear hx279_0
  try clear hx279_1
  try clear hx279_2
  try clear p279
  try clear q279
  obtain ⟨x3_1, x4_1, rfl, HA, HK1, HO_3, HB⟩ := hrel
  cases gk with
  | zero => exact absurd HA.out (by simp [impl_connectedCubes.l0])
  | succ k1 =>
   have H := HA.out
   clear HA
   simp only [impl_connectedCubes.l0] at H
   by_cases c5 : x4_1 < (x3_1.length : Int)
   rotate_left
   ·rw [if_neg c5] at H
    have c5b0 : decide (x4_1 < (x3_1.length : Int)) = false := decide_eq_false c5
    clear c5
    obtain rfl := Option.some.inj H
    obtain ⟨Ao36, co36, eo36⟩ := Kd.R_slice HO_3.out
    subst eo36
    go_wp2
    go_ret
    exact ⟨zw, zb⟩
   rw [if_pos c5] at H
   have c5b0 : decide (x4_1 < (x3_1.length : Int)) = true := decide_eq_true c5
   clear c5
   by_cases c6 : 0 ≤ x4_1
   rotate_left
   ·rw [if_neg c6] at H
    exact absurd H (by simp)
   rw [if_pos c6] at H
   have c6b0 : decide (0 ≤ x4_1) = true := decide_eq_true c6
   clear c6
   replace H := Option.bind_eq_some_iff.mp H
   obtain ⟨t284, A70, H⟩ := H
   replace H : (impl_connectedCubes.l1 k1 l0 x3_1 x4_1 t284 (t284.length : Int) 0) = some r := H
   have A7 := aM A70
   clear A70
   have H' := aM H
   clear H
   obtain ⟨Ao8, co8, eo8⟩ := Kd.R_slice HO_3.out
   subst eo8
   have p283 : 0 ≤ (x4_1 : Int) := of_decide_eq_true za
   have q283 : x4_1 < (x3_1.length : Int) := of_decide_eq_true za
   obtain ⟨ad283, e283, hx283_0, hx283_1, hx283_2⟩ := at_T57 (Kd.R_reads' HO_3.out).2.2 x4_1 p283 q283
   cases e283
   replace p283 := eq_true p283
   replace q283 := eq_true q283
   go_wp2_with (first | ((with_reducible refine gate_callee (f := 82) rfl ?_); refine goesL_ (some 21) rfl rfl Try.func82 (by kernel_rfl) rfl #[.agg #[.int .i64 ((rd_T57 x3_1 x4_1).f0), .int .i64 ((rd_T57 x3_1 x4_1).f1), .int .i64 ((rd_T57 x3_1 x4_1).f2)]] rfl zm ?_; (with_reducible refine (impl_cubesAround.calls ((rd_T57 x3_1 x4_1).f0) ((rd_T57 x3_1 x4_1).f1) ((rd_T57 x3_1 x4_1).f2) t284 _ A7.out).mono ?_); rintro e w9 ⟨v285, rfl, ho0, hb⟩; refine ⟨_, rfl, ?_⟩; have n0_ := aM (Kd.R_elder' (mR_ HO_3.out) (Kd.R_base ho0) hb); have n1_ := aM (Kd.R_lower (Kd.R_new' ho0 (Kd.R_lt (mR_ HO_3.out))) (below_size zb)); have n2_ := aM (below_step zb hb); clear HO_3; clear HB; have HO_3 := n0_; have HO286 := n1_; have HB := n2_; clear n0_ n1_ n2_; (try clear hb); (try clear hb2); (try clear hk); (try clear hi); (try clear ho0); obtain ⟨Ao10, co10, eo10⟩ := Kd.R_slice HO286.out; subst eo10))
   go_loopg [3, 23] k1 (fun kq v3 v23 w' => ∃ (x3_2 : List (S57)) (x23_2 : Int), v23 = .int .i64 x23_2 ∧ Aside0 (impl_connectedCubes.l1 kq l0 x3_2 x4_1 t284 (t284.length : Int) x23_2 = some r) ∧ Aside0 (kq ≤ k1) ∧ Aside0 (Kd.R k57 57 w' w.heap.size (fun k_ => some k_ ≠ ((.slice Ao10 t284.length co10) : Value).ownBlock) v3 x3_2) ∧ Aside0 (Kd.R k57 57 w' w.heap.size (fun k_ => some k_ ≠ (v3 : Value).ownBlock) (.slice Ao10 t284.length co10) t284) ∧ Aside0 (Below w.heap.size w w'))
   case atStart => exact ⟨(x3_1), (0), zr, H', ⟨Nat.le_refl _⟩, ⟨by (with_reducible repeat (first | apply Kd.R_alloc | apply Kd.R_drewN | apply Kd.R_drew)); exact Kd.R_mono HO_3.out (fun _ hk => hk.2)⟩, ⟨by (with_reducible repeat (first | apply Kd.R_alloc | apply Kd.R_drewN | apply Kd.R_drew)); exact Kd.R_mono HO286.out (fun _ hk => hk.2)⟩, ⟨zb⟩⟩
   case round =>
    clear H'
    try clear c2
    try clear c2b0
    try clear c2b1
    try clear p2
    try clear q2
    try clear hx2
    try clear qi2
    try clear c3
    try clear c5
    try clear c5b0
    try clear c6
    try clear c6b0
    try clear c8
    try clear hx279_0
    try clear hx279_1
    try clear hx279_2
    try clear hx283_0
    try clear hx283_1
    try clear hx283_2
    try clear p2
    try clear p279
    try clear p283
    try clear q2
    try clear q279
    try clear q283
    obtain ⟨x3_2, x23_2, rfl, HA, HK2, HO_3, HO_21, HB⟩ := hrel
    cases gk with
    | zero => exact absurd HA.out (by simp [impl_connectedCubes.l1])
    | succ k2 =>
     have H := HA.out
     clear HA
     simp only [impl_connectedCubes.l1] at H
     by_cases c11 : x23_2 < (t284.length : Int)
     rotate_left
     ·rw [if_neg c11] at H
      have c11b0 : decide (x23_2 < (t284.length : Int)) = false := decide_eq_false c11
      clear c11
      have H' := aM H
      clear H
      go_wp2
      go_roundg k2
      case measure => have := HK1.out; have := HK2.out; omega
      case rel => exact ⟨(x3_2), (wrap64 (x4_1 + 1)), zr, H', ⟨by have := HK1.out; have := HK2.out; omega⟩, ⟨by (with_reducible repeat (first | apply Kd.R_alloc | apply Kd.R_drewN | apply Kd.R_drew)); exact Kd.R_mono HO_3.out (fun _ hk => trivial)⟩, ⟨zb⟩⟩
     rw [if_pos c11] at H
     have c11b0 : decide (x23_2 < (t284.length : Int)) = true := decide_eq_true c11
     clear c11
     by_cases c12 : 0 ≤ x23_2
     rotate_left
     ·rw [if_neg c12] at H
      exact absurd H (by simp)
     rw [if_pos c12] at H
     have c12b0 : decide (0 ≤ x23_2) = true := decide_eq_true c12
     clear c12
     by_cases c13 : x23_2 < (t284.length : Int)
     rotate_left
     ·rw [if_neg c13] at H
      exact absurd H (by simp)
     rw [if_pos c13] at H
     have c13b0 : decide (x23_2 < (t284.length : Int)) = true := decide_eq_true c13
     clear c13
     replace H := Option.bind_eq_some_iff.mp H
     obtain ⟨t289, A140, H⟩ := H
     replace H : (if t289 = true then ((impl_Cube_83.f k2 x3_2 ((rd_T57 t284 x23_2).f0) ((rd_T57 t284 x23_2).f1) ((rd_T57 t284 x23_2).f2)).bind fun t290 => (if t290 = true then (impl_connectedCubes.l1 k2 l0 x3_2 x4_1 t284 (t284.length : Int) (wrap64 (x23_2 + 1))) else (if x3_2.length < 5864062014805 then (impl_connectedCubes.l1 k2 l0 (x3_2 ++ [(⟨(rd_T57 t284 x23_2).f0, (rd_T57 t284 x23_2).f1, (rd_T57 t284 x23_2).f2⟩ : S57)]) x4_1 t284 (t284.length : Int) (wrap64 (x23_2 + 1))) else (none)))) else (impl_connectedCubes.l1 k2 l0 x3_2 x4_1 t284 (t284.length : Int) (wrap64 (x23_2 + 1)))) = some r := H
     have A14 := aM A140
     clear A140
     by_cases c15 : t289 = true
     rotate_left
     ·replace c15 := Bool.eq_false_iff.mpr c15
      subst c15
      have H1 : (impl_connectedCubes.l1 k2 l0 x3_2 x4_1 t284 (t284.length : Int) (wrap64 (x23_2 + 1))) = some r := by rw [if_neg (show ¬ (false = true) by decide)] at H; exact H
      clear H
      have H := H1
      clear H1
      have H' := aM H
      clear H
      have p287 : 0 ≤ (x23_2 : Int) := of_decide_eq_true za
      have q287 : x23_2 < (t284.length : Int) := of_decide_eq_true za
      obtain ⟨ad287, e287, hx287_0, hx287_1, hx287_2⟩ := at_T57 (Kd.R_reads' HO_21.out).2.2 x23_2 p287 q287
      cases e287
      replace p287 := eq_true p287
      replace q287 := eq_true q287
      go_wp2_with (first | ((with_reducible refine gate_dst (N := 6) rfl ?_); refine box_event ?hg (N := 6) ?hd (cs := #[.int .i64 0, .int .i64 0, .int .i64 0]) (t := 57) ?hr ?_; (case hd => rfl); (case hg => rfl); (case hr => first | (go_simp; done) | (go_simp; rfl)); intro gb288 hg w33 hbox hb; have n0_ := aM (Kd.R_below (Kd.R_elderB (mR_ HO_3.out) gb288 (Nat.le_of_eq hg.symm)) hb); have n1_ := aM (Kd.R_below (Kd.R_elderB (mR_ HO_21.out) gb288 (Nat.le_of_eq hg.symm)) hb); have n2_ := aM (below_step zb hb); have n3_ := aM (hbox); have n4_ := aM ((ze : w.heap.size ≤ gb288)); have n5_ := aM ((ze : w.heap.size ≤ gb288)); clear HO_3; clear HO_21; clear HB; have HO_3 := n0_; have HO_21 := n1_; have HB := n2_; have BK288 := n3_; have GW288 := n4_; have GE288 := n5_; clear n0_ n1_ n2_ n3_ n4_ n5_; clear hb hbox hg; have hcz34_0 : w33.cell? ⟨gb288, 0, none⟩ = some (.int .i64 0) := (blk_cell BK288.out 0).trans rfl; have hcz34_1 : w33.cell? ⟨gb288, 1, none⟩ = some (.int .i64 0) := (blk_cell BK288.out 1).trans rfl; have hcz34_2 : w33.cell? ⟨gb288, 2, none⟩ = some (.int .i64 0) := (blk_cell BK288.out 2).trans rfl; have hfz34_0 := blk_frozen BK288.out 0; have hfz34_1 := blk_frozen BK288.out 1; have hfz34_2 := blk_frozen BK288.out 2) | ((with_reducible refine gate_callee (f := 83) rfl ?_); refine goesL_ (some 29) rfl rfl Try.func83 (by kernel_rfl) rfl #[.slice (some ad279) l0.length c0, .agg #[.int .i64 ((rd_T57 t284 x23_2).f0), .int .i64 ((rd_T57 t284 x23_2).f1), .int .i64 ((rd_T57 t284 x23_2).f2)]] rfl zm ?_; (with_reducible refine (impl_Cube_83.calls k2 _ _ l0 ((rd_T57 t284 x23_2).f0) ((rd_T57 t284 x23_2).f1) ((rd_T57 t284 x23_2).f2) false _ ?side1 ?side2 A14.out).mono ?_); (case side1 => exact Kd.C_below HR0.out (zs GE288.out)); (case side2 => exact HC0.out); rintro e w35 ⟨rfl, hb⟩; refine ⟨_, rfl, ?_⟩; have n0_ := aM (Kd.R_below (by (with_reducible repeat (first | apply Kd.R_alloc | apply Kd.R_drewN | apply Kd.R_drew)); exact (Kd.R_mono (Kd.R_far (p := ⟨gb288, 2, none⟩) (Kd.R_far (p := ⟨gb288, 1, none⟩) (Kd.R_far (p := ⟨gb288, 0, none⟩) (Kd.R_mono HO_3.out (fun k_ hk => (⟨hk, hk.2⟩ : _ ∧ k_ ≠ gb288))) (fun _ hk => hk.2) (.int .i64 ((rd_T57 t284 x23_2).f0))) (fun _ hk => hk.2) (.int .i64 ((rd_T57 t284 x23_2).f1))) (fun _ hk => hk.2) (.int .i64 ((rd_T57 t284 x23_2).f2))) (fun _ h_ => h_.1))) hb); have n1_ := aM (Kd.R_below (by (with_reducible repeat (first | apply Kd.R_alloc | apply Kd.R_drewN | apply Kd.R_drew)); exact (Kd.R_mono (Kd.R_far (p := ⟨gb288, 2, none⟩) (Kd.R_far (p := ⟨gb288, 1, none⟩) (Kd.R_far (p := ⟨gb288, 0, none⟩) (Kd.R_mono HO_21.out (fun k_ hk => (⟨hk, hk.2⟩ : _ ∧ k_ ≠ gb288))) (fun _ hk => hk.2) (.int .i64 ((rd_T57 t284 x23_2).f0))) (fun _ hk => hk.2) (.int .i64 ((rd_T57 t284 x23_2).f1))) (fun _ hk => hk.2) (.int .i64 ((rd_T57 t284 x23_2).f2))) (fun _ h_ => h_.1))) hb); have n2_ := aM (blk_below (g := gb288) (o := .cells #[.int .i64 ((rd_T57 t284 x23_2).f0), .int .i64 ((rd_T57 t284 x23_2).f1), .int .i64 ((rd_T57 t284 x23_2).f2)] 57 (0, 0)) (by (with_reducible repeat (first | refine blk_drewN ?_ _ | refine blk_drew ?_ | refine blk_alloc ?_ _)); refine blk_put (cs := #[.int .i64 ((rd_T57 t284 x23_2).f0), .int .i64 ((rd_T57 t284 x23_2).f1), .int .i64 0]) ?_ 2 _ rfl; (with_reducible repeat (first | refine blk_drewN ?_ _ | refine blk_drew ?_ | refine blk_alloc ?_ _)); refine blk_put (cs := #[.int .i64 ((rd_T57 t284 x23_2).f0), .int .i64 0, .int .i64 0]) ?_ 1 _ rfl; (with_reducible repeat (first | refine blk_drewN ?_ _ | refine blk_drew ?_ | refine blk_alloc ?_ _)); refine blk_put (cs := #[.int .i64 0, .int .i64 0, .int .i64 0]) ?_ 0 _ rfl; (with_reducible repeat (first | refine blk_drewN ?_ _ | refine blk_drew ?_ | refine blk_alloc ?_ _)); exact BK288.out) hb); have n3_ := aM (below_step (zs GE288.out) hb); clear HO_3; clear HO_21; clear BK288; clear HB; have HO_3 := n0_; have HO_21 := n1_; have BK288 := n2_; have HB := n3_; clear n0_ n1_ n2_ n3_; (try clear hb); (try clear hb2); (try clear hk); (try clear hi)))
      go_roundg k2
      case measure => have := HK1.out; have := HK2.out; omega
      case rel => exact ⟨(x3_2), (wrap64 (x23_2 + 1)), zr, H', ⟨by have := HK1.out; have := HK2.out; omega⟩, ⟨by (with_reducible repeat (first | apply Kd.R_alloc | apply Kd.R_drewN | apply Kd.R_drew)); exact Kd.R_mono HO_3.out (fun _ hk => hk.1)⟩, ⟨by (with_reducible repeat (first | apply Kd.R_alloc | apply Kd.R_drewN | apply Kd.R_drew)); exact Kd.R_mono HO_21.out (fun _ hk => hk.1)⟩, ⟨zs GE288.out⟩⟩
     subst c15
     have H1 : ((impl_Cube_83.f k2 x3_2 ((rd_T57 t284 x23_2).f0) ((rd_T57 t284 x23_2).f1) ((rd_T57 t284 x23_2).f2)).bind fun t290 => (if t290 = true then (impl_connectedCubes.l1 k2 l0 x3_2 x4_1 t284 (t284.length : Int) (wrap64 (x23_2 + 1))) else (if x3_2.length < 5864062014805 then (impl_connectedCubes.l1 k2 l0 (x3_2 ++ [(⟨(rd_T57 t284 x23_2).f0, (rd_T57 t284 x23_2).f1, (rd_T57 t284 x23_2).f2⟩ : S57)]) x4_1 t284 (t284.length : Int) (wrap64 (x23_2 + 1))) else (none)))) = some r := by rw [if_pos rfl] at H; exact H
     clear H
     have H := H1
     clear H1
     replace H := Option.bind_eq_some_iff.mp H
     obtain ⟨t290, A160, H⟩ := H
     replace H : (if t290 = true then (impl_connectedCubes.l1 k2 l0 x3_2 x4_1 t284 (t284.length : Int) (wrap64 (x23_2 + 1))) else (if x3_2.length < 5864062014805 then (impl_connectedCubes.l1 k2 l0 (x3_2 ++ [(⟨(rd_T57 t284 x23_2).f0, (rd_T57 t284 x23_2).f1, (rd_T57 t284 x23_2).f2⟩ : S57)]) x4_1 t284 (t284.length : Int) (wrap64 (x23_2 + 1))) else (none))) = some r := H
     have A16 := aM A160
     clear A160
     by_cases c17 : t290 = true
     ·subst c17
      have H1 : (impl_connectedCubes.l1 k2 l0 x3_2 x4_1 t284 (t284.length : Int) (wrap64 (x23_2 + 1))) = some r := by rw [if_pos rfl] at H; exact H
      clear H
      have H := H1
      clear H1
      have H' := aM H
      clear H
      have p287 : 0 ≤ (x23_2 : Int) := of_decide_eq_true za
      have q287 : x23_2 < (t284.length : Int) := of_decide_eq_true za
      obtain ⟨ad287, e287, hx287_0, hx287_1, hx287_2⟩ := at_T57 (Kd.R_reads' HO_21.out).2.2 x23_2 p287 q287
      cases e287
      replace p287 := eq_true p287
      replace q287 := eq_true q287
      go_wp2_with (first | ((with_reducible refine gate_dst (N := 6) rfl ?_); refine box_event ?hg (N := 6) ?hd (cs := #[.int .i64 0, .int .i64 0, .int .i64 0]) (t := 57) ?hr ?_; (case hd => rfl); (case hg => rfl); (case hr => first | (go_simp; done) | (go_simp; rfl)); intro gb288 hg w18 hbox hb; have n0_ := aM (Kd.R_below (Kd.R_elderB (mR_ HO_3.out) gb288 (Nat.le_of_eq hg.symm)) hb); have n1_ := aM (Kd.R_below (Kd.R_elderB (mR_ HO_21.out) gb288 (Nat.le_of_eq hg.symm)) hb); have n2_ := aM (below_step zb hb); have n3_ := aM (hbox); have n4_ := aM ((ze : w.heap.size ≤ gb288)); have n5_ := aM ((ze : w.heap.size ≤ gb288)); clear HO_3; clear HO_21; clear HB; have HO_3 := n0_; have HO_21 := n1_; have HB := n2_; have BK288 := n3_; have GW288 := n4_; have GE288 := n5_; clear n0_ n1_ n2_ n3_ n4_ n5_; clear hb hbox hg; have hcz19_0 : w18.cell? ⟨gb288, 0, none⟩ = some (.int .i64 0) := (blk_cell BK288.out 0).trans rfl; have hcz19_1 : w18.cell? ⟨gb288, 1, none⟩ = some (.int .i64 0) := (blk_cell BK288.out 1).trans rfl; have hcz19_2 : w18.cell? ⟨gb288, 2, none⟩ = some (.int .i64 0) := (blk_cell BK288.out 2).trans rfl; have hfz19_0 := blk_frozen BK288.out 0; have hfz19_1 := blk_frozen BK288.out 1; have hfz19_2 := blk_frozen BK288.out 2) | ((with_reducible refine gate_callee (f := 83) rfl ?_); refine goesL_ (some 29) rfl rfl Try.func83 (by kernel_rfl) rfl #[.slice (some ad279) l0.length c0, .agg #[.int .i64 ((rd_T57 t284 x23_2).f0), .int .i64 ((rd_T57 t284 x23_2).f1), .int .i64 ((rd_T57 t284 x23_2).f2)]] rfl zm ?_; (with_reducible refine (impl_Cube_83.calls k2 _ _ l0 ((rd_T57 t284 x23_2).f0) ((rd_T57 t284 x23_2).f1) ((rd_T57 t284 x23_2).f2) true _ ?side1 ?side2 A14.out).mono ?_); (case side1 => exact Kd.C_below HR0.out (zs GE288.out)); (case side2 => exact HC0.out); rintro e w20 ⟨rfl, hb⟩; refine ⟨_, rfl, ?_⟩; have n0_ := aM (Kd.R_below (by (with_reducible repeat (first | apply Kd.R_alloc | apply Kd.R_drewN | apply Kd.R_drew)); exact (Kd.R_mono (Kd.R_far (p := ⟨gb288, 2, none⟩) (Kd.R_far (p := ⟨gb288, 1, none⟩) (Kd.R_far (p := ⟨gb288, 0, none⟩) (Kd.R_mono HO_3.out (fun k_ hk => (⟨hk, hk.2⟩ : _ ∧ k_ ≠ gb288))) (fun _ hk => hk.2) (.int .i64 ((rd_T57 t284 x23_2).f0))) (fun _ hk => hk.2) (.int .i64 ((rd_T57 t284 x23_2).f1))) (fun _ hk => hk.2) (.int .i64 ((rd_T57 t284 x23_2).f2))) (fun _ h_ => h_.1))) hb); have n1_ := aM (Kd.R_below (by (with_reducible repeat (first | apply Kd.R_alloc | apply Kd.R_drewN | apply Kd.R_drew)); exact (Kd.R_mono (Kd.R_far (p := ⟨gb288, 2, none⟩) (Kd.R_far (p := ⟨gb288, 1, none⟩) (Kd.R_far (p := ⟨gb288, 0, none⟩) (Kd.R_mono HO_21.out (fun k_ hk => (⟨hk, hk.2⟩ : _ ∧ k_ ≠ gb288))) (fun _ hk => hk.2) (.int .i64 ((rd_T57 t284 x23_2).f0))) (fun _ hk => hk.2) (.int .i64 ((rd_T57 t284 x23_2).f1))) (fun _ hk => hk.2) (.int .i64 ((rd_T57 t284 x23_2).f2))) (fun _ h_ => h_.1))) hb); have n2_ := aM (blk_below (g := gb288) (o := .cells #[.int .i64 ((rd_T57 t284 x23_2).f0), .int .i64 ((rd_T57 t284 x23_2).f1), .int .i64 ((rd_T57 t284 x23_2).f2)] 57 (0, 0)) (by (with_reducible repeat (first | refine blk_drewN ?_ _ | refine blk_drew ?_ | refine blk_alloc ?_ _)); refine blk_put (cs := #[.int .i64 ((rd_T57 t284 x23_2).f0), .int .i64 ((rd_T57 t284 x23_2).f1), .int .i64 0]) ?_ 2 _ rfl; (with_reducible repeat (first | refine blk_drewN ?_ _ | refine blk_drew ?_ | refine blk_alloc ?_ _)); refine blk_put (cs := #[.int .i64 ((rd_T57 t284 x23_2).f0), .int .i64 0, .int .i64 0]) ?_ 1 _ rfl; (with_reducible repeat (first | refine blk_drewN ?_ _ | refine blk_drew ?_ | refine blk_alloc ?_ _)); refine blk_put (cs := #[.int .i64 0, .int .i64 0, .int .i64 0]) ?_ 0 _ rfl; (with_reducible repeat (first | refine blk_drewN ?_ _ | refine blk_drew ?_ | refine blk_alloc ?_ _)); exact BK288.out) hb); have n3_ := aM (below_step (zs GE288.out) hb); clear HO_3; clear HO_21; clear BK288; clear HB; have HO_3 := n0_; have HO_21 := n1_; have BK288 := n2_; have HB := n3_; clear n0_ n1_ n2_ n3_; (try clear hb); (try clear hb2); (try clear hk); (try clear hi); have hcz21_0 : w20.cell? ⟨gb288, 0, none⟩ = some (.int .i64 ((rd_T57 t284 x23_2).f0)) := (blk_cell BK288.out 0).trans rfl; have hcz21_1 : w20.cell? ⟨gb288, 1, none⟩ = some (.int .i64 ((rd_T57 t284 x23_2).f1)) := (blk_cell BK288.out 1).trans rfl; have hcz21_2 : w20.cell? ⟨gb288, 2, none⟩ = some (.int .i64 ((rd_T57 t284 x23_2).f2)) := (blk_cell BK288.out 2).trans rfl; have hfz21_0 := blk_frozen BK288.out 0; have hfz21_1 := blk_frozen BK288.out 1; have hfz21_2 := blk_frozen BK288.out 2; obtain ⟨Ao22, co22, eo22⟩ := Kd.R_slice HO_3.out; subst eo22) | (go_at_call 83; (with_reducible refine (impl_Cube_83.calls k2 _ _ x3_2 ((rd_T57 t284 x23_2).f0) ((rd_T57 t284 x23_2).f1) ((rd_T57 t284 x23_2).f2) true _ ?side1 ?side2 A16.out).mono ?_); (case side1 => repeat (first | exact (Kd.R_reads' HO_3.out).2.2 | (with_reducible refine Kd.C_alloc ?_ _) | (with_reducible refine Kd.C_drewN ?_ _) | (with_reducible refine Kd.C_drew ?_))); (case side2 => exact (Kd.R_reads' HO_3.out).2.1); rintro e w23 ⟨rfl, hb⟩; have n0_ := aM (Kd.R_below (mR_ HO_3.out) hb); have n1_ := aM (Kd.R_below (mR_ HO_21.out) hb); have n2_ := aM (blk_below (g := gb288) (o := .cells #[.int .i64 ((rd_T57 t284 x23_2).f0), .int .i64 ((rd_T57 t284 x23_2).f1), .int .i64 ((rd_T57 t284 x23_2).f2)] 57 (0, 0)) (mB_ BK288.out) hb); have n3_ := aM (below_step (zs GE288.out) hb); clear HO_3; clear HO_21; clear BK288; clear HB; have HO_3 := n0_; have HO_21 := n1_; have BK288 := n2_; have HB := n3_; clear n0_ n1_ n2_ n3_; (try clear hb); (try clear hb2); (try clear hk); (try clear hi)))
      go_roundg k2
      case measure => have := HK1.out; have := HK2.out; omega
      case rel => exact ⟨(x3_2), (wrap64 (x23_2 + 1)), zr, H', ⟨by have := HK1.out; have := HK2.out; omega⟩, ⟨by (with_reducible repeat (first | apply Kd.R_alloc | apply Kd.R_drewN | apply Kd.R_drew)); exact Kd.R_mono HO_3.out (fun _ hk => hk.1)⟩, ⟨by (with_reducible repeat (first | apply Kd.R_alloc | apply Kd.R_drewN | apply Kd.R_drew)); exact Kd.R_mono HO_21.out (fun _ hk => hk.1)⟩, ⟨zs GE288.out⟩⟩
     replace c17 := Bool.eq_false_iff.mpr c17
     subst c17
     have H1 : (if x3_2.length < 5864062014805 then (impl_connectedCubes.l1 k2 l0 (x3_2 ++ [(⟨(rd_T57 t284 x23_2).f0, (rd_T57 t284 x23_2).f1, (rd_T57 t284 x23_2).f2⟩ : S57)]) x4_1 t284 (t284.length : Int) (wrap64 (x23_2 + 1))) else (none)) = some r := by rw [if_neg (show ¬ (false = true) by decide)] at H; exact H
     clear H
     have H := H1
     clear H1
     by_cases c24 : x3_2.length < 5864062014805
     rotate_left
     ·rw [if_neg c24] at H
      exact absurd H (by simp)
     rw [if_pos c24] at H
     have LMc24 := aM c24
     clear c24
     obtain ⟨y291, hy291⟩ : ∃ y_ : List (S57), y_ = (x3_2 ++ [(⟨(rd_T57 t284 x23_2).f0, (rd_T57 t284 x23_2).f1, (rd_T57 t284 x23_2).f2⟩ : S57)]) := ⟨_, rfl⟩
     replace H : (impl_connectedCubes.l1 k2 l0 y291 x4_1 t284 (t284.length : Int) (wrap64 (x23_2 + 1))) = some r := zy H hy291
     have Ny291 := aM hy291
     clear hy291
     have H' := aM H
     clear H
     have p287 : 0 ≤ (x23_2 : Int) := of_decide_eq_true za
     have q287 : x23_2 < (t284.length : Int) := of_decide_eq_true za
     obtain ⟨ad287, e287, hx287_0, hx287_1, hx287_2⟩ := at_T57 (Kd.R_reads' HO_21.out).2.2 x23_2 p287 q287
     cases e287
     replace p287 := eq_true p287
     replace q287 := eq_true q287
     go_wp2_with (first | ((with_reducible refine gate_dst (N := 6) rfl ?_); refine box_event ?hg (N := 6) ?hd (cs := #[.int .i64 0, .int .i64 0, .int .i64 0]) (t := 57) ?hr ?_; (case hd => rfl); (case hg => rfl); (case hr => first | (go_simp; done) | (go_simp; rfl)); intro gb288 hg w25 hbox hb; have n0_ := aM (Kd.R_below (Kd.R_elderB (mR_ HO_3.out) gb288 (Nat.le_of_eq hg.symm)) hb); have n1_ := aM (Kd.R_below (Kd.R_elderB (mR_ HO_21.out) gb288 (Nat.le_of_eq hg.symm)) hb); have n2_ := aM (below_step zb hb); have n3_ := aM (hbox); have n4_ := aM ((ze : w.heap.size ≤ gb288)); have n5_ := aM ((ze : w.heap.size ≤ gb288)); clear HO_3; clear HO_21; clear HB; have HO_3 := n0_; have HO_21 := n1_; have HB := n2_; have BK288 := n3_; have GW288 := n4_; have GE288 := n5_; clear n0_ n1_ n2_ n3_ n4_ n5_; clear hb hbox hg; have hcz26_0 : w25.cell? ⟨gb288, 0, none⟩ = some (.int .i64 0) := (blk_cell BK288.out 0).trans rfl; have hcz26_1 : w25.cell? ⟨gb288, 1, none⟩ = some (.int .i64 0) := (blk_cell BK288.out 1).trans rfl; have hcz26_2 : w25.cell? ⟨gb288, 2, none⟩ = some (.int .i64 0) := (blk_cell BK288.out 2).trans rfl; have hfz26_0 := blk_frozen BK288.out 0; have hfz26_1 := blk_frozen BK288.out 1; have hfz26_2 := blk_frozen BK288.out 2) | ((with_reducible refine gate_callee (f := 83) rfl ?_); refine goesL_ (some 29) rfl rfl Try.func83 (by kernel_rfl) rfl #[.slice (some ad279) l0.length c0, .agg #[.int .i64 ((rd_T57 t284 x23_2).f0), .int .i64 ((rd_T57 t284 x23_2).f1), .int .i64 ((rd_T57 t284 x23_2).f2)]] rfl zm ?_; (with_reducible refine (impl_Cube_83.calls k2 _ _ l0 ((rd_T57 t284 x23_2).f0) ((rd_T57 t284 x23_2).f1) ((rd_T57 t284 x23_2).f2) true _ ?side1 ?side2 A14.out).mono ?_); (case side1 => exact Kd.C_below HR0.out (zs GE288.out)); (case side2 => exact HC0.out); rintro e w27 ⟨rfl, hb⟩; refine ⟨_, rfl, ?_⟩; have n0_ := aM (Kd.R_below (by (with_reducible repeat (first | apply Kd.R_alloc | apply Kd.R_drewN | apply Kd.R_drew)); exact (Kd.R_mono (Kd.R_far (p := ⟨gb288, 2, none⟩) (Kd.R_far (p := ⟨gb288, 1, none⟩) (Kd.R_far (p := ⟨gb288, 0, none⟩) (Kd.R_mono HO_3.out (fun k_ hk => (⟨hk, hk.2⟩ : _ ∧ k_ ≠ gb288))) (fun _ hk => hk.2) (.int .i64 ((rd_T57 t284 x23_2).f0))) (fun _ hk => hk.2) (.int .i64 ((rd_T57 t284 x23_2).f1))) (fun _ hk => hk.2) (.int .i64 ((rd_T57 t284 x23_2).f2))) (fun _ h_ => h_.1))) hb); have n1_ := aM (Kd.R_below (by (with_reducible repeat (first | apply Kd.R_alloc | apply Kd.R_drewN | apply Kd.R_drew)); exact (Kd.R_mono (Kd.R_far (p := ⟨gb288, 2, none⟩) (Kd.R_far (p := ⟨gb288, 1, none⟩) (Kd.R_far (p := ⟨gb288, 0, none⟩) (Kd.R_mono HO_21.out (fun k_ hk => (⟨hk, hk.2⟩ : _ ∧ k_ ≠ gb288))) (fun _ hk => hk.2) (.int .i64 ((rd_T57 t284 x23_2).f0))) (fun _ hk => hk.2) (.int .i64 ((rd_T57 t284 x23_2).f1))) (fun _ hk => hk.2) (.int .i64 ((rd_T57 t284 x23_2).f2))) (fun _ h_ => h_.1))) hb); have n2_ := aM (blk_below (g := gb288) (o := .cells #[.int .i64 ((rd_T57 t284 x23_2).f0), .int .i64 ((rd_T57 t284 x23_2).f1), .int .i64 ((rd_T57 t284 x23_2).f2)] 57 (0, 0)) (by (with_reducible repeat (first | refine blk_drewN ?_ _ | refine blk_drew ?_ | refine blk_alloc ?_ _)); refine blk_put (cs := #[.int .i64 ((rd_T57 t284 x23_2).f0), .int .i64 ((rd_T57 t284 x23_2).f1), .int .i64 0]) ?_ 2 _ rfl; (with_reducible repeat (first | refine blk_drewN ?_ _ | refine blk_drew ?_ | refine blk_alloc ?_ _)); refine blk_put (cs := #[.int .i64 ((rd_T57 t284 x23_2).f0), .int .i64 0, .int .i64 0]) ?_ 1 _ rfl; (with_reducible repeat (first | refine blk_drewN ?_ _ | refine blk_drew ?_ | refine blk_alloc ?_ _)); refine blk_put (cs := #[.int .i64 0, .int .i64 0, .int .i64 0]) ?_ 0 _ rfl; (with_reducible repeat (first | refine blk_drewN ?_ _ | refine blk_drew ?_ | refine blk_alloc ?_ _)); exact BK288.out) hb); have n3_ := aM (below_step (zs GE288.out) hb); clear HO_3; clear HO_21; clear BK288; clear HB; have HO_3 := n0_; have HO_21 := n1_; have BK288 := n2_; have HB := n3_; clear n0_ n1_ n2_ n3_; (try clear hb); (try clear hb2); (try clear hk); (try clear hi); have hcz28_0 : w27.cell? ⟨gb288, 0, none⟩ = some (.int .i64 ((rd_T57 t284 x23_2).f0)) := (blk_cell BK288.out 0).trans rfl; have hcz28_1 : w27.cell? ⟨gb288, 1, none⟩ = some (.int .i64 ((rd_T57 t284 x23_2).f1)) := (blk_cell BK288.out 1).trans rfl; have hcz28_2 : w27.cell? ⟨gb288, 2, none⟩ = some (.int .i64 ((rd_T57 t284 x23_2).f2)) := (blk_cell BK288.out 2).trans rfl; have hfz28_0 := blk_frozen BK288.out 0; have hfz28_1 := blk_frozen BK288.out 1; have hfz28_2 := blk_frozen BK288.out 2; obtain ⟨Ao29, co29, eo29⟩ := Kd.R_slice HO_3.out; subst eo29) | (go_at_call 83; (with_reducible refine (impl_Cube_83.calls k2 _ _ x3_2 ((rd_T57 t284 x23_2).f0) ((rd_T57 t284 x23_2).f1) ((rd_T57 t284 x23_2).f2) false _ ?side1 ?side2 A16.out).mono ?_); (case side1 => repeat (first | exact (Kd.R_reads' HO_3.out).2.2 | (with_reducible refine Kd.C_alloc ?_ _) | (with_reducible refine Kd.C_drewN ?_ _) | (with_reducible refine Kd.C_drew ?_))); (case side2 => exact (Kd.R_reads' HO_3.out).2.1); rintro e w30 ⟨rfl, hb⟩; have n0_ := aM (Kd.R_below (mR_ HO_3.out) hb); have n1_ := aM (Kd.R_below (mR_ HO_21.out) hb); have n2_ := aM (blk_below (g := gb288) (o := .cells #[.int .i64 ((rd_T57 t284 x23_2).f0), .int .i64 ((rd_T57 t284 x23_2).f1), .int .i64 ((rd_T57 t284 x23_2).f2)] 57 (0, 0)) (mB_ BK288.out) hb); have n3_ := aM (below_step (zs GE288.out) hb); clear HO_3; clear HO_21; clear BK288; clear HB; have HO_3 := n0_; have HO_21 := n1_; have BK288 := n2_; have HB := n3_; clear n0_ n1_ n2_ n3_; (try clear hb); (try clear hb2); (try clear hk); (try clear hi); have hcz31_0 : w30.cell? ⟨gb288, 0, none⟩ = some (.int .i64 ((rd_T57 t284 x23_2).f0)) := (blk_cell BK288.out 0).trans rfl; have hcz31_1 : w30.cell? ⟨gb288, 1, none⟩ = some (.int .i64 ((rd_T57 t284 x23_2).f1)) := (blk_cell BK288.out 1).trans rfl; have hcz31_2 : w30.cell? ⟨gb288, 2, none⟩ = some (.int .i64 ((rd_T57 t284 x23_2).f2)) := (blk_cell BK288.out 2).trans rfl; have hfz31_0 := blk_frozen BK288.out 0; have hfz31_1 := blk_frozen BK288.out 1; have hfz31_2 := blk_frozen BK288.out 2) | ((with_reducible refine gate_builtin (b := .append) (xs := #[.tmp 36, .tmp 38]) rfl ?_); at_builtin; refine Kd.R_append k57 (w0 := w) w.heap.size rfl (.tmp 36) (.tmp 38) 34 57 (.agg #[(.int .i64 0), (.int .i64 0), (.int .i64 0)]) 24 rfl Try.underlying34 info57 rfl (by decide) (by omega) (.slice Ao29 x3_2.length co29) x3_2 (⟨(rd_T57 t284 x23_2).f0, (rd_T57 t284 x23_2).f1, (rd_T57 t284 x23_2).f2⟩ : S57) [.int .i64 ((rd_T57 t284 x23_2).f0), .int .i64 ((rd_T57 t284 x23_2).f1), .int .i64 ((rd_T57 t284 x23_2).f2)] (fun k_ => some k_ ≠ (.slice (some ad287) t284.length co10 : Value).ownBlock ∧ k_ ≠ gb288) (fun _ => False) rfl rfl ?aP (fun _ hk => hk.elim) ?aF ?aO ?aB ?aS ?aL ?_; (case aP => exact k57_mkM _ _ _ (⟨(rd_T57 t284 x23_2).f0, (rd_T57 t284 x23_2).f1, (rd_T57 t284 x23_2).f2⟩ : S57)); (case aB => exact (zs GE288.out)); (case aF => exact (fun k_ hk => ⟨Kd.fresh' (Kd.R_lt (mR_ HO_21.out)) k_ hk, Kd.freshB (g := gb288) (o := .cells #[.int .i64 ((rd_T57 t284 x23_2).f0), .int .i64 ((rd_T57 t284 x23_2).f1), .int .i64 ((rd_T57 t284 x23_2).f2)] 57 (0, 0)) (mB_ BK288.out) k_ hk⟩)); (case aO => exact (mR_ HO_3.out)); (case aS => exact (below_size (zs GE288.out))); (case aL => have := LMc24.out; omega); intro v292 w32 ho hb hg hat; rw [← Ny291.out] at ho; have n0_ := aM (Kd.R_after (ok := (fun k_ => k_ ≠ gb288)) (by (with_reducible repeat (first | apply Kd.R_alloc | apply Kd.R_drewN | apply Kd.R_drew)); exact Kd.R_mono HO_21.out (fun _ hk => ⟨hk.2, hk.1⟩)) hg hat); have n1_ := aM (blk_grown (g := gb288) (o := .cells #[.int .i64 ((rd_T57 t284 x23_2).f0), .int .i64 ((rd_T57 t284 x23_2).f1), .int .i64 ((rd_T57 t284 x23_2).f2)] 57 (0, 0)) (mB_ BK288.out) hg (Kd.R_away HO_3.out (fun _ hk => hk.2))); have n2_ := aM (hb); have n3_ := aM (ho); clear HO_21; clear BK288; clear HB; clear HO_3; have HO_21 := n0_; have BK288 := n1_; have HB := n2_; have HO293 := n3_; clear n0_ n1_ n2_ n3_; clear ho hb hg hat))
     go_roundg k2
     case measure => have := HK1.out; have := HK2.out; omega
     case rel => exact ⟨(y291), (wrap64 (x23_2 + 1)), zr, H', ⟨by have := HK1.out; have := HK2.out; omega⟩, ⟨by (with_reducible repeat (first | apply Kd.R_alloc | apply Kd.R_drewN | apply Kd.R_drew)); exact Kd.R_mono HO293.out (fun _ hk => hk.1)⟩, ⟨by (with_reducible repeat (first | apply Kd.R_alloc | apply Kd.R_drewN | apply Kd.R_drew)); exact Kd.R_mono HO_21.out (fun _ hk => hk.2)⟩, ⟨zs GE288.out⟩⟩
def impl_IsSolid.f (k : Nat) (l0 : List (S57)) : Option (Bool × Bool) := (impl_isSolid.f k l0).bind fun t294 => (if t294 = true then ((impl_connectedCubes.f k l0).bind fun t295 => (some (true, t295))) else (some (false, false)))
theorem impl_IsSolid.calls (k : Nat) (A0 : Option Addr) (c0 : Nat) (l0 : List (S57)) (r1 : Bool) (r2 : Bool) (w : World) (hr0 : Kd.C k57 w A0 l0.length l0) (hc0 : l0.length ≤ c0) (h : impl_IsSolid.f k l0 = some (r1, r2)) :
  Calls Try.prog 25 #[.slice A0 l0.length c0] w fun e w' => e = .returned (.tuple #[.bool r1, .bool r2]) ∧ Below w.heap.size w w' := by
 have HR0 := aM hr0
 have HC0 := aM hc0
 clear hr0 hc0
 have HB := aM (Below.refl w.heap.size w)
 have H : ((impl_isSolid.f k l0).bind fun t294 => (if t294 = true then ((impl_connectedCubes.f k l0).bind fun t295 => (some (true, t295))) else (some (false, false)))) = some (r1, r2) := h
 clear h
 replace H := Option.bind_eq_some_iff.mp H
 obtain ⟨t294, A20, H⟩ := H
 replace H : (if t294 = true then ((impl_connectedCubes.f k l0).bind fun t295 => (some (true, t295))) else (some (false, false))) = some (r1, r2) := H
 have A2 := aM A20
 clear A20
 by_cases c3 : t294 = true
 rotate_left
 ·replace c3 := Bool.eq_false_iff.mpr c3
  subst c3
  have H1 : (some (false, false)) = some (r1, r2) := by rw [if_neg (show ¬ (false = true) by decide)] at H; exact H
  clear H
  have H := H1
  clear H1
  simp only [Option.some.injEq, Prod.mk.injEq] at H
  obtain ⟨rfl, rfl⟩ := H
  go_enter Try.func25, Try.ntmps25
  go_wp2_with (first | ((with_reducible refine gate_callee (f := 81) rfl ?_); refine goesL_ (some 5) rfl rfl Try.func81 (by kernel_rfl) rfl #[.slice A0 l0.length c0] rfl zm ?_; (with_reducible refine (impl_isSolid.calls k _ _ l0 false _ ?side1 ?side2 A2.out).mono ?_); (case side1 => repeat (first | exact HR0.out | (with_reducible refine Kd.C_alloc ?_ _) | (with_reducible refine Kd.C_drewN ?_ _) | (with_reducible refine Kd.C_drew ?_))); (case side2 => exact HC0.out); rintro e w7 ⟨rfl, hb⟩; refine ⟨_, rfl, ?_⟩; have n0_ := aM (below_step zb hb); clear HB; have HB := n0_; clear n0_; (try clear hb); (try clear hb2); (try clear hk); (try clear hi)))
  go_ret2
  exact ⟨zw, zb⟩
 subst c3
 have H1 : ((impl_connectedCubes.f k l0).bind fun t295 => (some (true, t295))) = some (r1, r2) := by rw [if_pos rfl] at H; exact H
 clear H
 have H := H1
 clear H1
 replace H := Option.bind_eq_some_iff.mp H
 obtain ⟨t295, A40, H⟩ := H
 replace H : (some (true, t295)) = some (r1, r2) := H
 have A4 := aM A40
 clear A40
 simp only [Option.some.injEq, Prod.mk.injEq] at H
 obtain ⟨rfl, rfl⟩ := H
 go_enter Try.func25, Try.ntmps25
 go_wp2_with (first | ((with_reducible refine gate_callee (f := 81) rfl ?_); refine goesL_ (some 5) rfl rfl Try.func81 (by kernel_rfl) rfl #[.slice A0 l0.length c0] rfl zm ?_; (with_reducible refine (impl_isSolid.calls k _ _ l0 true _ ?side1 ?side2 A2.out).mono ?_); (case side1 => repeat (first | exact HR0.out | (with_reducible refine Kd.C_alloc ?_ _) | (with_reducible refine Kd.C_drewN ?_ _) | (with_reducible refine Kd.C_drew ?_))); (case side2 => exact HC0.out); rintro e w5 ⟨rfl, hb⟩; refine ⟨_, rfl, ?_⟩; have n0_ := aM (below_step zb hb); clear HB; have HB := n0_; clear n0_; (try clear hb); (try clear hb2); (try clear hk); (try clear hi)) | ((with_reducible refine gate_callee (f := 86) rfl ?_); refine goesL_ (some 8) rfl rfl Try.func86 (by kernel_rfl) rfl #[.slice A0 l0.length c0] rfl zm ?_; (with_reducible refine (impl_connectedCubes.calls k _ _ l0 t295 _ ?side1 ?side2 A4.out).mono ?_); (case side1 => repeat (first | exact (Kd.C_below HR0.out HB.out) | (with_reducible refine Kd.C_alloc ?_ _) | (with_reducible refine Kd.C_drewN ?_ _) | (with_reducible refine Kd.C_drew ?_))); (case side2 => exact HC0.out); rintro e w6 ⟨rfl, hb⟩; refine ⟨_, rfl, ?_⟩; have n0_ := aM (below_step zb hb); clear HB; have HB := n0_; clear n0_; (try clear hb); (try clear hb2); (try clear hk); (try clear hi)))
 go_ret2
 exact ⟨zw, zb⟩
def laws_FnExactIsSolid.j0 : Nat → List (S88) → List (S57) → Bool → Option (Bool)
 | 0, _, _, _ => none
 | k + 1, x0, x6, x34 => if x34 = true then (some false) else ((laws_toCubeS.f k x0).bind fun t307 => ((laws_eqCubeS.f k x6 t307).bind fun t310 => (if t310 = true then (some true) else (some false))))
def laws_FnExactIsSolid.f (k : Nat) (l0 : List (S88)) : Option (Bool) := (laws_szCubeS.f l0 1048576).bind fun t296 => (if t296 < 0 then (some true) else ((laws_toCubeS.f k l0).bind fun t297 => ((spec_IsSolid.f k t297).bind fun bt300 => ((laws_toCubeS.f k l0).bind fun t302 => ((impl_IsSolid.f k t302).bind fun bt305 => (if (bt305.1 != bt300.1) = true then (laws_FnExactIsSolid.j0 k l0 t302 true) else (laws_FnExactIsSolid.j0 k l0 t302 (bt305.2 != bt300.2))))))))
theorem laws_FnExactIsSolid.calls (k : Nat) (A0 : Option Addr) (c0 : Nat) (l0 : List (S88)) (r : Bool) (w : World) (hr0 : Kd.C k88 w A0 l0.length l0) (hc0 : l0.length ≤ c0) (h : laws_FnExactIsSolid.f k l0 = some r) :
  Calls Try.prog 5 #[.slice A0 l0.length c0] w fun e w' => e = .returned (.bool r) ∧ Below w.heap.size w w' := by
 have HR0 := aM hr0
 have HC0 := aM hc0
 clear hr0 hc0
 have HB := aM (Below.refl w.heap.size w)
 have H : ((laws_szCubeS.f l0 1048576).bind fun t296 => (if t296 < 0 then (some true) else ((laws_toCubeS.f k l0).bind fun t297 => ((spec_IsSolid.f k t297).bind fun bt300 => ((laws_toCubeS.f k l0).bind fun t302 => ((impl_IsSolid.f k t302).bind fun bt305 => (if (bt305.1 != bt300.1) = true then (laws_FnExactIsSolid.j0 k l0 t302 true) else (laws_FnExactIsSolid.j0 k l0 t302 (bt305.2 != bt300.2))))))))) = some r := h
 clear h
 replace H := Option.bind_eq_some_iff.mp H
 obtain ⟨t296, A20, H⟩ := H
 replace H : (if t296 < 0 then (some true) else ((laws_toCubeS.f k l0).bind fun t297 => ((spec_IsSolid.f k t297).bind fun bt300 => ((laws_toCubeS.f k l0).bind fun t302 => ((impl_IsSolid.f k t302).bind fun bt305 => (if (bt305.1 != bt300.1) = true then (laws_FnExactIsSolid.j0 k l0 t302 true) else (laws_FnExactIsSolid.j0 k l0 t302 (bt305.2 != bt300.2)))))))) = some r := H
 have A2 := aM A20
 clear A20
 by_cases c3 : t296 < 0
 ·rw [if_pos c3] at H
  have c3b0 : decide (t296 < 0) = true := decide_eq_true c3
  clear c3
  obtain rfl := Option.some.inj H
  go_enter Try.func5, Try.ntmps5
  go_wp2_with (first | ((with_reducible refine gate_callee (f := 19) rfl ?_); refine goesL_ (some 11) rfl rfl Try.func19 (by kernel_rfl) rfl #[.slice A0 l0.length c0, .int .i64 1048576] rfl zm ?_; (with_reducible refine (laws_szCubeS.calls _ _ l0 1048576 t296 _ ?side1 ?side2 A2.out).mono ?_); (case side1 => repeat (first | exact HR0.out | (with_reducible refine Kd.C_alloc ?_ _) | (with_reducible refine Kd.C_drewN ?_ _) | (with_reducible refine Kd.C_drew ?_))); (case side2 => exact HC0.out); rintro e w' ⟨rfl, ⟨nd, rfl⟩⟩; refine ⟨_, rfl, ?_⟩))
  go_ret
  exact ⟨zw, zb⟩
 rw [if_neg c3] at H
 have c3b0 : decide (t296 < 0) = false := decide_eq_false c3
 clear c3
 replace H := Option.bind_eq_some_iff.mp H
 obtain ⟨t297, A40, H⟩ := H
 replace H : ((spec_IsSolid.f k t297).bind fun bt300 => ((laws_toCubeS.f k l0).bind fun t302 => ((impl_IsSolid.f k t302).bind fun bt305 => (if (bt305.1 != bt300.1) = true then (laws_FnExactIsSolid.j0 k l0 t302 true) else (laws_FnExactIsSolid.j0 k l0 t302 (bt305.2 != bt300.2)))))) = some r := H
 have A4 := aM A40
 clear A40
 replace H := Option.bind_eq_some_iff.mp H
 obtain ⟨⟨t300, t301⟩, A50, H⟩ := H
 replace H : ((laws_toCubeS.f k l0).bind fun t302 => ((impl_IsSolid.f k t302).bind fun bt305 => (if (bt305.1 != t300) = true then (laws_FnExactIsSolid.j0 k l0 t302 true) else (laws_FnExactIsSolid.j0 k l0 t302 (bt305.2 != t301))))) = some r := H
 have A5 := aM A50
 clear A50
 replace H := Option.bind_eq_some_iff.mp H
 obtain ⟨t302, A60, H⟩ := H
 replace H : ((impl_IsSolid.f k t302).bind fun bt305 => (if (bt305.1 != t300) = true then (laws_FnExactIsSolid.j0 k l0 t302 true) else (laws_FnExactIsSolid.j0 k l0 t302 (bt305.2 != t301)))) = some r := H
 have A6 := aM A60
 clear A60
 replace H := Option.bind_eq_some_iff.mp H
 obtain ⟨⟨t305, t306⟩, A70, H⟩ := H
 replace H : (if (t305 != t300) = true then (laws_FnExactIsSolid.j0 k l0 t302 true) else (laws_FnExactIsSolid.j0 k l0 t302 (t306 != t301))) = some r := H
 have A7 := aM A70
 clear A70
 have HC8 := aM H
 clear H
 go_enter Try.func5, Try.ntmps5
 go_upto_region 8 with (first | ((with_reducible refine gate_callee (f := 19) rfl ?_); refine goesL_ (some 11) rfl rfl Try.func19 (by kernel_rfl) rfl #[.slice A0 l0.length c0, .int .i64 1048576] rfl zm ?_; (with_reducible refine (laws_szCubeS.calls _ _ l0 1048576 t296 _ ?side1 ?side2 A2.out).mono ?_); (case side1 => repeat (first | exact HR0.out | (with_reducible refine Kd.C_alloc ?_ _) | (with_reducible refine Kd.C_drewN ?_ _) | (with_reducible refine Kd.C_drew ?_))); (case side2 => exact HC0.out); rintro e w' ⟨rfl, ⟨nd, rfl⟩⟩; refine ⟨_, rfl, ?_⟩) | ((with_reducible refine gate_callee (f := 21) rfl ?_); refine goesL_ (some 16) rfl rfl Try.func21 (by kernel_rfl) rfl #[.slice A0 l0.length c0] rfl zm ?_; (with_reducible refine (laws_toCubeS.calls k _ _ l0 t297 _ ?side1 ?side2 A4.out).mono ?_); (case side1 => repeat (first | exact HR0.out | (with_reducible refine Kd.C_alloc ?_ _) | (with_reducible refine Kd.C_drewN ?_ _) | (with_reducible refine Kd.C_drew ?_))); (case side2 => exact HC0.out); rintro e w9 ⟨v298, rfl, ho0, hb⟩; refine ⟨_, rfl, ?_⟩; have n0_ := aM (Kd.R_lower ho0 (below_size zb)); have n1_ := aM (below_step zb hb); clear HB; have HO299 := n0_; have HB := n1_; clear n0_ n1_; (try clear hb); (try clear hb2); (try clear hk); (try clear hi); (try clear ho0); obtain ⟨Ao10, co10, eo10⟩ := Kd.R_slice HO299.out; subst eo10) | ((with_reducible refine gate_callee (f := 24) rfl ?_); refine goesL_ (some 17) rfl rfl Try.func24 (by kernel_rfl) rfl #[.slice Ao10 t297.length co10] rfl zm ?_; (with_reducible refine (spec_IsSolid.calls k _ _ t297 t300 t301 _ ?side1 ?side2 A5.out).mono ?_); (case side1 => repeat (first | exact (Kd.R_reads' HO299.out).2.2 | (with_reducible refine Kd.C_alloc ?_ _) | (with_reducible refine Kd.C_drewN ?_ _) | (with_reducible refine Kd.C_drew ?_))); (case side2 => exact (Kd.R_reads' HO299.out).2.1); rintro e w11 ⟨rfl, hb⟩; refine ⟨_, rfl, ?_⟩; have n0_ := aM (Kd.R_below (mR_ HO299.out) hb); have n1_ := aM (below_step zb hb); clear HO299; clear HB; have HO299 := n0_; have HB := n1_; clear n0_ n1_; (try clear hb); (try clear hb2); (try clear hk); (try clear hi)) | ((with_reducible refine gate_callee (f := 21) rfl ?_); refine goesL_ (some 21) rfl rfl Try.func21 (by kernel_rfl) rfl #[.slice A0 l0.length c0] rfl zm ?_; (with_reducible refine (laws_toCubeS.calls k _ _ l0 t302 _ ?side1 ?side2 A6.out).mono ?_); (case side1 => repeat (first | exact (Kd.C_below HR0.out HB.out) | (with_reducible refine Kd.C_alloc ?_ _) | (with_reducible refine Kd.C_drewN ?_ _) | (with_reducible refine Kd.C_drew ?_))); (case side2 => exact HC0.out); rintro e w12 ⟨v303, rfl, ho0, hb⟩; refine ⟨_, rfl, ?_⟩; have n0_ := aM (Kd.R_elder' (mR_ HO299.out) (Kd.R_base ho0) hb); have n1_ := aM (Kd.R_lower (Kd.R_new' ho0 (Kd.R_lt (mR_ HO299.out))) (below_size zb)); have n2_ := aM (below_step zb hb); clear HO299; clear HB; have HO299 := n0_; have HO304 := n1_; have HB := n2_; clear n0_ n1_ n2_; (try clear hb); (try clear hb2); (try clear hk); (try clear hi); (try clear ho0); obtain ⟨Ao13, co13, eo13⟩ := Kd.R_slice HO304.out; subst eo13) | ((with_reducible refine gate_callee (f := 25) rfl ?_); refine goesL_ (some 24) rfl rfl Try.func25 (by kernel_rfl) rfl #[.slice Ao13 t302.length co13] rfl zm ?_; (with_reducible refine (impl_IsSolid.calls k _ _ t302 t305 t306 _ ?side1 ?side2 A7.out).mono ?_); (case side1 => repeat (first | exact (Kd.R_reads' HO304.out).2.2 | (with_reducible refine Kd.C_alloc ?_ _) | (with_reducible refine Kd.C_drewN ?_ _) | (with_reducible refine Kd.C_drew ?_))); (case side2 => exact (Kd.R_reads' HO304.out).2.1); rintro e w14 ⟨rfl, hb⟩; refine ⟨_, rfl, ?_⟩; have n0_ := aM (Kd.R_below (mR_ HO299.out) hb); have n1_ := aM (Kd.R_below (mR_ HO304.out) hb); have n2_ := aM (below_step zb hb); clear HO299; clear HO304; clear HB; have HO299 := n0_; have HO304 := n1_; have HB := n2_; clear n0_ n1_ n2_; (try clear hb); (try clear hb2); (try clear hk); (try clear hi)))
 (try simp only [Act.put, xA, xB, xC])
 go_cut [34] (fun v34 wc => ∃ (kq : Nat) (x34_7 : Bool), v34 = .bool x34_7 ∧ Aside0 (laws_FnExactIsSolid.j0 kq l0 t302 x34_7 = some r) ∧ Aside0 (kq ≤ k) ∧ Aside0 (Kd.R k57 57 wc w.heap.size (fun _ => True) (.slice Ao13 t302.length co13) t302) ∧ Aside0 (Below w.heap.size w wc))
 case first =>
  have H := HC8.out
  clear HC8
  by_cases c15 : (t305 != t300) = true
  rotate_left
  ·rw [if_neg c15] at H
   have c15b0 : (t305 != t300) = false := by simpa using c15
   (try (have c15b1 : decide (t305 = t300) = true := by simpa using c15))
   (try (have c15b2 : (t305 == t300) = true := by simpa using c15))
   clear c15
   (first | rw [c15b0] | (simp only [i64_w, i32_w]; rw [c15b0]) | skip)
   have H' := aM H
   clear H
   go_wp2
   go_meet
   case rel => exact ⟨_, ((t306 != t301)), zr, H', ⟨by first | omega | exact Nat.le_refl _⟩, ⟨by (with_reducible repeat (first | apply Kd.R_alloc | apply Kd.R_drewN | apply Kd.R_drew)); exact Kd.R_mono HO304.out (fun _ hk => trivial)⟩, ⟨zb⟩⟩
  rw [if_pos c15] at H
  have c15b0 : (t305 != t300) = true := c15
  (try (have c15b1 : decide (t305 = t300) = false := by simpa using c15))
  (try (have c15b2 : (t305 == t300) = false := by simpa using c15))
  (try (have c15b3 : ¬ (t305 = t300) := by simpa using c15))
  clear c15
  (first | rw [c15b0] | (simp only [i64_w, i32_w]; rw [c15b0]) | skip)
  have H' := aM H
  clear H
  go_wp2
  go_meet
  case rel => exact ⟨_, (true), zr, H', ⟨by first | omega | exact Nat.le_refl _⟩, ⟨by (with_reducible repeat (first | apply Kd.R_alloc | apply Kd.R_drewN | apply Kd.R_drew)); exact Kd.R_mono HO304.out (fun _ hk => trivial)⟩, ⟨zb⟩⟩
 case rest =>
  clear HC8
  try clear c1
  try clear c2
  try clear p2
  try clear c3
  try clear c3b0
  try clear c5
  try clear c15
  try clear c15b0
  try clear c15b1
  try clear c15b2
  obtain ⟨kq, x34_7, rfl, HA, HJ7, HO_6, HB⟩ := hcut
  cases kq with
  | zero => exact absurd HA.out (by simp [laws_FnExactIsSolid.j0])
  | succ kj7 =>
   have H := HA.out
   clear HA
   simp only [laws_FnExactIsSolid.j0] at H
   by_cases c16 : x34_7 = true
   ·subst c16
    have H1 : (some false) = some r := by rw [if_pos rfl] at H; exact H
    clear H
    have H := H1
    clear H1
    obtain rfl := Option.some.inj H
    go_wp2
    go_ret
    exact ⟨zw, zb⟩
   replace c16 := Bool.eq_false_iff.mpr c16
   subst c16
   have H1 : ((laws_toCubeS.f kj7 l0).bind fun t307 => ((laws_eqCubeS.f kj7 t302 t307).bind fun t310 => (if t310 = true then (some true) else (some false)))) = some r := by rw [if_neg (show ¬ (false = true) by decide)] at H; exact H
   clear H
   have H := H1
   clear H1
   replace H := Option.bind_eq_some_iff.mp H
   obtain ⟨t307, A170, H⟩ := H
   replace H : ((laws_eqCubeS.f kj7 t302 t307).bind fun t310 => (if t310 = true then (some true) else (some false))) = some r := H
   have A17 := aM A170
   clear A170
   replace H := Option.bind_eq_some_iff.mp H
   obtain ⟨t310, A180, H⟩ := H
   replace H : (if t310 = true then (some true) else (some false)) = some r := H
   have A18 := aM A180
   clear A180
   by_cases c19 : t310 = true
   ·subst c19
    have H1 : (some true) = some r := by rw [if_pos rfl] at H; exact H
    clear H
    have H := H1
    clear H1
    obtain rfl := Option.some.inj H
    go_wp2_with (first | ((with_reducible refine gate_callee (f := 21) rfl ?_); refine goesL_ (some 37) rfl rfl Try.func21 (by kernel_rfl) rfl #[.slice A0 l0.length c0] rfl zm ?_; (with_reducible refine (laws_toCubeS.calls kj7 _ _ l0 t307 _ ?side1 ?side2 A17.out).mono ?_); (case side1 => repeat (first | exact (Kd.C_below HR0.out HB.out) | (with_reducible refine Kd.C_alloc ?_ _) | (with_reducible refine Kd.C_drewN ?_ _) | (with_reducible refine Kd.C_drew ?_))); (case side2 => exact HC0.out); rintro e w20 ⟨v308, rfl, ho0, hb⟩; refine ⟨_, rfl, ?_⟩; have n0_ := aM (Kd.R_elder' (mR_ HO_6.out) (Kd.R_base ho0) hb); have n1_ := aM (Kd.R_lower (Kd.R_new' ho0 (Kd.R_lt (mR_ HO_6.out))) (below_size zb)); have n2_ := aM (below_step zb hb); clear HO_6; clear HB; have HO_6 := n0_; have HO309 := n1_; have HB := n2_; clear n0_ n1_ n2_; (try clear hb); (try clear hb2); (try clear hk); (try clear hi); (try clear ho0); obtain ⟨Ao21, co21, eo21⟩ := Kd.R_slice HO309.out; subst eo21) | ((with_reducible refine gate_callee (f := 23) rfl ?_); refine goesL_ (some 38) rfl rfl Try.func23 (by kernel_rfl) rfl #[.slice Ao13 t302.length co13, .slice Ao21 t307.length co21] rfl zm ?_; (with_reducible refine (laws_eqCubeS.calls kj7 _ _ t302 _ _ t307 true _ ?side1 ?side2 ?side3 ?side4 A18.out).mono ?_); (case side1 => repeat (first | exact (Kd.R_reads' HO_6.out).2.2 | (with_reducible refine Kd.C_alloc ?_ _) | (with_reducible refine Kd.C_drewN ?_ _) | (with_reducible refine Kd.C_drew ?_))); (case side2 => exact (Kd.R_reads' HO_6.out).2.1); (case side3 => repeat (first | exact (Kd.R_reads' HO309.out).2.2 | (with_reducible refine Kd.C_alloc ?_ _) | (with_reducible refine Kd.C_drewN ?_ _) | (with_reducible refine Kd.C_drew ?_))); (case side4 => exact (Kd.R_reads' HO309.out).2.1); rintro e w22 ⟨rfl, hb⟩; refine ⟨_, rfl, ?_⟩; have n0_ := aM (Kd.R_below (mR_ HO_6.out) hb); have n1_ := aM (Kd.R_below (mR_ HO309.out) hb); have n2_ := aM (below_step zb hb); clear HO_6; clear HO309; clear HB; have HO_6 := n0_; have HO309 := n1_; have HB := n2_; clear n0_ n1_ n2_; (try clear hb); (try clear hb2); (try clear hk); (try clear hi)))
    go_ret
    exact ⟨zw, zb⟩
   replace c19 := Bool.eq_false_iff.mpr c19
   subst c19
   have H1 : (some false) = some r := by rw [if_neg (show ¬ (false = true) by decide)] at H; exact H
   clear H
   have H := H1
   clear H1
   obtain rfl := Option.some.inj H
   go_wp2_with (first | ((with_reducible refine gate_callee (f := 21) rfl ?_); refine goesL_ (some 37) rfl rfl Try.func21 (by kernel_rfl) rfl #[.slice A0 l0.length c0] rfl zm ?_; (with_reducible refine (laws_toCubeS.calls kj7 _ _ l0 t307 _ ?side1 ?side2 A17.out).mono ?_); (case side1 => repeat (first | exact (Kd.C_below HR0.out HB.out) | (with_reducible refine Kd.C_alloc ?_ _) | (with_reducible refine Kd.C_drewN ?_ _) | (with_reducible refine Kd.C_drew ?_))); (case side2 => exact HC0.out); rintro e w23 ⟨v308, rfl, ho0, hb⟩; refine ⟨_, rfl, ?_⟩; have n0_ := aM (Kd.R_elder' (mR_ HO_6.out) (Kd.R_base ho0) hb); have n1_ := aM (Kd.R_lower (Kd.R_new' ho0 (Kd.R_lt (mR_ HO_6.out))) (below_size zb)); have n2_ := aM (below_step zb hb); clear HO_6; clear HB; have HO_6 := n0_; have HO309 := n1_; have HB := n2_; clear n0_ n1_ n2_; (try clear hb); (try clear hb2); (try clear hk); (try clear hi); (try clear ho0); obtain ⟨Ao24, co24, eo24⟩ := Kd.R_slice HO309.out; subst eo24) | ((with_reducible refine gate_callee (f := 23) rfl ?_); refine goesL_ (some 38) rfl rfl Try.func23 (by kernel_rfl) rfl #[.slice Ao13 t302.length co13, .slice Ao24 t307.length co24] rfl zm ?_; (with_reducible refine (laws_eqCubeS.calls kj7 _ _ t302 _ _ t307 false _ ?side1 ?side2 ?side3 ?side4 A18.out).mono ?_); (case side1 => repeat (first | exact (Kd.R_reads' HO_6.out).2.2 | (with_reducible refine Kd.C_alloc ?_ _) | (with_reducible refine Kd.C_drewN ?_ _) | (with_reducible refine Kd.C_drew ?_))); (case side2 => exact (Kd.R_reads' HO_6.out).2.1); (case side3 => repeat (first | exact (Kd.R_reads' HO309.out).2.2 | (with_reducible refine Kd.C_alloc ?_ _) | (with_reducible refine Kd.C_drewN ?_ _) | (with_reducible refine Kd.C_drew ?_))); (case side4 => exact (Kd.R_reads' HO309.out).2.1); rintro e w25 ⟨rfl, hb⟩; refine ⟨_, rfl, ?_⟩; have n0_ := aM (Kd.R_below (mR_ HO_6.out) hb); have n1_ := aM (Kd.R_below (mR_ HO309.out) hb); have n2_ := aM (below_step zb hb); clear HO_6; clear HO309; clear HB; have HO_6 := n0_; have HO309 := n1_; have HB := n2_; clear n0_ n1_ n2_; (try clear hb); (try clear hb2); (try clear hk); (try clear hi)))
   go_ret
   exact ⟨zw, zb⟩
end Go.Proofs.Ytabdmdkoffpppaa.F
end
section
namespace Go.Proofs.Ytabdmdkoffpppaa.Open
open Go.ChangeShapes Go.WideShapes Go.Deep Go.RowKit Go.Proofs.YtabdmdkoffpppaaW.PrintWords
def Opens {α : Type} (P : Program) (d : Kd α) (t : TypeId) (V : α → Prop) : Prop :=
  ∀ (H : Type) (enc : TypeId × Value → H) (w : World) (base : Nat) (spare : Nat → Bool) (held : Bool) (fuel : Nat) (cs : List Value) (x : DataW H × List MemPlace),
    DataW.trod enc P w base spare held fuel t cs = some x → ∃ a : α, d.K w a cs ∧ V a
theorem Opens.int {P : Program} {t : TypeId} {k : IntKind} (ht : P.underlying t = some (.int k)) : Opens P (Kd.int k) t (fun a => (Lit.int k a).wf = true) := by
  intro H enc w base spare held fuel cs x h
  obtain ⟨n, hcs, _, hw⟩ := DataW.trod_int ht h
  exact ⟨n, hcs, hw⟩
theorem Opens.bool {P : Program} {t : TypeId} (ht : P.underlying t = some .bool) : Opens P Kd.bool t (fun _ => True) := by
  intro H enc w base spare held fuel cs x h
  obtain ⟨b, hcs, _⟩ := DataW.trod_bool ht h
  exact ⟨b, hcs, trivial⟩
theorem Opens.slice {α : Type} [Inhabited α] {P : Program} {t e : TypeId} {d : Kd α} {V : α → Prop} (ht : P.underlying t = some (.slice e)) (hsz : P.cellsOf e = d.sz) (ho : Opens P d e V) :
    Opens P (Kd.slice e d) t (fun l => l.length ≤ 9223372036854775807 ∧ ∀ a ∈ l, V a) := by
  intro H enc w base spare held fuel cs x h
  rcases open_slice ht h with ⟨rfl, _⟩ | ⟨a, len, cap, m, n, D, Pl, rfl, hb, hl, hm, hmm, _, hi⟩
  · exact ⟨[], ⟨none, 0, rfl, Nat.le_refl _, rfl, by simp, fun hp => absurd hp (by simp)⟩, by simp, by simp⟩
  · have hlm : len ≤ m := by rw [hmm]; split <;> omega
    have hx : ∀ i, i < len → ∃ y : α, V y ∧ ∃ c : List Value, c.length = d.sz ∧ d.K w y c ∧ ∀ j u, c[j]? = some u → w.cell? (a.add (i * d.sz + j)) = some u := by
      intro i hil
      obtain ⟨cs', hc, ht'⟩ := hi i (by omega)
      obtain ⟨y, hk, hv⟩ := ho H enc w base spare held n cs' _ ht'
      obtain ⟨_, hcl, hat⟩ := World.cells?_some hc
      refine ⟨y, hv, cs', d.K_len hk, hk, fun j u hj => ?_⟩
      have hjl : j < cs'.length := (List.getElem?_eq_some_iff.1 hj).1
      have := hat j (by rw [hsz, ← d.K_len hk]; exact hjl)
      rw [Go.Deep.add_add, hsz] at this
      rw [this, hj]
    obtain ⟨f, hf⟩ := choose_lt hx
    have hlen : ((List.range len).map f).length = len := by simp
    refine ⟨(List.range len).map f, ⟨some a, cap, by rw [hlen], by rw [hlen]; exact hl, rfl, ?_, fun _ => ⟨a, rfl, fun j p hj => ?_⟩⟩, ?_⟩
    · rw [hlen]; unfold maxLen at hm; omega
    · have hjl : j < len := by
        have := (List.getElem?_eq_some_iff.1 hj).1
        rwa [hlen] at this
      have hp : f j = p := by
        rw [List.getElem?_map, List.getElem?_range hjl] at hj
        simpa using hj
      obtain ⟨_, c, h1, h2, h3⟩ := hf j hjl
      rw [hp] at h2
      exact ⟨c, h1, h2, h3⟩
    · refine ⟨by rw [hlen]; unfold maxLen at hm; omega, fun y hy => ?_⟩
      obtain ⟨i, hi', rfl⟩ := List.mem_map.1 hy
      exact (hf i (List.mem_range.1 hi')).1
theorem cut2 {cs : List Value} {n m : Nat} (h : cs.length = n + m) : cs = (cs.drop 0).take n ++ (cs.drop n).take m := by
  rw [List.drop_zero, List.take_of_length_le (l := cs.drop n) (by rw [List.length_drop]; omega), List.take_append_drop]
theorem Opens.struct3 {α β γ δ : Type} {P : Program} {t : TypeId} {f0 f1 f2 : Field} {d0 : Kd α} {d1 : Kd β} {d2 : Kd γ} {V0 : α → Prop} {V1 : β → Prop} {V2 : γ → Prop} (g : δ → α × β × γ) (g' : α → β → γ → δ) (hg : ∀ x y z, g (g' x y z) = (x, y, z))
    (ht : P.underlying t = some (.struct #[f0, f1, f2])) (o0 : f0.offset = 0) (o1 : f1.offset = d0.sz) (o2 : f2.offset = d0.sz + d1.sz) (s0 : P.cellsOf f0.type = d0.sz) (s1 : P.cellsOf f1.type = d1.sz) (s2 : P.cellsOf f2.type = d2.sz) (sz : P.cellsOf t = d0.sz + (d1.sz + d2.sz))
    (h0 : Opens P d0 f0.type V0) (h1 : Opens P d1 f1.type V1) (h2 : Opens P d2 f2.type V2) : Opens P (Kd.iso (Kd.pair d0 (Kd.pair d1 d2)) g) t (fun a => V0 (g a).1 ∧ V1 (g a).2.1 ∧ V2 (g a).2.2) := by
  intro H enc w base spare held fuel cs x h
  obtain ⟨y0, y1, y2, n, _, hl, t0, t1, t2⟩ := trod_struct3 ht h
  rw [o0, s0] at t0
  rw [o1, s1] at t1
  rw [o2, s2] at t2
  obtain ⟨x0, k0, v0⟩ := h0 _ _ _ _ _ _ _ _ _ t0
  obtain ⟨x1, k1, v1⟩ := h1 _ _ _ _ _ _ _ _ _ t1
  obtain ⟨x2, k2, v2⟩ := h2 _ _ _ _ _ _ _ _ _ t2
  refine ⟨g' x0 x1 x2, ?_, ?_⟩
  · show ∃ c0 c1, cs = c0 ++ c1 ∧ d0.K w (g (g' x0 x1 x2)).1 c0 ∧ ∃ c2 c3, c1 = c2 ++ c3 ∧ d1.K w (g (g' x0 x1 x2)).2.1 c2 ∧ d2.K w (g (g' x0 x1 x2)).2.2 c3
    rw [hg]
    refine ⟨_, _, cut2 (n := d0.sz) (m := d1.sz + d2.sz) (by rw [hl, sz]), k0, (cs.drop d0.sz).take d1.sz, (cs.drop (d0.sz + d1.sz)).take d2.sz, ?_, k1, k2⟩
    rw [← List.drop_drop, List.take_of_length_le (l := cs.drop d0.sz) (by rw [List.length_drop]; omega)]
    have := cut2 (cs := cs.drop d0.sz) (n := d1.sz) (m := d2.sz) (by rw [List.length_drop]; omega)
    rwa [List.drop_zero] at this
  · simp only [hg]; exact ⟨v0, v1, v2⟩
theorem arg_open {α : Type} {P : Program} {t : TypeId} {d : Kd α} {V : α → Prop} (ho : Opens P d t V) {H : Type} {enc : TypeId × Value → H} {w : World} {base : Nat} {spare : Nat → Bool} {held : Bool} {v : Value} {x : DataW H} {p : List MemPlace}
    (h : DataW.Trod enc P w base spare held t v x p) : ∃ a : α, d.K w a v.cells.toList ∧ V a := by
  obtain ⟨fuel, hf⟩ := h
  exact ho _ _ _ _ _ _ _ _ _ hf
theorem slice_arg {α : Type} {d : Kd α} {e : Nat} {w : World} {l : List α} {a : Option Addr} {len cap : Nat} (h : (Kd.slice e d).K w l (Value.slice a len cap).cells.toList) : l.length = len ∧ l.length ≤ cap ∧ d.C w a l.length l := by
  obtain ⟨A, c, hcs, hl, hr⟩ := h
  simp [Value.cells] at hcs
  obtain ⟨rfl, rfl, rfl⟩ := hcs
  exact ⟨rfl, hl, hr⟩
end Go.Proofs.Ytabdmdkoffpppaa.Open
end
section
namespace Go.Proofs.Ytabdmdkoffpppaa.F
open Go.RowKit Go.Proofs.YtabdmdkoffpppaaW.PrintWords Go.Proofs.Ytabdmdkoffpppaa.Open
instance : Inhabited S88 := ⟨⟨default, default, default⟩⟩
def V88 : S88 → Prop := fun a => (fun a => (Lit.int .i64 a).wf = true) a.f0 ∧ (fun a => (Lit.int .i64 a).wf = true) a.f1 ∧ (fun a => (Lit.int .i64 a).wf = true) a.f2
theorem O88 : Opens Try.prog k88 88 V88 :=
  Opens.struct3 (fun x : S88 => (x.f0, x.f1, x.f2)) (fun a b c => ⟨a, b, c⟩) (fun _ _ _ => rfl) Try.underlying88 rfl rfl rfl (by kernel_rfl) (by kernel_rfl) (by kernel_rfl) (by kernel_rfl) (Opens.int Try.underlying2) (Opens.int Try.underlying2) (Opens.int Try.underlying2)
end Go.Proofs.Ytabdmdkoffpppaa.F
end
section
namespace Go.Proofs.Ytabdmdkoffpppaa.L
open Go.RowKit Go.Proofs.YtabdmdkoffpppaaW.PrintWords
theorem Ev.pos {α : Type} {c : Prop} [Decidable c] {f g : Nat → Option α} {r : α} (h : c) (e : Ev f r) : Ev (fun k => if c then f k else g k) r := by
  obtain ⟨K, e⟩ := e
  exact ⟨K, fun k hk => (if_pos h).trans (e k hk)⟩
theorem Ev.neg {α : Type} {c : Prop} [Decidable c] {f g : Nat → Option α} {r : α} (h : ¬ c) (e : Ev g r) : Ev (fun k => if c then f k else g k) r := by
  obtain ⟨K, e⟩ := e
  exact ⟨K, fun k hk => (if_neg h).trans (e k hk)⟩
theorem Ev.if_ {α : Type} {c : Prop} [Decidable c] {f g : Nat → Option α} {r s : α} (h : c → Ev f r) (h' : ¬ c → Ev g s) : Ev (fun k => if c then f k else g k) (if c then r else s) := by
  by_cases hc : c
  · rw [if_pos hc]; exact Ev.pos hc (h hc)
  · rw [if_neg hc]; exact Ev.neg hc (h' hc)
theorem Ev.of_eq {α : Type} {g : Nat → Option α} {r s : α} (h : Ev g r) (e : r = s) : Ev g s := e ▸ h
theorem Ev.bind0 {α β : Type} {o : Option α} {f : Nat → α → Option β} {a : α} {r : β} (h : o = some a) (k : Ev (fun n => f n a) r) : Ev (fun n => o.bind (f n)) r := by
  subst h
  exact k
theorem Ev.succ {α : Type} {g : Nat → Option α} {r : α} (h : Ev (fun k => g (k + 1)) r) : Ev g r := by
  obtain ⟨K, h⟩ := h
  refine ⟨K + 1, fun n hn => ?_⟩
  obtain ⟨m, rfl⟩ : ∃ m, n = m + 1 := ⟨n - 1, by omega⟩
  exact h m (by omega)
theorem w64 {n : Int} (h : -9223372036854775808 ≤ n) (h' : n ≤ 9223372036854775807) : wrap64 n = n := by
  unfold wrap64
  omega
theorem getD_at {α : Type} (pre suf : List α) (c d : α) : (pre ++ c :: suf).getD (pre.length : Int).toNat d = c := by
  simp [List.getD]
end Go.Proofs.Ytabdmdkoffpppaa.L
namespace Go.Proofs.Ytabdmdkoffpppaa.L
open Go.RowKit Go.Proofs.YtabdmdkoffpppaaW.PrintWords
theorem loop_list {α σ ρ : Type} (xs : List α) (l : Nat → Int → σ → Option ρ) (g : List α → List α → σ → ρ) (Inv : List α → σ → Prop)
    (hn : ∀ s, Inv xs s → Ev (fun k => l (k + 1) (xs.length : Int) s) (g xs [] s))
    (hs : ∀ (pre : List α) (c : α) (suf : List α) (s : σ), xs = pre ++ c :: suf → Inv pre s → (∀ s', Inv (pre ++ [c]) s' → Ev (fun k => l k ((pre.length : Int) + 1) s') (g (pre ++ [c]) suf s')) → Ev (fun k => l (k + 1) (pre.length : Int) s) (g pre (c :: suf) s)) :
    ∀ s, Inv [] s → Ev (fun k => l k 0 s) (g [] xs s) := by
  have key : ∀ (suf pre : List α), xs = pre ++ suf → ∀ s, Inv pre s → Ev (fun k => l k (pre.length : Int) s) (g pre suf s) := by
    intro suf
    induction suf with
    | nil =>
      intro pre hx s hi
      rw [List.append_nil] at hx
      subst hx
      exact Ev.succ (hn s hi)
    | cons c suf ih =>
      intro pre hx s hi
      refine Ev.succ (hs pre c suf s hx hi fun s' hi' => ?_)
      have := ih (pre ++ [c]) (by rw [hx]; simp) s' hi'
      rw [List.length_append] at this
      exact this
  intro s hi
  exact key xs [] rfl s hi
end Go.Proofs.Ytabdmdkoffpppaa.L
end
section
namespace Go.Proofs.Ytabdmdkoffpppaa.L
open Go.RowKit Go.Proofs.YtabdmdkoffpppaaW.PrintWords Go.Proofs.YtabdmdkoffpppaaW.PrintLast Go.Proofs.YtabdmdkoffpppaaW.PrintMore Go.Proofs.Ytabdmdkoffpppaa.F
set_option linter.unusedVariables false
set_option linter.unusedSimpArgs false
theorem in_eq (a b c : Int) : spec_l01In.f a b c = some (decide (b ≤ a ∧ a ≤ c)) := by
  unfold spec_l01In.f
  by_cases h : a ≥ b
  · rw [if_pos h]; simp [show b ≤ a from h]
  · rw [if_neg h]; simp [show ¬ b ≤ a from h]
theorem within_eq (a b c : Int) : impl_within.f a b c = some (decide (b ≤ a ∧ a ≤ c)) := by
  unfold impl_within.f
  by_cases h : a ≥ b
  · rw [if_pos h]; simp [show b ≤ a from h]
  · rw [if_neg h]; simp [show ¬ b ≤ a from h]
def ok1 (n : Int) : Prop := -100 ≤ n ∧ n ≤ 100
instance (n : Int) : Decidable (ok1 n) := by unfold ok1; infer_instance
theorem isCoordinate_eq (n : Int) : impl_isCoordinate.f n = some (decide (ok1 n)) := by
  unfold impl_isCoordinate.f
  rw [within_eq]
  rfl
theorem l02Cell_eq (x y : Int) : spec_l02Cell.f x y = some (decide (ok1 x ∧ ok1 y)) := by
  unfold spec_l02Cell.f
  rw [in_eq, in_eq]
  simp only [Option.bind_some]
  by_cases h : -100 ≤ x ∧ x ≤ 100
  · have h' : ok1 x := h
    simp only [h, and_self, decide_true, if_true, true_and, h', ok1]
  · have h' : ¬ ok1 x := h
    simp [h, h']
def small {α : Type} (l : List α) : Prop := l.length ≤ 4611686018427387904
theorem pre_lt {α : Type} {xs pre suf : List α} {c : α} (h : xs = pre ++ c :: suf) : ((pre.length : Int) < (xs.length : Int)) = True := by
  subst h; simp; omega
theorem pre_w {α : Type} {xs pre suf : List α} {c : α} (h : xs = pre ++ c :: suf) (hs : small xs) : wrap64 ((pre.length : Int) + 1) = (pre.length : Int) + 1 := by
  subst h
  unfold small at hs
  rw [List.length_append, List.length_cons] at hs
  exact w64 (by omega) (by omega)
theorem pre_0 {α : Type} (pre : List α) : (0 ≤ (pre.length : Int)) = True := by simp
theorem len_lt {α : Type} (xs : List α) : ((xs.length : Int) < (xs.length : Int)) = False := by simp
def cmpI (a b : Int) : Int := if a < b then -1 else if a > b then 1 else 0
theorem compare_eq (a b : Int) : cmp_Compare_int64.f a b = some (cmpI a b) := by
  unfold cmp_Compare_int64.f cmp_isNaN_int64.f cmpI
  simp only [bne_self_eq_false, Option.bind_some, Bool.false_eq_true, if_false]
  split
  · rfl
  · split <;> rfl
abbrev Cube := S57
abbrev LCube := S88
def okQ (c : Cube) : Prop := ok1 c.f0 ∧ ok1 c.f1 ∧ ok1 c.f2
instance (c : Cube) : Decidable (okQ c) := by unfold okQ; infer_instance
def ltQ (a b : Cube) : Prop := a.f2 < b.f2 ∨ a.f2 = b.f2 ∧ (a.f1 < b.f1 ∨ a.f1 = b.f1 ∧ a.f0 < b.f0)
instance (a b : Cube) : Decidable (ltQ a b) := by unfold ltQ; infer_instance
theorem ltQ_trans {a b c : Cube} (h : ltQ a b) (h' : ltQ b c) : ltQ a c := by unfold ltQ at *; omega
theorem at_preQ {xs pre suf : List Cube} {c : Cube} (h : xs = pre ++ c :: suf) : rd_T57 xs (pre.length : Int) = c := by
  subst h; exact getD_at pre suf c _
theorem at_preLQ {xs pre suf : List LCube} {c : LCube} (h : xs = pre ++ c :: suf) : rd_T88 xs (pre.length : Int) = c := by
  subst h; exact getD_at pre suf c _
theorem less9_eq (a b : Cube) : spec_l09Less.f a.f0 a.f1 a.f2 b.f0 b.f1 b.f2 = some (decide (ltQ a b)) := by
  unfold spec_l09Less.f ltQ
  by_cases h2 : a.f2 < b.f2
  · simp [h2]
  · by_cases e2 : a.f2 = b.f2
    · by_cases h1 : a.f1 < b.f1
      · simp [e2, h1]
      · by_cases e1 : a.f1 = b.f1
        · simp [e2, e1]
        · simp [e2, h1, e1]
    · simp [h2, e2]
def cmpV (a b : Cube) : Int := if cmpI a.f2 b.f2 = 0 then (if cmpI a.f1 b.f1 = 0 then cmpI a.f0 b.f0 else cmpI a.f1 b.f1) else cmpI a.f2 b.f2
theorem cmpV_ge {a b : Cube} : cmpV a b ≥ 0 ↔ ¬ ltQ a b := by
  unfold cmpV cmpI ltQ
  repeat' split
  all_goals constructor <;> intro h <;> omega
theorem cmpV_eq (a b : Cube) : impl_compareCubes.f a.f0 a.f1 a.f2 b.f0 b.f1 b.f2 = some (cmpV a b) := by
  unfold impl_compareCubes.f impl_compareCells.f cmpV
  simp only [compare_eq, Option.bind_some]
  repeat' split
  all_goals rfl
theorem l09Cube_eq (c : Cube) : spec_l09Cube.f c.f0 c.f1 c.f2 = some (decide (okQ c)) := by
  unfold spec_l09Cube.f
  rw [l02Cell_eq, in_eq]
  simp only [Option.bind_some]
  by_cases h : ok1 c.f0 ∧ ok1 c.f1
  · rw [decide_eq_true h, if_pos rfl]
    simp only [okQ, ok1, h.1, h.2, true_and]
    have h1 := h.1
    have h2 := h.2
    unfold ok1 at h1 h2
    simp [h1, h2]
  · rw [decide_eq_false h, if_neg (by simp)]
    have : ¬ okQ c := fun h' => h ⟨h'.1, h'.2.1⟩
    rw [decide_eq_false this]
def goodFromQ : Option Cube → List Cube → Bool
  | _, [] => true
  | p, c :: r => decide (okQ c) && (match p with | none => true | some q => decide (ltQ q c)) && goodFromQ (some c) r
def solidB (l : List Cube) : Bool := goodFromQ none l && decide (1 ≤ (l.length : Int) ∧ (l.length : Int) ≤ 24)
theorem specSolid_ev (l : List Cube) (hs : small l) : Ev (fun k => spec_l09Solid.f k l) (solidB l) := by
  unfold spec_l09Solid.f
  refine loop_list l (fun k i (_ : Unit) => spec_l09Solid.l0 k l i) (fun pre suf _ => goodFromQ pre.getLast? suf && decide (1 ≤ (l.length : Int) ∧ (l.length : Int) ≤ 24)) (fun _ _ => True) ?_ ?_ () trivial
  · intro _ _
    simp only [spec_l09Solid.l0, len_lt, if_false, in_eq, Option.bind_some]
    refine Ev.of_eq (Ev.now _) ?_
    simp [goodFromQ]
  · intro pre c suf _ hx _ ih
    simp only [spec_l09Solid.l0, pre_lt hx, pre_0, if_true, at_preQ hx, l09Cube_eq, Option.bind_some, pre_w hx hs]
    by_cases hc : okQ c
    · simp only [hc, decide_true, if_true]
      rcases List.eq_nil_or_concat pre with rfl | ⟨L, b, rfl⟩
      · refine Ev.neg (by simp) (Ev.of_eq (ih () trivial) ?_)
        simp [goodFromQ, hc]
      · rw [List.concat_eq_append] at hx ih ⊢
        have hx2 : l = L ++ b :: (c :: suf) := by rw [hx]; simp
        have e1 : wrap64 (((L ++ [b]).length : Int) - 1) = (L.length : Int) := by
          unfold small at hs
          rw [hx2] at hs
          simp only [List.length_append, List.length_cons, List.length_nil] at hs ⊢
          rw [w64 (by omega) (by omega)]; omega
        refine Ev.pos (by simp <;> omega) ?_
        simp only [e1, pre_0, if_true, pre_lt hx2, at_preQ hx2, less9_eq, Option.bind_some]
        by_cases hl : ltQ b c
        · refine Ev.pos (by simpa using hl) (Ev.of_eq (ih () trivial) ?_)
          simp [goodFromQ, hc, hl]
        · refine Ev.neg (by simpa using hl) (Ev.of_eq (Ev.now _) ?_)
          simp [goodFromQ, hc, hl]
    · simp only [hc, decide_false, Bool.false_eq_true, if_false]
      refine Ev.of_eq (Ev.now _) ?_
      simp [goodFromQ, hc]
theorem implSolid_ev (l : List Cube) (hs : small l) : Ev (fun k => impl_isSolid.f k l) (solidB l) := by
  unfold impl_isSolid.f
  refine loop_list l (fun k i (_ : Unit) => impl_isSolid.l0 k l l (l.length : Int) i) (fun pre suf _ => goodFromQ pre.getLast? suf && decide (1 ≤ (l.length : Int) ∧ (l.length : Int) ≤ 24)) (fun _ _ => True) ?_ ?_ () trivial
  · intro _ _
    simp only [impl_isSolid.l0, len_lt, if_false]
    refine Ev.of_eq (Ev.if_ (fun _ => Ev.now _) (fun _ => Ev.now _)) ?_
    by_cases h : (l.length : Int) ≥ 1
    · rw [if_pos h]; simp [goodFromQ, show 1 ≤ (l.length : Int) from h]
    · rw [if_neg h]; simp [goodFromQ, show ¬ 1 ≤ (l.length : Int) from h]
  · intro pre c suf _ hx _ ih
    simp only [impl_isSolid.l0, pre_lt hx, pre_0, if_true, at_preQ hx, isCoordinate_eq, Option.bind_some, pre_w hx hs]
    by_cases h0 : ok1 c.f0
    · by_cases h1 : ok1 c.f1
      · by_cases h2 : ok1 c.f2
        · have hc : okQ c := ⟨h0, h1, h2⟩
          simp only [h0, h1, h2, decide_true, if_true]
          rcases List.eq_nil_or_concat pre with rfl | ⟨L, b, rfl⟩
          · refine Ev.neg (by simp) (Ev.of_eq (ih () trivial) ?_)
            simp [goodFromQ, hc]
          · rw [List.concat_eq_append] at hx ih ⊢
            have hx2 : l = L ++ b :: (c :: suf) := by rw [hx]; simp
            have e1 : wrap64 (((L ++ [b]).length : Int) - 1) = (L.length : Int) := by
              unfold small at hs
              rw [hx2] at hs
              simp only [List.length_append, List.length_cons, List.length_nil] at hs ⊢
              rw [w64 (by omega) (by omega)]; omega
            refine Ev.pos (by simp <;> omega) ?_
            simp only [e1, pre_0, if_true, pre_lt hx2, at_preQ hx2, cmpV_eq, Option.bind_some]
            by_cases hl : ltQ b c
            · refine Ev.neg (fun h => cmpV_ge.1 h hl) (Ev.of_eq (ih () trivial) ?_)
              simp [goodFromQ, hc, hl]
            · refine Ev.pos (cmpV_ge.2 hl) (Ev.of_eq (Ev.now _) ?_)
              simp [goodFromQ, hc, hl]
        · have hc : ¬ okQ c := fun h => h2 h.2.2
          simp only [h0, h1, h2, decide_true, if_true, decide_false, Bool.false_eq_true, if_false]
          refine Ev.of_eq (Ev.now _) ?_
          simp [goodFromQ, hc]
      · have hc : ¬ okQ c := fun h => h1 h.2.1
        simp only [h0, h1, decide_true, if_true, decide_false, Bool.false_eq_true, if_false]
        refine Ev.of_eq (Ev.now _) ?_
        simp [goodFromQ, hc]
    · have hc : ¬ okQ c := fun h => h0 h.1
      simp only [h0, decide_false, Bool.false_eq_true, if_false]
      refine Ev.of_eq (Ev.now _) ?_
      simp [goodFromQ, hc]
theorem goodFromQ_ok : ∀ (l : List Cube) (p : Option Cube), goodFromQ p l = true → ∀ c ∈ l, okQ c
  | [], _, _, c, h => by simp at h
  | a :: r, p, hg, c, h => by
    simp only [goodFromQ, Bool.and_eq_true, decide_eq_true_eq] at hg
    rcases List.mem_cons.1 h with rfl | h
    · exact hg.1.1
    · exact goodFromQ_ok r _ hg.2 c h
theorem goodFromQ_lt : ∀ (l : List Cube) (p : Option Cube), goodFromQ p l = true → (∀ q, p = some q → ∀ c ∈ l, ltQ q c) ∧ l.Pairwise ltQ
  | [], _, _ => ⟨fun _ _ c h => by simp at h, List.Pairwise.nil⟩
  | a :: r, p, hg => by
    simp only [goodFromQ, Bool.and_eq_true, decide_eq_true_eq] at hg
    obtain ⟨h1, h2⟩ := goodFromQ_lt r (some a) hg.2
    have h3 := h1 a rfl
    refine ⟨fun q hq c hc => ?_, List.pairwise_cons.2 ⟨h3, h2⟩⟩
    subst hq
    have h4 : ltQ q a := by simpa using hg.1.2
    rcases List.mem_cons.1 hc with rfl | hc
    · exact h4
    · exact ltQ_trans h4 (h3 c hc)
theorem goodFromQ_of : ∀ (l : List Cube) (p : Option Cube), (∀ c ∈ l, okQ c) → (∀ q, p = some q → ∀ c ∈ l, ltQ q c) → l.Pairwise ltQ → goodFromQ p l = true
  | [], _, _, _, _ => rfl
  | a :: r, p, h0, h1, h2 => by
    obtain ⟨h3, h4⟩ := List.pairwise_cons.1 h2
    simp only [goodFromQ, Bool.and_eq_true, decide_eq_true_eq]
    refine ⟨⟨h0 a List.mem_cons_self, ?_⟩, goodFromQ_of r (some a) (fun c hc => h0 c (List.mem_cons_of_mem _ hc)) (fun q hq c hc => by injection hq with hq; subst hq; exact h3 c hc) h4⟩
    cases p with
    | none => rfl
    | some q => simpa using h1 q rfl a List.mem_cons_self
theorem solidB_iff {l : List Cube} : solidB l = true ↔ (∀ c ∈ l, okQ c) ∧ l.Pairwise ltQ ∧ 1 ≤ l.length ∧ l.length ≤ 24 := by
  unfold solidB
  rw [Bool.and_eq_true, decide_eq_true_eq]
  constructor
  · rintro ⟨h, h'⟩
    exact ⟨goodFromQ_ok l _ h, (goodFromQ_lt l _ h).2, by omega, by omega⟩
  · rintro ⟨h1, h2, h3, h4⟩
    exact ⟨goodFromQ_of l none h1 (fun _ h => by cases h) h2, by omega, by omega⟩
theorem eqCube_eq (a b c d e f : Int) : laws_eqCube.f a b c d e f = some (decide (a = d ∧ b = e ∧ c = f)) := by
  unfold laws_eqCube.f
  by_cases h : a = d
  · by_cases h' : b = e
    · by_cases h'' : c = f <;> simp [h, h', h'']
    · simp [h, h']
  · simp [h]
theorem eqCubeS_ev (a : List Cube) (ha : small a) : Ev (fun k => laws_eqCubeS.f k a a) true := by
  unfold laws_eqCubeS.f
  refine Ev.pos rfl ?_
  refine loop_list a (fun k i (_ : Unit) => laws_eqCubeS.l0 k a a i) (fun _ _ _ => true) (fun _ _ => True) ?_ ?_ () trivial
  · intro _ _
    simp only [laws_eqCubeS.l0, len_lt, if_false]
    exact Ev.now _
  · intro pre c suf _ hx _ ih
    simp only [laws_eqCubeS.l0, pre_lt hx, pre_0, if_true, at_preQ hx, eqCube_eq, and_self, decide_true, Option.bind_some, pre_w hx ha]
    exact ih () trivial
def cubeOf (c : LCube) : Cube := ⟨c.f0, c.f1, c.f2⟩
theorem toCube_eq (x y z : Int) : laws_toCube.f x y z = some (x, y, z) := rfl
theorem toCubeS_ev (a : List LCube) (ha : a.length ≤ 1048576) : Ev (fun k => laws_toCubeS.f k a) (a.map cubeOf) := by
  have hs : small a := by unfold small; omega
  unfold laws_toCubeS.f
  refine Ev.pos (by omega) (Ev.pos (by omega) ?_)
  have := loop_list a (fun k i (s : List Cube) => laws_toCubeS.l0 k a s i) (fun _ suf s => s.take (a.length - suf.length) ++ suf.map cubeOf) (fun pre s => s.length = a.length) ?_ ?_ (List.replicate a.length z57) (by simp)
  · refine Ev.of_eq this ?_
    simp
  · intro s hl
    simp only [laws_toCubeS.l0, len_lt, if_false]
    refine Ev.of_eq (Ev.now _) ?_
    simp [List.take_of_length_le, hl]
  · intro pre c suf s hx hl ih
    have hlt : ((pre.length : Int) < (s.length : Int)) = True := by rw [hl]; exact pre_lt hx
    simp only [laws_toCubeS.l0, pre_lt hx, pre_0, if_true, at_preLQ hx, toCube_eq, Option.bind_some, hlt, pre_w hx hs]
    refine Ev.of_eq (ih (s.set (pre.length : Int).toNat ⟨c.f0, c.f1, c.f2⟩) (by simpa using hl)) ?_
    have hn : a.length = pre.length + (suf.length + 1) := by rw [hx]; simp
    have e1 : a.length - suf.length = pre.length + 1 := by omega
    have e2 : a.length - (c :: suf).length = pre.length := by simp; omega
    rw [e1, e2, Int.toNat_natCast, List.take_add_one, List.getElem?_set_self (by omega), List.take_set_of_le (Nat.le_refl _)]
    simp [cubeOf]
theorem szCubeS_eq (a : List LCube) (n : Int) (h0 : 0 ≤ n) (h1 : n ≤ 1048576) (ha : a.length ≤ 9223372036854775807) : laws_szCubeS.f a n = some (if n - (a.length : Int) < 0 then -1 else n - (a.length : Int)) := by
  unfold laws_szCubeS.f
  rw [w64 (by omega) (by omega)]
  split <;> rfl
def sameQ (a b : Cube) : Bool := decide (a.f0 = b.f0) && (decide (a.f1 = b.f1) && decide (a.f2 = b.f2))
theorem sameQ_iff {a b : Cube} : sameQ a b = true ↔ a = b := by
  obtain ⟨a0, a1, a2⟩ := a
  obtain ⟨b0, b1, b2⟩ := b
  simp [sameQ]
def idxFQ : List Cube → Cube → Int → Int
  | [], _, _ => -1
  | a :: r, c, i => if sameQ a c = true then i else idxFQ r c (i + 1)
def idxQ (l : List Cube) (c : Cube) : Int := idxFQ l c 0
theorem specIndexQ_ev (l : List Cube) (c : Cube) (hs : small l) : Ev (fun k => spec_l09Index.f k l c.f0 c.f1 c.f2) (idxQ l c) := by
  unfold spec_l09Index.f
  refine loop_list l (fun k i (_ : Unit) => spec_l09Index.l0 k l i c.f0 c.f1 c.f2) (fun pre suf _ => idxFQ suf c (pre.length : Int)) (fun _ _ => True) ?_ ?_ () trivial
  · intro _ _
    simp only [spec_l09Index.l0, len_lt, if_false]
    exact Ev.now _
  · intro pre d suf _ hx _ ih
    simp only [spec_l09Index.l0, pre_lt hx, pre_0, if_true, at_preQ hx, pre_w hx hs, idxFQ]
    have e : (d.f0 == c.f0 && (d.f1 == c.f1 && d.f2 == c.f2)) = sameQ d c := by simp [sameQ, BEq.beq]
    rw [e]
    refine Ev.if_ (fun _ => Ev.now _) (fun _ => Ev.of_eq (ih () trivial) ?_)
    simp
theorem implIndexQ_ev (l : List Cube) (c : Cube) (hs : small l) : Ev (fun k => impl_Cube_139.f k l c.f0 c.f1 c.f2) (idxQ l c) := by
  unfold impl_Cube_139.f
  refine loop_list l (fun k i (_ : Unit) => impl_Cube_139.l0 k l (l.length : Int) i c.f0 c.f1 c.f2) (fun pre suf _ => idxFQ suf c (pre.length : Int)) (fun _ _ => True) ?_ ?_ () trivial
  · intro _ _
    simp only [impl_Cube_139.l0, len_lt, if_false]
    exact Ev.now _
  · intro pre d suf _ hx _ ih
    simp only [impl_Cube_139.l0, pre_lt hx, pre_0, if_true, at_preQ hx, pre_w hx hs, idxFQ]
    have e : (c.f0 == d.f0 && (c.f1 == d.f1 && c.f2 == d.f2)) = sameQ d c := by
      rw [Bool.eq_iff_iff]
      simp only [sameQ, Bool.and_eq_true, beq_iff_eq, decide_eq_true_eq]
      constructor <;> (rintro ⟨h, h', h''⟩; exact ⟨h.symm, h'.symm, h''.symm⟩)
    rw [e]
    refine Ev.if_ (fun _ => Ev.now _) (fun _ => Ev.of_eq (ih () trivial) ?_)
    simp
theorem implContainsQ_ev (l : List Cube) (c : Cube) (hs : small l) : Ev (fun k => impl_Cube_83.f k l c.f0 c.f1 c.f2) (decide (idxQ l c ≥ 0)) := by
  unfold impl_Cube_83.f
  exact Ev.bind (implIndexQ_ev l c hs) (Ev.now _)
def stepsQ : List Cube := [⟨0, 0, -1⟩, ⟨0, -1, 0⟩, ⟨-1, 0, 0⟩, ⟨1, 0, 0⟩, ⟨0, 1, 0⟩, ⟨0, 0, 1⟩]
theorem steps_eq : spec_l09Steps.f = some stepsQ := rfl
def addQ (c d : Cube) : Cube := ⟨wrap64 (c.f0 + d.f0), wrap64 (c.f1 + d.f1), wrap64 (c.f2 + d.f2)⟩
def nbQ (c : Cube) : List Cube := [⟨c.f0, c.f1, wrap64 (c.f2 - 1)⟩, ⟨c.f0, wrap64 (c.f1 - 1), c.f2⟩, ⟨wrap64 (c.f0 - 1), c.f1, c.f2⟩, ⟨wrap64 (c.f0 + 1), c.f1, c.f2⟩, ⟨c.f0, wrap64 (c.f1 + 1), c.f2⟩, ⟨c.f0, c.f1, wrap64 (c.f2 + 1)⟩]
theorem implAroundQ_eq (c : Cube) : impl_cubesAround.f c.f0 c.f1 c.f2 = some (nbQ c) := rfl
theorem steps_nb {c : Cube} (h : okQ c) : stepsQ.map (addQ c) = nbQ c := by
  obtain ⟨x, y, z⟩ := c
  unfold okQ ok1 at h
  simp only at h
  have w (n : Int) (h0 : -1000 ≤ n) (h1 : n ≤ 1000) : wrap64 n = n := w64 (by omega) (by omega)
  simp only [stepsQ, nbQ, addQ, List.map_cons, List.map_nil, Int.add_zero]
  rw [w x (by omega) (by omega), w y (by omega) (by omega), w z (by omega) (by omega)]
  simp [Int.sub_eq_add_neg]
theorem idxFQ_mem (c : Cube) : ∀ (l : List Cube) (i : Int), 0 ≤ i → (idxFQ l c i ≥ 0 ↔ c ∈ l)
  | [], i, hi => by simp [idxFQ]
  | a :: r, i, hi => by
    unfold idxFQ
    by_cases h : sameQ a c = true
    · rw [if_pos h]
      have := sameQ_iff.1 h
      simp [this, hi]
    · rw [if_neg h, idxFQ_mem c r (i + 1) (by omega)]
      have : ¬ c = a := fun e => h (sameQ_iff.2 e.symm)
      simp [this]
theorem idxQ_mem (l : List Cube) (c : Cube) : idxQ l c ≥ 0 ↔ c ∈ l := idxFQ_mem c l 0 (Int.le_refl _)
def visQ1 (l o : List Cube) (d : Cube) : List Cube := if idxQ l d ≥ 0 ∧ idxQ o d < 0 then o ++ [d] else o
def visQ (l : List Cube) : List Cube → List Cube → List Cube
  | [], o => o
  | d :: r, o => visQ l r (visQ1 l o d)
def growQ (l : List Cube) : Nat → List Cube → Nat → List Cube
  | 0, o, _ => o
  | n + 1, o, a => match o[a]? with
    | none => o
    | some c => growQ l n (visQ l (nbQ c) o) (a + 1)
def connQ (l : List Cube) : Bool := match l with
  | [] => false
  | c :: _ => ((growQ l l.length [c] 0).length : Int) == (l.length : Int)
structure InQ (l o : List Cube) : Prop where
  nd : o.Nodup
  sub : ∀ d ∈ o, d ∈ l
theorem nodup_len : ∀ (o l : List Cube), o.Nodup → (∀ d ∈ o, d ∈ l) → o.length ≤ l.length
  | [], l, _, _ => Nat.zero_le _
  | a :: o, l, hn, hs => by
    obtain ⟨h1, h2⟩ := List.nodup_cons.1 hn
    obtain ⟨s, t, rfl⟩ := List.append_of_mem (hs a List.mem_cons_self)
    have := nodup_len o (s ++ t) h2 fun c hc => by
      have h3 := hs c (List.mem_cons_of_mem _ hc)
      have h4 : c ≠ a := fun e => h1 (e ▸ hc)
      simp only [List.mem_append, List.mem_cons] at h3 ⊢
      rcases h3 with h3 | h3 | h3
      · exact .inl h3
      · exact absurd h3 h4
      · exact .inr h3
    simp only [List.length_append, List.length_cons] at this ⊢
    omega
theorem InQ.len {l o : List Cube} (h : InQ l o) : o.length ≤ l.length := nodup_len o l h.nd h.sub
theorem visQ1_in {l o : List Cube} (h : InQ l o) (d : Cube) : InQ l (visQ1 l o d) := by
  unfold visQ1
  by_cases hc : idxQ l d ≥ 0 ∧ idxQ o d < 0
  · rw [if_pos hc]
    have h1 := (idxQ_mem l d).1 hc.1
    have h2 : d ∉ o := fun e => by have := (idxQ_mem o d).2 e; omega
    refine ⟨?_, fun x hx => ?_⟩
    · rw [List.nodup_append]
      refine ⟨h.nd, by simp, fun a ha b hb e => ?_⟩
      simp at hb
      exact h2 (hb ▸ e ▸ ha)
    · rcases List.mem_append.1 hx with hx | hx
      · exact h.sub x hx
      · simp at hx; exact hx ▸ h1
  · rw [if_neg hc]; exact h
theorem visQ_in {l : List Cube} : ∀ (ds : List Cube) {o : List Cube}, InQ l o → InQ l (visQ l ds o)
  | [], o, h => h
  | d :: r, o, h => visQ_in r (visQ1_in h d)
theorem visQ1_at {l o : List Cube} {a : Nat} {c : Cube} (h : o[a]? = some c) (d : Cube) : (visQ1 l o d)[a]? = some c := by
  unfold visQ1
  split
  · rw [List.getElem?_append_left (List.getElem?_eq_some_iff.1 h).1]; exact h
  · exact h
theorem rdQ {o : List Cube} {a : Nat} {c : Cube} (h : o[a]? = some c) : rd_T57 o (a : Int) = c ∧ a < o.length := by
  refine ⟨?_, (List.getElem?_eq_some_iff.1 h).1⟩
  unfold rd_T57
  rw [List.getD_eq_getElem?_getD, Int.toNat_natCast, h]; rfl
theorem specConn_l1 (l : List Cube) (hl : l.length ≤ 1048576) (a : Nat) (c : Cube) {r : Bool} : ∀ (suf pre o : List Cube), stepsQ = pre ++ suf → InQ l o → o[a]? = some c →
    Ev (fun k => spec_l09Connected.l0 k l (visQ l (suf.map (addQ c)) o) (wrap64 ((a : Int) + 1))) r → Ev (fun k => spec_l09Connected.l1 k l o (a : Int) (pre.length : Int)) r
  | [], pre, o, hx, hi, ha, hc => by
    refine Ev.succ ?_
    have hp : pre.length = 6 := by have := congrArg List.length hx; simp [stepsQ] at this; omega
    simp only [spec_l09Connected.l1]
    exact Ev.neg (by omega) hc
  | d :: suf, pre, o, hx, hi, ha, hc => by
    refine Ev.succ ?_
    have hp : pre.length + (suf.length + 1) = 6 := by have := congrArg List.length hx; simp [stepsQ] at this; omega
    have h6 : stepsQ.length = 6 := rfl
    have ew : wrap64 ((pre.length : Int) + 1) = ((pre ++ [d]).length : Int) := by rw [w64 (by omega) (by omega)]; simp
    have hadd : spec_l09Add.f c.f0 c.f1 c.f2 (rd_T57 stepsQ (pre.length : Int)).f0 (rd_T57 stepsQ (pre.length : Int)).f1 (rd_T57 stepsQ (pre.length : Int)).f2 = some ((addQ c d).f0, (addQ c d).f1, (addQ c d).f2) := by
      rw [at_preQ hx]; rfl
    obtain ⟨hr, hlt⟩ := rdQ ha
    have hol := hi.len
    have hs : small l := by unfold small; omega
    have hos : small o := by unfold small; omega
    have hn (hc' : Ev (fun k => spec_l09Connected.l0 k l (visQ l (suf.map (addQ c)) (visQ1 l o (addQ c d))) (wrap64 ((a : Int) + 1))) r) := specConn_l1 l hl a c suf (pre ++ [d]) _ (by rw [hx]; simp) (visQ1_in hi (addQ c d)) (visQ1_at ha _) hc'
    have hn' := hn hc
    simp only [spec_l09Connected.l1, hr, ew]
    refine Ev.pos (by omega) (Ev.pos (by omega) (Ev.pos (by omega) (Ev.bind0 steps_eq (Ev.pos (by omega) (Ev.pos (by omega) (Ev.bind0 hadd (Ev.bind (specIndexQ_ev l (addQ c d) hs) ?_)))))))
    unfold visQ1 at hn'
    by_cases hm : idxQ l (addQ c d) ≥ 0
    · refine Ev.pos hm (Ev.bind (specIndexQ_ev o (addQ c d) hos) ?_)
      by_cases hm2 : idxQ o (addQ c d) < 0
      · rw [if_pos ⟨hm, hm2⟩] at hn'
        exact Ev.pos hm2 (Ev.pos (by omega) hn')
      · rw [if_neg fun g => hm2 g.2] at hn'
        exact Ev.neg hm2 hn'
    · rw [if_neg fun g => hm g.1] at hn'
      exact Ev.neg hm hn'
theorem specConn_l0 (l : List Cube) (hl : l.length ≤ 1048576) (hok : ∀ c ∈ l, okQ c) : ∀ (n a : Nat) (o : List Cube), a + n = l.length → InQ l o → Ev (fun k => spec_l09Connected.l0 k l o (a : Int)) (((growQ l n o a).length : Int) == (l.length : Int))
  | 0, a, o, hn, hi => by
    refine Ev.succ ?_
    have hol := hi.len
    simp only [spec_l09Connected.l0]
    exact Ev.neg (by omega) (Ev.now _)
  | n + 1, a, o, hn, hi => by
    refine Ev.succ ?_
    simp only [spec_l09Connected.l0]
    unfold growQ
    cases ha : o[a]? with
    | none =>
      have := List.getElem?_eq_none_iff.1 ha
      exact Ev.neg (by omega) (Ev.now _)
    | some c =>
      obtain ⟨hr, hlt⟩ := rdQ ha
      have hc : c ∈ l := hi.sub c (List.mem_of_getElem? ha)
      refine Ev.pos (by omega) (specConn_l1 l hl a c stepsQ [] o rfl hi ha ?_)
      rw [steps_nb (hok c hc), w64 (n := (a : Int) + 1) (by omega) (by omega)]
      exact specConn_l0 l hl hok n (a + 1) _ (by omega) (visQ_in _ hi)
theorem specConnQ_ev (l : List Cube) (h : solidB l = true) : Ev (fun k => spec_l09Connected.f k l) (connQ l) := by
  obtain ⟨h1, h2, h3, h4⟩ := solidB_iff.1 h
  unfold spec_l09Connected.f connQ
  cases l with
  | nil => simp at h3
  | cons c r =>
    refine Ev.pos (by rw [List.length_cons]; omega) ?_
    exact specConn_l0 (c :: r) (by omega) h1 (c :: r).length 0 [c] (by omega) ⟨by simp, fun d hd => by simp at hd; simp [hd]⟩
theorem implConn_l1 (l : List Cube) (hl : l.length ≤ 1048576) (a : Int) (nb : List Cube) (hn : nb.length = 6) {r : Bool} : ∀ (suf pre o : List Cube), nb = pre ++ suf → InQ l o →
    Ev (fun k => impl_connectedCubes.l0 k l (visQ l suf o) (wrap64 (a + 1))) r → Ev (fun k => impl_connectedCubes.l1 k l o a nb (nb.length : Int) (pre.length : Int)) r
  | [], pre, o, hx, hi, hc => by
    refine Ev.succ ?_
    rw [List.append_nil] at hx
    subst hx
    simp only [impl_connectedCubes.l1]
    exact Ev.neg (by omega) hc
  | d :: suf, pre, o, hx, hi, hc => by
    refine Ev.succ ?_
    have hsm : small nb := by unfold small; omega
    have hol := hi.len
    have hs : small l := by unfold small; omega
    have hos : small o := by unfold small; omega
    have hn' := implConn_l1 l hl a nb hn suf (pre ++ [d]) _ (by rw [hx]; simp) (visQ1_in hi d) hc
    simp only [List.length_append, List.length_singleton, Int.natCast_add] at hn'
    simp only [impl_connectedCubes.l1, pre_lt hx, pre_0, if_true, at_preQ hx, pre_w hx hsm]
    refine Ev.bind (implContainsQ_ev l d hs) ?_
    unfold visQ1 at hn'
    by_cases hm : idxQ l d ≥ 0
    · refine Ev.pos (by simpa using hm) (Ev.bind (implContainsQ_ev o d hos) ?_)
      by_cases hm2 : idxQ o d < 0
      · rw [if_pos ⟨hm, hm2⟩] at hn'
        exact Ev.neg (by simp; omega) (Ev.pos (by omega) hn')
      · rw [if_neg fun g => hm2 g.2] at hn'
        exact Ev.pos (by simp; omega) hn'
    · rw [if_neg fun g => hm g.1] at hn'
      exact Ev.neg (by simpa using hm) hn'
theorem implConn_l0 (l : List Cube) (hl : l.length ≤ 1048576) : ∀ (n a : Nat) (o : List Cube), a + n = l.length → InQ l o → Ev (fun k => impl_connectedCubes.l0 k l o (a : Int)) (((growQ l n o a).length : Int) == (l.length : Int))
  | 0, a, o, hn, hi => by
    refine Ev.succ ?_
    have hol := hi.len
    simp only [impl_connectedCubes.l0]
    exact Ev.neg (by omega) (Ev.now _)
  | n + 1, a, o, hn, hi => by
    refine Ev.succ ?_
    simp only [impl_connectedCubes.l0]
    unfold growQ
    cases ha : o[a]? with
    | none =>
      have := List.getElem?_eq_none_iff.1 ha
      exact Ev.neg (by omega) (Ev.now _)
    | some c =>
      obtain ⟨hr, hlt⟩ := rdQ ha
      rw [hr]
      refine Ev.pos (by omega) (Ev.pos (by omega) (Ev.bind0 (implAroundQ_eq c) (implConn_l1 l hl (a : Int) (nbQ c) rfl (nbQ c) [] o rfl hi ?_)))
      rw [w64 (n := (a : Int) + 1) (by omega) (by omega)]
      exact implConn_l0 l hl n (a + 1) _ (by omega) (visQ_in _ hi)
theorem implConnQ_ev (l : List Cube) (h : solidB l = true) : Ev (fun k => impl_connectedCubes.f k l) (connQ l) := by
  obtain ⟨h1, h2, h3, h4⟩ := solidB_iff.1 h
  unfold impl_connectedCubes.f connQ
  cases l with
  | nil => simp at h3
  | cons c r =>
    refine Ev.pos (by rw [List.length_cons]; omega) ?_
    exact implConn_l0 (c :: r) (by omega) (c :: r).length 0 [c] (by omega) ⟨by simp, fun d hd => by simp at hd; simp [hd]⟩
def isSolidR (l : List Cube) : Bool × Bool := if solidB l = true then (true, connQ l) else (false, false)
theorem specIsSolid_ev (l : List Cube) (hs : small l) : Ev (fun k => spec_IsSolid.f k l) (isSolidR l) := by
  unfold spec_IsSolid.f isSolidR
  exact Ev.bind (specSolid_ev l hs) (Ev.if_ (fun h => Ev.bind (specConnQ_ev l h) (Ev.now _)) (fun _ => Ev.now _))
theorem implIsSolid_ev (l : List Cube) (hs : small l) : Ev (fun k => impl_IsSolid.f k l) (isSolidR l) := by
  unfold impl_IsSolid.f isSolidR
  exact Ev.bind (implSolid_ev l hs) (Ev.if_ (fun h => Ev.bind (implConnQ_ev l h) (Ev.now _)) (fun _ => Ev.now _))
end Go.Proofs.Ytabdmdkoffpppaa.L
end
section
namespace Go.Proofs.Ytabdmdkoffpppaa.Pure
open Go.RowKit Go.Proofs.YtabdmdkoffpppaaW.PrintWords Go.Proofs.Ytabdmdkoffpppaa.F Go.Proofs.Ytabdmdkoffpppaa.L
set_option linter.unusedVariables false
theorem FnExactIsSolid (l : List LCube) {V : LCube → Prop} (hv : l.length ≤ 9223372036854775807 ∧ ∀ a ∈ l, V a) : ∃ k, laws_FnExactIsSolid.f k l = some true := by
  refine Ev.rounds ?_
  unfold laws_FnExactIsSolid.f
  rw [szCubeS_eq l 1048576 (by decide) (by decide) hv.1]
  simp only [Option.bind_some]
  by_cases h : (1048576 : Int) - (l.length : Int) < 0
  · rw [if_pos h]; exact Ev.pos (by decide) (Ev.now _)
  · rw [if_neg h]
    refine Ev.neg h ?_
    have la : l.length ≤ 1048576 := by omega
    have hs : small (l.map cubeOf) := by unfold small; simp; omega
    refine Ev.bind (toCubeS_ev l la) (Ev.bind (specIsSolid_ev _ hs) (Ev.bind (toCubeS_ev l la) (Ev.bind (implIsSolid_ev _ hs) (Ev.neg (by simp) ?_))))
    refine Ev.step (fun k => laws_FnExactIsSolid.j0.eq_2 _ _ _ _) (Ev.neg (by simp) ?_)
    exact Ev.bind (toCubeS_ev l la) (Ev.bind (eqCubeS_ev _ hs) (Ev.pos rfl (Ev.now _)))
end Go.Proofs.Ytabdmdkoffpppaa.Pure
end
