/- The row of FnEdges, with what it needs: text 7 of 9. -/
import Derived.Test.YtpoiiaephcddoaaL5
import Derived.ChangeArms
import Derived.ChangeSame
import Derived.Deep.Fields
import Derived.Deep.Slices
import Derived.Deep.Strs
import Derived.WideShapes
set_option maxHeartbeats 8000000
set_option maxRecDepth 100000
section
namespace Go.Proofs.Ytpoiiaephcddoaa.F
open Go.RowKit Go.Proofs.YtpoiiaephcddoaaW.PrintWords Go.Proofs.YtpoiiaephcddoaaW.PrintLast Go.Proofs.YtpoiiaephcddoaaW.PrintMore
attribute [local go_sem] max2_int min2_int max_two min_two max_three min_three max_four min_four
set_option linter.unusedVariables false
set_option linter.unusedSimpArgs false
mutual
def impl_touches.l0 : Nat → List (S35) → Int → List (S35) → Int → Int → Option (Int)
 | 0, _, _, _, _, _ => none
 | k + 1, x0, x3, x8, x9, x10 => if x10 < x9 then (if 0 ≤ x10 then (if x10 < (x8.length : Int) then ((impl_around.f ((rd_T35 x8 x10).f0) ((rd_T35 x8 x10).f1)).bind fun t379 => (if 2 ≤ (t379.length : Int) then ((some (t379.drop (2 : Int).toNat : List (S35))).bind fun y382 => (impl_touches.l1 k x0 x3 x8 x9 x10 y382 (y382.length : Int) 0)) else (none))) else (none)) else (none)) else (some x3)
def impl_touches.l1 : Nat → List (S35) → Int → List (S35) → Int → Int → List (S35) → Int → Int → Option (Int)
 | 0, _, _, _, _, _, _, _, _ => none
 | k + 1, x0, x3, x8, x9, x10, x16, x17, x18 => if x18 < x17 then (if 0 ≤ x18 then (if x18 < (x16.length : Int) then ((impl_Cell_20.f k x0 ((rd_T35 x16 x18).f0) ((rd_T35 x16 x18).f1)).bind fun t387 => (if t387 = true then (impl_touches.l1 k x0 (wrap64 (x3 + 1)) x8 x9 x10 x16 x17 (wrap64 (x18 + 1))) else (impl_touches.l1 k x0 x3 x8 x9 x10 x16 x17 (wrap64 (x18 + 1))))) else (none)) else (none)) else (impl_touches.l0 k x0 x3 x8 x9 (wrap64 (x10 + 1)))
end
def impl_touches.f (k : Nat) (l0 : List (S35)) : Option (Int) := impl_touches.l0 k l0 0 l0 (l0.length : Int) 0
theorem impl_touches.calls (k : Nat) (A0 : Option Addr) (c0 : Nat) (l0 : List (S35)) (r : Int) (w : World) (hr0 : Kd.C k35 w A0 l0.length l0) (hc0 : l0.length ≤ c0) (h : impl_touches.f k l0 = some r) :
  Calls Try.prog 24 #[.slice A0 l0.length c0] w fun e w' => e = .returned (.int .i64 r) ∧ Below w.heap.size w w' := by
 have hu35 := Try.underlying35
 have HR0 := aM hr0
 have HC0 := aM hc0
 clear hr0 hc0
 have HB := aM (Below.refl w.heap.size w)
 have H : (impl_touches.l0 k l0 0 l0 (l0.length : Int) 0) = some r := h
 clear h
 have H' := aM H
 clear H
 go_enter Try.func24, Try.ntmps24
 go_wp2
 go_loopg [3, 10] k (fun kq v3 v10 w' => ∃ (x3_1 : Int) (x10_1 : Int), v3 = .int .i64 x3_1 ∧ v10 = .int .i64 x10_1 ∧ Aside0 (impl_touches.l0 kq l0 x3_1 l0 (l0.length : Int) x10_1 = some r) ∧ Aside0 (kq ≤ k) ∧ Aside0 (Below w.heap.size w w'))
 case atStart => exact ⟨(0), (0), zr, zr, H', ⟨Nat.le_refl _⟩, ⟨zb⟩⟩
 case round =>
  clear H'
  obtain ⟨x3_1, x10_1, rfl, rfl, HA, HK1, HB⟩ := hrel
  cases gk with
  | zero => exact absurd HA.out (by simp [impl_touches.l0])
  | succ k1 =>
   have H := HA.out
   clear HA
   simp only [impl_touches.l0] at H
   by_cases c2 : x10_1 < (l0.length : Int)
   rotate_left
   ·rw [if_neg c2] at H
    have c2b0 : decide (x10_1 < (l0.length : Int)) = false := decide_eq_false c2
    clear c2
    obtain rfl := Option.some.inj H
    go_wp2
    go_ret
    exact ⟨zw, zb⟩
   rw [if_pos c2] at H
   have c2b0 : decide (x10_1 < (l0.length : Int)) = true := decide_eq_true c2
   clear c2
   by_cases c3 : 0 ≤ x10_1
   rotate_left
   ·rw [if_neg c3] at H
    exact absurd H (by simp)
   rw [if_pos c3] at H
   have c3b0 : decide (0 ≤ x10_1) = true := decide_eq_true c3
   clear c3
   by_cases c4 : x10_1 < (l0.length : Int)
   rotate_left
   ·rw [if_neg c4] at H
    exact absurd H (by simp)
   rw [if_pos c4] at H
   have c4b0 : decide (x10_1 < (l0.length : Int)) = true := decide_eq_true c4
   clear c4
   replace H := Option.bind_eq_some_iff.mp H
   obtain ⟨t379, A50, H⟩ := H
   replace H : (if 2 ≤ (t379.length : Int) then ((some (t379.drop (2 : Int).toNat : List (S35))).bind fun y382 => (impl_touches.l1 k1 l0 x3_1 l0 (l0.length : Int) x10_1 y382 (y382.length : Int) 0)) else (none)) = some r := H
   have A5 := aM A50
   clear A50
   by_cases c6 : 2 ≤ (t379.length : Int)
   rotate_left
   ·rw [if_neg c6] at H
    exact absurd H (by simp)
   rw [if_pos c6] at H
   have c6b0 := eq_true c6
   have c6b1 : decide (2 ≤ (t379.length : Int)) = true := decide_eq_true c6
   clear c6
   obtain ⟨y382, hy382⟩ : ∃ y_ : List (S35), y_ = (t379.drop (2 : Int).toNat) := ⟨_, rfl⟩
   replace H : (impl_touches.l1 k1 l0 x3_1 l0 (l0.length : Int) x10_1 y382 (y382.length : Int) 0) = some r := zy H hy382
   have Ny382 := aM hy382
   clear hy382
   have H' := aM H
   clear H
   have p377 : 0 ≤ (x10_1 : Int) := of_decide_eq_true za
   have q377 : x10_1 < (l0.length : Int) := of_decide_eq_true za
   obtain ⟨ad377, e377, hx377_0, hx377_1⟩ := at_T35 HR0.out x10_1 p377 q377
   cases e377
   replace hx377_0 := zk HB.out hx377_0
   replace hx377_1 := zk HB.out hx377_1
   replace p377 := eq_true p377
   replace q377 := eq_true q377
   go_wp2_with (first | ((with_reducible refine gate_dst (N := 5) rfl ?_); refine zx 5 #[.int .i64 0, .int .i64 0] 35 ?_; intro gb378 hg w7 hbox hb; have n0_ := aM (below_step zb hb); have n1_ := aM (hbox); have n2_ := aM ((ze : w.heap.size ≤ gb378)); have n3_ := aM ((ze : w.heap.size ≤ gb378)); clear HB; have HB := n0_; have BK378 := n1_; have GW378 := n2_; have GE378 := n3_; clear n0_ n1_ n2_ n3_ hb hbox hg; have hcz8_0 : w7.cell? ⟨gb378, 0, none⟩ = some (.int .i64 0) := (blk_cell BK378.out 0).trans rfl; have hcz8_1 : w7.cell? ⟨gb378, 1, none⟩ = some (.int .i64 0) := (blk_cell BK378.out 1).trans rfl; have hfz8_0 := blk_frozen BK378.out 0; have hfz8_1 := blk_frozen BK378.out 1) | ((with_reducible refine gate_callee (f := 35) rfl ?_); refine goesL_ (some 15) rfl rfl Try.func35 (by kernel_rfl) rfl #[.agg #[.int .i64 ((rd_T35 l0 x10_1).f0), .int .i64 ((rd_T35 l0 x10_1).f1)]] rfl zm ?_; (with_reducible refine (impl_around.calls ((rd_T35 l0 x10_1).f0) ((rd_T35 l0 x10_1).f1) t379 _ A5.out).mono ?_); rintro e w9 ⟨v380, rfl, ho0, hb⟩; refine ⟨_, rfl, ?_⟩; have n0_ := aM (Kd.R_lower (Kd.R_newB ho0 (g := gb378) (o := .cells #[.int .i64 ((rd_T35 l0 x10_1).f0), .int .i64 ((rd_T35 l0 x10_1).f1)] 35 (0, 0)) (by (with_reducible repeat (first | refine blk_drewN ?_ _ | refine blk_drew ?_ | refine blk_alloc ?_ _)); refine blk_put (cs := #[.int .i64 ((rd_T35 l0 x10_1).f0), .int .i64 0]) ?_ 1 _ rfl; (with_reducible repeat (first | refine blk_drewN ?_ _ | refine blk_drew ?_ | refine blk_alloc ?_ _)); refine blk_put (cs := #[.int .i64 0, .int .i64 0]) ?_ 0 _ rfl; (with_reducible repeat (first | refine blk_drewN ?_ _ | refine blk_drew ?_ | refine blk_alloc ?_ _)); exact BK378.out)) (below_size (zs GE378.out))); have n1_ := aM (blk_below (g := gb378) (o := .cells #[.int .i64 ((rd_T35 l0 x10_1).f0), .int .i64 ((rd_T35 l0 x10_1).f1)] 35 (0, 0)) (by (with_reducible repeat (first | refine blk_drewN ?_ _ | refine blk_drew ?_ | refine blk_alloc ?_ _)); refine blk_put (cs := #[.int .i64 ((rd_T35 l0 x10_1).f0), .int .i64 0]) ?_ 1 _ rfl; (with_reducible repeat (first | refine blk_drewN ?_ _ | refine blk_drew ?_ | refine blk_alloc ?_ _)); refine blk_put (cs := #[.int .i64 0, .int .i64 0]) ?_ 0 _ rfl; (with_reducible repeat (first | refine blk_drewN ?_ _ | refine blk_drew ?_ | refine blk_alloc ?_ _)); exact BK378.out) hb); have n2_ := aM (below_step (zs GE378.out) hb); clear BK378 HB; have HO381 := n0_; have BK378 := n1_; have HB := n2_; clear n0_ n1_ n2_; (try clear hb); (try clear hb2); (try clear hk); (try clear hi); (try clear ho0); obtain ⟨Ao10, co10, eo10⟩ := Kd.R_slice HO381.out; subst eo10; have n_ := aM (Kd.R_mono (ok' := (fun k_ => k_ ≠ gb378)) HO381.out (fun k_ hk => hk.2)); clear HO381; have HO381 := n_; clear n_; have q11 : (2 : Int) ≤ ((t379.length : Int) : Int) := of_decide_eq_true za; obtain ⟨i011, hi011, _, hsz11, _⟩ := info_parts info35; have hcut11 := cut_from (P := Try.prog) 26 35 .i64 Try.underlying26 hi011 2 hsz11 Ao10 t379.length co10 2 (by omega) q11; have hr11 := Kd.Q_drop (k := (2 : Int).toNat) (Kd.Q_of_R HO381.out) (by omega); obtain ⟨A11, hA11⟩ : ∃ A1, A1 = (if co10 = (2 : Int).toNat then Ao10 else (Ao10 : Option Addr).map (·.add ((2 : Int).toNat * 2))) := ⟨_, rfl⟩; obtain ⟨c11, hc11⟩ : ∃ c1, c1 = co10 - (2 : Int).toNat := ⟨_, rfl⟩; have hy11 : y382.length = t379.length - (2 : Int).toNat := (by rw [Ny382.out, List.length_drop]); rw [← Ny382.out] at hr11; rw [← hy11, ← hA11, ← hc11] at hcut11; replace hr11 : Kd.Q k35 35 w9 w.heap.size (fun k_ => k_ ≠ gb378) (.slice A11 y382.length c11) y382 := (by rw [hA11, hc11, hy11]; exact hr11); have HE11 : Aside0 ((Value.slice A11 y382.length c11).ownBlock = (.slice Ao10 t379.length co10 : Value).ownBlock) := ⟨by rw [hA11]; split <;> (cases (Ao10 : Option Addr) <;> rfl)⟩; clear hy11 hi011 hsz11 HO381 hA11 hc11; have HO384 := aM hr11; clear hr11; replace q11 := eq_true q11))
   go_loopg [3, 18] k1 (fun kq v3 v18 w' => ∃ (x3_2 : Int) (x18_2 : Int), v3 = .int .i64 x3_2 ∧ v18 = .int .i64 x18_2 ∧ Aside0 (impl_touches.l1 kq l0 x3_2 l0 (l0.length : Int) x10_1 y382 (y382.length : Int) x18_2 = some r) ∧ Aside0 (kq ≤ k1) ∧ Aside0 (Kd.Q k35 35 w' w.heap.size (fun k_ => k_ ≠ gb378) (.slice A11 y382.length c11) y382) ∧ Aside0 (w'.heap[gb378]? = some (.cells #[.int .i64 ((rd_T35 l0 x10_1).f0), .int .i64 ((rd_T35 l0 x10_1).f1)] 35 (0, 0))) ∧ Aside0 (Below w.heap.size w w'))
   case atStart => exact ⟨(x3_1), (0), zr, zr, H', ⟨Nat.le_refl _⟩, ⟨by (with_reducible repeat (first | apply Kd.Q_alloc | apply Kd.Q_drewN | apply Kd.Q_drew)); exact HO384.out⟩, ⟨mB_ BK378.out⟩, ⟨zs GE378.out⟩⟩
   case round =>
    clear H'
    try clear c1
    try clear q1
    try clear c2
    try clear c2b0
    try clear p2
    try clear c3
    try clear c3b0
    try clear p3
    try clear q3
    try clear hx3
    try clear c4
    try clear c4b0
    try clear c6
    try clear c6b0
    try clear c6b1
    try clear c11
    try clear q11
    try clear hcz8_0
    try clear hcz8_1
    try clear hfz8_0
    try clear hfz8_1
    try clear hx377_0
    try clear hx377_1
    try clear p377
    try clear q11
    try clear q377
    obtain ⟨x3_2, x18_2, rfl, rfl, HA, HK2, HO_16, BK378, HB⟩ := hrel
    cases gk with
    | zero => exact absurd HA.out (by simp [impl_touches.l1])
    | succ k2 =>
     have H := HA.out
     clear HA
     simp only [impl_touches.l1] at H
     by_cases c12 : x18_2 < (y382.length : Int)
     rotate_left
     ·rw [if_neg c12] at H
      have c12b0 : decide (x18_2 < (y382.length : Int)) = false := decide_eq_false c12
      clear c12
      have H' := aM H
      clear H
      go_wp2
      go_roundg k2
      case measure => have := HK1.out; have := HK2.out; omega
      case rel => exact ⟨(x3_2), (wrap64 (x10_1 + 1)), zr, zr, H', ⟨by have := HK1.out; have := HK2.out; omega⟩, ⟨zs GE378.out⟩⟩
     rw [if_pos c12] at H
     have c12b0 : decide (x18_2 < (y382.length : Int)) = true := decide_eq_true c12
     clear c12
     by_cases c13 : 0 ≤ x18_2
     rotate_left
     ·rw [if_neg c13] at H
      exact absurd H (by simp)
     rw [if_pos c13] at H
     have c13b0 : decide (0 ≤ x18_2) = true := decide_eq_true c13
     clear c13
     by_cases c14 : x18_2 < (y382.length : Int)
     rotate_left
     ·rw [if_neg c14] at H
      exact absurd H (by simp)
     rw [if_pos c14] at H
     have c14b0 : decide (x18_2 < (y382.length : Int)) = true := decide_eq_true c14
     clear c14
     replace H := Option.bind_eq_some_iff.mp H
     obtain ⟨t387, A150, H⟩ := H
     replace H : (if t387 = true then (impl_touches.l1 k2 l0 (wrap64 (x3_2 + 1)) l0 (l0.length : Int) x10_1 y382 (y382.length : Int) (wrap64 (x18_2 + 1))) else (impl_touches.l1 k2 l0 x3_2 l0 (l0.length : Int) x10_1 y382 (y382.length : Int) (wrap64 (x18_2 + 1)))) = some r := H
     have A15 := aM A150
     clear A150
     by_cases c16 : t387 = true
     ·subst c16
      have H1 : (impl_touches.l1 k2 l0 (wrap64 (x3_2 + 1)) l0 (l0.length : Int) x10_1 y382 (y382.length : Int) (wrap64 (x18_2 + 1))) = some r := by rw [if_pos rfl] at H; exact H
      clear H
      have H := H1
      clear H1
      have H' := aM H
      clear H
      have p385 : 0 ≤ (x18_2 : Int) := of_decide_eq_true za
      have q385 : x18_2 < (y382.length : Int) := of_decide_eq_true za
      obtain ⟨ad385, e385, hx385_0, hx385_1⟩ := at_T35 (Kd.Q_reads' HO_16.out).2.2 x18_2 p385 q385
      cases e385
      replace p385 := eq_true p385
      replace q385 := eq_true q385
      go_wp2_with (first | ((with_reducible refine gate_dst (N := 7) rfl ?_); refine zx 7 #[.int .i64 0, .int .i64 0] 35 ?_; intro gb386 hg w17 hbox hb; have n0_ := aM (Kd.Q_below (Kd.Q_elderB (by (with_reducible repeat (first | apply Kd.Q_alloc | apply Kd.Q_drewN | apply Kd.Q_drew)); exact HO_16.out) gb386 (Nat.le_of_eq hg.symm)) hb); have n1_ := aM (blk_below (g := gb378) (o := .cells #[.int .i64 ((rd_T35 l0 x10_1).f0), .int .i64 ((rd_T35 l0 x10_1).f1)] 35 (0, 0)) (mB_ BK378.out) hb); have n2_ := aM (below_step (zs GE378.out) hb); have n3_ := aM (hbox); have n4_ := aM ((zf GE378.out : w.heap.size ≤ gb386)); have n5_ := aM ((zf GE378.out : w.heap.size ≤ gb386)); have n6_ := aM ((zl BK378.out : gb378 ≠ gb386)); have n7_ := aM ((zn BK378.out : gb386 ≠ gb378)); clear HO_16 BK378 HB; have HO_16 := n0_; have BK378 := n1_; have HB := n2_; have BK386 := n3_; have GW386 := n4_; have GE386 := n5_; have NB378_386 := n6_; have NB386_378 := n7_; clear n0_ n1_ n2_ n3_ n4_ n5_ n6_ n7_ hb hbox hg; have hnb18 := NB386_378.out; have hnc18 := NB378_386.out; have hcz19_0 : w17.cell? ⟨gb386, 0, none⟩ = some (.int .i64 0) := (blk_cell BK386.out 0).trans rfl; have hcz19_1 : w17.cell? ⟨gb386, 1, none⟩ = some (.int .i64 0) := (blk_cell BK386.out 1).trans rfl; have hfz19_0 := blk_frozen BK386.out 0; have hfz19_1 := blk_frozen BK386.out 1) | ((with_reducible refine gate_callee (f := 20) rfl ?_); refine goesL_ (some 24) rfl rfl Try.func20 (by kernel_rfl) rfl #[.slice (some ad377) l0.length c0, .agg #[.int .i64 ((rd_T35 y382 x18_2).f0), .int .i64 ((rd_T35 y382 x18_2).f1)]] rfl zm ?_; (with_reducible refine (impl_Cell_20.calls k2 _ _ l0 ((rd_T35 y382 x18_2).f0) ((rd_T35 y382 x18_2).f1) true _ ?side1 ?side2 A15.out).mono ?_); (case side1 => exact Kd.C_below HR0.out (zt GE378.out GE386.out)); (case side2 => exact HC0.out); rintro e w20 ⟨rfl, hb⟩; refine ⟨_, rfl, ?_⟩; have n0_ := aM (Kd.Q_below (by (with_reducible repeat (first | apply Kd.Q_alloc | apply Kd.Q_drewN | apply Kd.Q_drew)); exact (Kd.Q_mono (Kd.Q_far (p := ⟨gb386, 1, none⟩) (Kd.Q_far (p := ⟨gb386, 0, none⟩) (Kd.Q_mono HO_16.out (fun k_ hk => (⟨hk, hk.2⟩ : _ ∧ k_ ≠ gb386))) (fun _ hk => hk.2) (.int .i64 ((rd_T35 y382 x18_2).f0))) (fun _ hk => hk.2) (.int .i64 ((rd_T35 y382 x18_2).f1))) (fun _ h_ => h_.1))) hb); have n1_ := aM (blk_below (g := gb378) (o := .cells #[.int .i64 ((rd_T35 l0 x10_1).f0), .int .i64 ((rd_T35 l0 x10_1).f1)] 35 (0, 0)) (by (with_reducible repeat (first | refine blk_drewN ?_ _ | refine blk_drew ?_ | refine blk_alloc ?_ _)); refine blk_far ?_ NB378_386.out _; (with_reducible repeat (first | refine blk_drewN ?_ _ | refine blk_drew ?_ | refine blk_alloc ?_ _)); refine blk_far ?_ NB378_386.out _; (with_reducible repeat (first | refine blk_drewN ?_ _ | refine blk_drew ?_ | refine blk_alloc ?_ _)); exact BK378.out) hb); have n2_ := aM (blk_below (g := gb386) (o := .cells #[.int .i64 ((rd_T35 y382 x18_2).f0), .int .i64 ((rd_T35 y382 x18_2).f1)] 35 (0, 0)) (by (with_reducible repeat (first | refine blk_drewN ?_ _ | refine blk_drew ?_ | refine blk_alloc ?_ _)); refine blk_put (cs := #[.int .i64 ((rd_T35 y382 x18_2).f0), .int .i64 0]) ?_ 1 _ rfl; (with_reducible repeat (first | refine blk_drewN ?_ _ | refine blk_drew ?_ | refine blk_alloc ?_ _)); refine blk_put (cs := #[.int .i64 0, .int .i64 0]) ?_ 0 _ rfl; (with_reducible repeat (first | refine blk_drewN ?_ _ | refine blk_drew ?_ | refine blk_alloc ?_ _)); exact BK386.out) hb); have n3_ := aM (below_step (zt GE378.out GE386.out) hb); clear HO_16 BK378 BK386 HB; have HO_16 := n0_; have BK378 := n1_; have BK386 := n2_; have HB := n3_; clear n0_ n1_ n2_ n3_; (try clear hb); (try clear hb2); (try clear hk); (try clear hi)))
      go_roundg k2
      case measure => have := HK1.out; have := HK2.out; omega
      case rel => exact ⟨(wrap64 (x3_2 + 1)), (wrap64 (x18_2 + 1)), zr, zr, H', ⟨by have := HK1.out; have := HK2.out; omega⟩, ⟨by (with_reducible repeat (first | apply Kd.Q_alloc | apply Kd.Q_drewN | apply Kd.Q_drew)); exact Kd.Q_mono HO_16.out (fun _ hk => hk.1)⟩, ⟨mB_ BK378.out⟩, ⟨zt GE378.out GE386.out⟩⟩
     replace c16 := Bool.eq_false_iff.mpr c16
     subst c16
     have H1 : (impl_touches.l1 k2 l0 x3_2 l0 (l0.length : Int) x10_1 y382 (y382.length : Int) (wrap64 (x18_2 + 1))) = some r := by rw [if_neg (show ¬ (false = true) by decide)] at H; exact H
     clear H
     have H := H1
     clear H1
     have H' := aM H
     clear H
     have p385 : 0 ≤ (x18_2 : Int) := of_decide_eq_true za
     have q385 : x18_2 < (y382.length : Int) := of_decide_eq_true za
     obtain ⟨ad385, e385, hx385_0, hx385_1⟩ := at_T35 (Kd.Q_reads' HO_16.out).2.2 x18_2 p385 q385
     cases e385
     replace p385 := eq_true p385
     replace q385 := eq_true q385
     go_wp2_with (first | ((with_reducible refine gate_dst (N := 7) rfl ?_); refine zx 7 #[.int .i64 0, .int .i64 0] 35 ?_; intro gb386 hg w21 hbox hb; have n0_ := aM (Kd.Q_below (Kd.Q_elderB (by (with_reducible repeat (first | apply Kd.Q_alloc | apply Kd.Q_drewN | apply Kd.Q_drew)); exact HO_16.out) gb386 (Nat.le_of_eq hg.symm)) hb); have n1_ := aM (blk_below (g := gb378) (o := .cells #[.int .i64 ((rd_T35 l0 x10_1).f0), .int .i64 ((rd_T35 l0 x10_1).f1)] 35 (0, 0)) (mB_ BK378.out) hb); have n2_ := aM (below_step (zs GE378.out) hb); have n3_ := aM (hbox); have n4_ := aM ((zf GE378.out : w.heap.size ≤ gb386)); have n5_ := aM ((zf GE378.out : w.heap.size ≤ gb386)); have n6_ := aM ((zl BK378.out : gb378 ≠ gb386)); have n7_ := aM ((zn BK378.out : gb386 ≠ gb378)); clear HO_16 BK378 HB; have HO_16 := n0_; have BK378 := n1_; have HB := n2_; have BK386 := n3_; have GW386 := n4_; have GE386 := n5_; have NB378_386 := n6_; have NB386_378 := n7_; clear n0_ n1_ n2_ n3_ n4_ n5_ n6_ n7_ hb hbox hg; have hnb22 := NB386_378.out; have hnc22 := NB378_386.out; have hcz23_0 : w21.cell? ⟨gb386, 0, none⟩ = some (.int .i64 0) := (blk_cell BK386.out 0).trans rfl; have hcz23_1 : w21.cell? ⟨gb386, 1, none⟩ = some (.int .i64 0) := (blk_cell BK386.out 1).trans rfl; have hfz23_0 := blk_frozen BK386.out 0; have hfz23_1 := blk_frozen BK386.out 1) | ((with_reducible refine gate_callee (f := 20) rfl ?_); refine goesL_ (some 24) rfl rfl Try.func20 (by kernel_rfl) rfl #[.slice (some ad377) l0.length c0, .agg #[.int .i64 ((rd_T35 y382 x18_2).f0), .int .i64 ((rd_T35 y382 x18_2).f1)]] rfl zm ?_; (with_reducible refine (impl_Cell_20.calls k2 _ _ l0 ((rd_T35 y382 x18_2).f0) ((rd_T35 y382 x18_2).f1) false _ ?side1 ?side2 A15.out).mono ?_); (case side1 => exact Kd.C_below HR0.out (zt GE378.out GE386.out)); (case side2 => exact HC0.out); rintro e w24 ⟨rfl, hb⟩; refine ⟨_, rfl, ?_⟩; have n0_ := aM (Kd.Q_below (by (with_reducible repeat (first | apply Kd.Q_alloc | apply Kd.Q_drewN | apply Kd.Q_drew)); exact (Kd.Q_mono (Kd.Q_far (p := ⟨gb386, 1, none⟩) (Kd.Q_far (p := ⟨gb386, 0, none⟩) (Kd.Q_mono HO_16.out (fun k_ hk => (⟨hk, hk.2⟩ : _ ∧ k_ ≠ gb386))) (fun _ hk => hk.2) (.int .i64 ((rd_T35 y382 x18_2).f0))) (fun _ hk => hk.2) (.int .i64 ((rd_T35 y382 x18_2).f1))) (fun _ h_ => h_.1))) hb); have n1_ := aM (blk_below (g := gb378) (o := .cells #[.int .i64 ((rd_T35 l0 x10_1).f0), .int .i64 ((rd_T35 l0 x10_1).f1)] 35 (0, 0)) (by (with_reducible repeat (first | refine blk_drewN ?_ _ | refine blk_drew ?_ | refine blk_alloc ?_ _)); refine blk_far ?_ NB378_386.out _; (with_reducible repeat (first | refine blk_drewN ?_ _ | refine blk_drew ?_ | refine blk_alloc ?_ _)); refine blk_far ?_ NB378_386.out _; (with_reducible repeat (first | refine blk_drewN ?_ _ | refine blk_drew ?_ | refine blk_alloc ?_ _)); exact BK378.out) hb); have n2_ := aM (blk_below (g := gb386) (o := .cells #[.int .i64 ((rd_T35 y382 x18_2).f0), .int .i64 ((rd_T35 y382 x18_2).f1)] 35 (0, 0)) (by (with_reducible repeat (first | refine blk_drewN ?_ _ | refine blk_drew ?_ | refine blk_alloc ?_ _)); refine blk_put (cs := #[.int .i64 ((rd_T35 y382 x18_2).f0), .int .i64 0]) ?_ 1 _ rfl; (with_reducible repeat (first | refine blk_drewN ?_ _ | refine blk_drew ?_ | refine blk_alloc ?_ _)); refine blk_put (cs := #[.int .i64 0, .int .i64 0]) ?_ 0 _ rfl; (with_reducible repeat (first | refine blk_drewN ?_ _ | refine blk_drew ?_ | refine blk_alloc ?_ _)); exact BK386.out) hb); have n3_ := aM (below_step (zt GE378.out GE386.out) hb); clear HO_16 BK378 BK386 HB; have HO_16 := n0_; have BK378 := n1_; have BK386 := n2_; have HB := n3_; clear n0_ n1_ n2_ n3_; (try clear hb); (try clear hb2); (try clear hk); (try clear hi)))
     go_roundg k2
     case measure => have := HK1.out; have := HK2.out; omega
     case rel => exact ⟨(x3_2), (wrap64 (x18_2 + 1)), zr, zr, H', ⟨by have := HK1.out; have := HK2.out; omega⟩, ⟨by (with_reducible repeat (first | apply Kd.Q_alloc | apply Kd.Q_drewN | apply Kd.Q_drew)); exact Kd.Q_mono HO_16.out (fun _ hk => hk.1)⟩, ⟨mB_ BK378.out⟩, ⟨zt GE378.out GE386.out⟩⟩
def impl_EdgeCount.f (k : Nat) (l0 : List (S35)) : Option (Int × Int) := (impl_IsShape.f k l0).bind fun t388 => (if t388 = true then ((impl_touches.f k l0).bind fun t389 => (some (wrap64 ((wrap64 (4 * (l0.length : Int))) - (wrap64 (2 * t389))), 0))) else (some (0, 1)))
theorem impl_EdgeCount.calls (k : Nat) (A0 : Option Addr) (c0 : Nat) (l0 : List (S35)) (r1 : Int) (r2 : Int) (w : World) (hr0 : Kd.C k35 w A0 l0.length l0) (hc0 : l0.length ≤ c0) (h : impl_EdgeCount.f k l0 = some (r1, r2)) :
  Calls Try.prog 12 #[.slice A0 l0.length c0] w fun e w' => e = .returned (.tuple #[.int .i64 r1, .int .i64 r2]) ∧ Below w.heap.size w w' := by
 have HR0 := aM hr0
 have HC0 := aM hc0
 clear hr0 hc0
 have HB := aM (Below.refl w.heap.size w)
 have H : ((impl_IsShape.f k l0).bind fun t388 => (if t388 = true then ((impl_touches.f k l0).bind fun t389 => (some (wrap64 ((wrap64 (4 * (l0.length : Int))) - (wrap64 (2 * t389))), 0))) else (some (0, 1)))) = some (r1, r2) := h
 clear h
 replace H := Option.bind_eq_some_iff.mp H
 obtain ⟨t388, A20, H⟩ := H
 replace H : (if t388 = true then ((impl_touches.f k l0).bind fun t389 => (some (wrap64 ((wrap64 (4 * (l0.length : Int))) - (wrap64 (2 * t389))), 0))) else (some (0, 1))) = some (r1, r2) := H
 have A2 := aM A20
 clear A20
 by_cases c3 : t388 = true
 rotate_left
 ·replace c3 := Bool.eq_false_iff.mpr c3
  subst c3
  have H1 : (some (0, 1)) = some (r1, r2) := by rw [if_neg (show ¬ (false = true) by decide)] at H; exact H
  clear H
  have H := H1
  clear H1
  simp only [Option.some.injEq, Prod.mk.injEq] at H
  obtain ⟨rfl, rfl⟩ := H
  go_enter Try.func12, Try.ntmps12
  go_wp2_with (first | ((with_reducible refine gate_callee (f := 19) rfl ?_); refine goesL_ (some 5) rfl rfl Try.func19 (by kernel_rfl) rfl #[.slice A0 l0.length c0] rfl zm ?_; (with_reducible refine (impl_IsShape.calls k _ _ l0 false _ ?side1 ?side2 A2.out).mono ?_); (case side1 => repeat (first | exact HR0.out | (with_reducible refine Kd.C_alloc ?_ _) | (with_reducible refine Kd.C_drewN ?_ _) | (with_reducible refine Kd.C_drew ?_))); (case side2 => exact HC0.out); rintro e w7 ⟨rfl, hb⟩; refine ⟨_, rfl, ?_⟩; have n0_ := aM (below_step zb hb); clear HB; have HB := n0_; clear n0_; (try clear hb); (try clear hb2); (try clear hk); (try clear hi)))
  go_ret2
  exact ⟨zw, zb⟩
 subst c3
 have H1 : ((impl_touches.f k l0).bind fun t389 => (some (wrap64 ((wrap64 (4 * (l0.length : Int))) - (wrap64 (2 * t389))), 0))) = some (r1, r2) := by rw [if_pos rfl] at H; exact H
 clear H
 have H := H1
 clear H1
 replace H := Option.bind_eq_some_iff.mp H
 obtain ⟨t389, A40, H⟩ := H
 replace H : (some (wrap64 ((wrap64 (4 * (l0.length : Int))) - (wrap64 (2 * t389))), 0)) = some (r1, r2) := H
 have A4 := aM A40
 clear A40
 simp only [Option.some.injEq, Prod.mk.injEq] at H
 obtain ⟨rfl, rfl⟩ := H
 go_enter Try.func12, Try.ntmps12
 go_wp2_with (first | ((with_reducible refine gate_callee (f := 19) rfl ?_); refine goesL_ (some 5) rfl rfl Try.func19 (by kernel_rfl) rfl #[.slice A0 l0.length c0] rfl zm ?_; (with_reducible refine (impl_IsShape.calls k _ _ l0 true _ ?side1 ?side2 A2.out).mono ?_); (case side1 => repeat (first | exact HR0.out | (with_reducible refine Kd.C_alloc ?_ _) | (with_reducible refine Kd.C_drewN ?_ _) | (with_reducible refine Kd.C_drew ?_))); (case side2 => exact HC0.out); rintro e w5 ⟨rfl, hb⟩; refine ⟨_, rfl, ?_⟩; have n0_ := aM (below_step zb hb); clear HB; have HB := n0_; clear n0_; (try clear hb); (try clear hb2); (try clear hk); (try clear hi)) | ((with_reducible refine gate_callee (f := 24) rfl ?_); refine goesL_ (some 11) rfl rfl Try.func24 (by kernel_rfl) rfl #[.slice A0 l0.length c0] rfl zm ?_; (with_reducible refine (impl_touches.calls k _ _ l0 t389 _ ?side1 ?side2 A4.out).mono ?_); (case side1 => repeat (first | exact (Kd.C_below HR0.out HB.out) | (with_reducible refine Kd.C_alloc ?_ _) | (with_reducible refine Kd.C_drewN ?_ _) | (with_reducible refine Kd.C_drew ?_))); (case side2 => exact HC0.out); rintro e w6 ⟨rfl, hb⟩; refine ⟨_, rfl, ?_⟩; have n0_ := aM (below_step zb hb); clear HB; have HB := n0_; clear n0_; (try clear hb); (try clear hb2); (try clear hk); (try clear hi)))
 go_ret2
 exact ⟨zw, zb⟩
mutual
def spec_l06Edges.l0 : Nat → List (S35) → Int → Int → Option (Int)
 | 0, _, _, _ => none
 | k + 1, x0, x3, x4 => if x4 < (x0.length : Int) then (if 0 ≤ x4 then ((spec_l02Around.f ((rd_T35 x0 x4).f0) ((rd_T35 x0 x4).f1)).bind fun t391 => (spec_l06Edges.l1 k x0 x3 x4 t391 0)) else (none)) else (some x3)
def spec_l06Edges.l1 : Nat → List (S35) → Int → Int → List (S35) → Int → Option (Int)
 | 0, _, _, _, _, _ => none
 | k + 1, x0, x3, x4, x5, x6 => if x6 < 4 then (if 0 ≤ x6 then (if x6 < (x5.length : Int) then ((spec_l02Index.f k x0 ((rd_T35 x5 x6).f0) ((rd_T35 x5 x6).f1)).bind fun t395 => (if t395 < 0 then (spec_l06Edges.l1 k x0 (wrap64 (x3 + 1)) x4 x5 (wrap64 (x6 + 1))) else (spec_l06Edges.l1 k x0 x3 x4 x5 (wrap64 (x6 + 1))))) else (none)) else (none)) else (spec_l06Edges.l0 k x0 x3 (wrap64 (x4 + 1)))
end
def spec_l06Edges.f (k : Nat) (l0 : List (S35)) : Option (Int) := spec_l06Edges.l0 k l0 0 0
theorem spec_l06Edges.calls (k : Nat) (A0 : Option Addr) (c0 : Nat) (l0 : List (S35)) (r : Int) (w : World) (hr0 : Kd.C k35 w A0 l0.length l0) (hc0 : l0.length ≤ c0) (h : spec_l06Edges.f k l0 = some r) :
  Calls Try.prog 25 #[.slice A0 l0.length c0] w fun e w' => e = .returned (.int .i64 r) ∧ Below w.heap.size w w' := by
 have hu35 := Try.underlying35
 have HR0 := aM hr0
 have HC0 := aM hc0
 clear hr0 hc0
 have HB := aM (Below.refl w.heap.size w)
 have H : (spec_l06Edges.l0 k l0 0 0) = some r := h
 clear h
 have H' := aM H
 clear H
 go_enter Try.func25, Try.ntmps25
 go_wp2
 go_loopg [3, 4] k (fun kq v3 v4 w' => ∃ (x3_1 : Int) (x4_1 : Int), v3 = .int .i64 x3_1 ∧ v4 = .int .i64 x4_1 ∧ Aside0 (spec_l06Edges.l0 kq l0 x3_1 x4_1 = some r) ∧ Aside0 (kq ≤ k) ∧ Aside0 (Below w.heap.size w w'))
 case atStart => exact ⟨(0), (0), zr, zr, H', ⟨Nat.le_refl _⟩, ⟨zb⟩⟩
 case round =>
  clear H'
  obtain ⟨x3_1, x4_1, rfl, rfl, HA, HK1, HB⟩ := hrel
  cases gk with
  | zero => exact absurd HA.out (by simp [spec_l06Edges.l0])
  | succ k1 =>
   have H := HA.out
   clear HA
   simp only [spec_l06Edges.l0] at H
   by_cases c2 : x4_1 < (l0.length : Int)
   rotate_left
   ·rw [if_neg c2] at H
    have c2b0 : decide (x4_1 < (l0.length : Int)) = false := decide_eq_false c2
    clear c2
    obtain rfl := Option.some.inj H
    go_wp2
    go_ret
    exact ⟨zw, zb⟩
   rw [if_pos c2] at H
   have c2b0 : decide (x4_1 < (l0.length : Int)) = true := decide_eq_true c2
   clear c2
   by_cases c3 : 0 ≤ x4_1
   rotate_left
   ·rw [if_neg c3] at H
    exact absurd H (by simp)
   rw [if_pos c3] at H
   have c3b0 : decide (0 ≤ x4_1) = true := decide_eq_true c3
   clear c3
   replace H := Option.bind_eq_some_iff.mp H
   obtain ⟨t391, A40, H⟩ := H
   replace H : (spec_l06Edges.l1 k1 l0 x3_1 x4_1 t391 0) = some r := H
   have A4 := aM A40
   clear A40
   have H' := aM H
   clear H
   have p390 : 0 ≤ (x4_1 : Int) := of_decide_eq_true za
   have q390 : x4_1 < (l0.length : Int) := of_decide_eq_true za
   obtain ⟨ad390, e390, hx390_0, hx390_1⟩ := at_T35 HR0.out x4_1 p390 q390
   cases e390
   replace hx390_0 := zk HB.out hx390_0
   replace hx390_1 := zk HB.out hx390_1
   replace p390 := eq_true p390
   replace q390 := eq_true q390
   go_wp2_with (first | ((with_reducible refine gate_callee (f := 36) rfl ?_); refine goesL_ (some 17) rfl rfl Try.func36 (by kernel_rfl) rfl #[.agg #[.int .i64 ((rd_T35 l0 x4_1).f0), .int .i64 ((rd_T35 l0 x4_1).f1)]] rfl zm ?_; (with_reducible refine (spec_l02Around.calls ((rd_T35 l0 x4_1).f0) ((rd_T35 l0 x4_1).f1) t391 _ A4.out).mono ?_); rintro e w5 ⟨v392, rfl, ho0, hb⟩; refine ⟨_, rfl, ?_⟩; have n0_ := aM (Kd.R_lower ho0 (below_size zb)); have n1_ := aM (below_step zb hb); clear HB; have HO393 := n0_; have HB := n1_; clear n0_ n1_; (try clear hb); (try clear hb2); (try clear hk); (try clear hi); (try clear ho0)))
   go_loopg [3, 6] k1 (fun kq v3 v6 w' => ∃ (x3_2 : Int) (x6_2 : Int), v3 = .int .i64 x3_2 ∧ v6 = .int .i64 x6_2 ∧ Aside0 (spec_l06Edges.l1 kq l0 x3_2 x4_1 t391 x6_2 = some r) ∧ Aside0 (kq ≤ k1) ∧ Aside0 (Kd.R k35 35 w' w.heap.size (fun _ => True) v392 t391) ∧ Aside0 (Below w.heap.size w w'))
   case atStart => exact ⟨(x3_1), (0), zr, zr, H', ⟨Nat.le_refl _⟩, ⟨mR_ HO393.out⟩, ⟨zb⟩⟩
   case round =>
    clear H'
    try clear c2
    try clear c2b0
    try clear p2
    try clear c3
    try clear c3b0
    try clear p3
    try clear q3
    try clear hx3
    try clear hx390_0
    try clear hx390_1
    try clear p390
    try clear q390
    obtain ⟨x3_2, x6_2, rfl, rfl, HA, HK2, HO_5, HB⟩ := hrel
    cases gk with
    | zero => exact absurd HA.out (by simp [spec_l06Edges.l1])
    | succ k2 =>
     have H := HA.out
     clear HA
     simp only [spec_l06Edges.l1] at H
     by_cases c6 : x6_2 < 4
     rotate_left
     ·rw [if_neg c6] at H
      have c6b0 : decide (x6_2 < 4) = false := decide_eq_false c6
      clear c6
      have H' := aM H
      clear H
      go_wp2
      go_roundg k2
      case measure => have := HK1.out; have := HK2.out; omega
      case rel => exact ⟨(x3_2), (wrap64 (x4_1 + 1)), zr, zr, H', ⟨by have := HK1.out; have := HK2.out; omega⟩, ⟨zb⟩⟩
     rw [if_pos c6] at H
     have c6b0 : decide (x6_2 < 4) = true := decide_eq_true c6
     clear c6
     by_cases c7 : 0 ≤ x6_2
     rotate_left
     ·rw [if_neg c7] at H
      exact absurd H (by simp)
     rw [if_pos c7] at H
     have c7b0 : decide (0 ≤ x6_2) = true := decide_eq_true c7
     clear c7
     by_cases c8 : x6_2 < (t391.length : Int)
     rotate_left
     ·rw [if_neg c8] at H
      exact absurd H (by simp)
     rw [if_pos c8] at H
     have c8b0 : decide (x6_2 < (t391.length : Int)) = true := decide_eq_true c8
     clear c8
     replace H := Option.bind_eq_some_iff.mp H
     obtain ⟨t395, A90, H⟩ := H
     replace H : (if t395 < 0 then (spec_l06Edges.l1 k2 l0 (wrap64 (x3_2 + 1)) x4_1 t391 (wrap64 (x6_2 + 1))) else (spec_l06Edges.l1 k2 l0 x3_2 x4_1 t391 (wrap64 (x6_2 + 1)))) = some r := H
     have A9 := aM A90
     clear A90
     by_cases c10 : t395 < 0
     ·rw [if_pos c10] at H
      have c10b0 : decide (t395 < 0) = true := decide_eq_true c10
      clear c10
      have H' := aM H
      clear H
      obtain ⟨Ao11, co11, eo11⟩ := Kd.R_slice HO_5.out
      subst eo11
      have p394 : 0 ≤ (x6_2 : Int) := of_decide_eq_true za
      have q394 : x6_2 < (t391.length : Int) := of_decide_eq_true za
      obtain ⟨ad394, e394, hx394_0, hx394_1⟩ := at_T35 (Kd.R_reads' HO_5.out).2.2 x6_2 p394 q394
      cases e394
      replace p394 := eq_true p394
      replace q394 := eq_true q394
      go_wp2_with (first | ((with_reducible refine gate_callee (f := 17) rfl ?_); refine goesL_ (some 27) rfl rfl Try.func17 (by kernel_rfl) rfl #[.slice (some ad390) l0.length c0, .agg #[.int .i64 ((rd_T35 t391 x6_2).f0), .int .i64 ((rd_T35 t391 x6_2).f1)]] rfl zm ?_; (with_reducible refine (spec_l02Index.calls k2 _ _ l0 ((rd_T35 t391 x6_2).f0) ((rd_T35 t391 x6_2).f1) t395 _ ?side1 ?side2 A9.out).mono ?_); (case side1 => repeat (first | exact (Kd.C_below HR0.out HB.out) | (with_reducible refine Kd.C_alloc ?_ _) | (with_reducible refine Kd.C_drewN ?_ _) | (with_reducible refine Kd.C_drew ?_))); (case side2 => exact HC0.out); rintro e w12 ⟨rfl, hb⟩; refine ⟨_, rfl, ?_⟩; have n0_ := aM (Kd.R_below (mR_ HO_5.out) hb); have n1_ := aM (below_step zb hb); clear HO_5 HB; have HO_5 := n0_; have HB := n1_; clear n0_ n1_; (try clear hb); (try clear hb2); (try clear hk); (try clear hi)))
      go_roundg k2
      case measure => have := HK1.out; have := HK2.out; omega
      case rel => exact ⟨(wrap64 (x3_2 + 1)), (wrap64 (x6_2 + 1)), zr, zr, H', ⟨by have := HK1.out; have := HK2.out; omega⟩, ⟨mR_ HO_5.out⟩, ⟨zb⟩⟩
     rw [if_neg c10] at H
     have c10b0 : decide (t395 < 0) = false := decide_eq_false c10
     clear c10
     have H' := aM H
     clear H
     obtain ⟨Ao13, co13, eo13⟩ := Kd.R_slice HO_5.out
     subst eo13
     have p394 : 0 ≤ (x6_2 : Int) := of_decide_eq_true za
     have q394 : x6_2 < (t391.length : Int) := of_decide_eq_true za
     obtain ⟨ad394, e394, hx394_0, hx394_1⟩ := at_T35 (Kd.R_reads' HO_5.out).2.2 x6_2 p394 q394
     cases e394
     replace p394 := eq_true p394
     replace q394 := eq_true q394
     go_wp2_with (first | ((with_reducible refine gate_callee (f := 17) rfl ?_); refine goesL_ (some 27) rfl rfl Try.func17 (by kernel_rfl) rfl #[.slice (some ad390) l0.length c0, .agg #[.int .i64 ((rd_T35 t391 x6_2).f0), .int .i64 ((rd_T35 t391 x6_2).f1)]] rfl zm ?_; (with_reducible refine (spec_l02Index.calls k2 _ _ l0 ((rd_T35 t391 x6_2).f0) ((rd_T35 t391 x6_2).f1) t395 _ ?side1 ?side2 A9.out).mono ?_); (case side1 => repeat (first | exact (Kd.C_below HR0.out HB.out) | (with_reducible refine Kd.C_alloc ?_ _) | (with_reducible refine Kd.C_drewN ?_ _) | (with_reducible refine Kd.C_drew ?_))); (case side2 => exact HC0.out); rintro e w14 ⟨rfl, hb⟩; refine ⟨_, rfl, ?_⟩; have n0_ := aM (Kd.R_below (mR_ HO_5.out) hb); have n1_ := aM (below_step zb hb); clear HO_5 HB; have HO_5 := n0_; have HB := n1_; clear n0_ n1_; (try clear hb); (try clear hb2); (try clear hk); (try clear hi)))
     go_roundg k2
     case measure => have := HK1.out; have := HK2.out; omega
     case rel => exact ⟨(x3_2), (wrap64 (x6_2 + 1)), zr, zr, H', ⟨by have := HK1.out; have := HK2.out; omega⟩, ⟨mR_ HO_5.out⟩, ⟨zb⟩⟩
def spec_EdgeCount.f (k : Nat) (l0 : List (S35)) : Option (Int × Int) := (spec_IsShape.f k l0).bind fun t396 => (if t396 = true then ((spec_l06Edges.f k l0).bind fun t397 => (some (t397, 0))) else (some (0, 1)))
theorem spec_EdgeCount.calls (k : Nat) (A0 : Option Addr) (c0 : Nat) (l0 : List (S35)) (r1 : Int) (r2 : Int) (w : World) (hr0 : Kd.C k35 w A0 l0.length l0) (hc0 : l0.length ≤ c0) (h : spec_EdgeCount.f k l0 = some (r1, r2)) :
  Calls Try.prog 13 #[.slice A0 l0.length c0] w fun e w' => e = .returned (.tuple #[.int .i64 r1, .int .i64 r2]) ∧ Below w.heap.size w w' := by
 have HR0 := aM hr0
 have HC0 := aM hc0
 clear hr0 hc0
 have HB := aM (Below.refl w.heap.size w)
 have H : ((spec_IsShape.f k l0).bind fun t396 => (if t396 = true then ((spec_l06Edges.f k l0).bind fun t397 => (some (t397, 0))) else (some (0, 1)))) = some (r1, r2) := h
 clear h
 replace H := Option.bind_eq_some_iff.mp H
 obtain ⟨t396, A20, H⟩ := H
 replace H : (if t396 = true then ((spec_l06Edges.f k l0).bind fun t397 => (some (t397, 0))) else (some (0, 1))) = some (r1, r2) := H
 have A2 := aM A20
 clear A20
 by_cases c3 : t396 = true
 rotate_left
 ·replace c3 := Bool.eq_false_iff.mpr c3
  subst c3
  have H1 : (some (0, 1)) = some (r1, r2) := by rw [if_neg (show ¬ (false = true) by decide)] at H; exact H
  clear H
  have H := H1
  clear H1
  simp only [Option.some.injEq, Prod.mk.injEq] at H
  obtain ⟨rfl, rfl⟩ := H
  go_enter Try.func13, Try.ntmps13
  go_wp2_with (first | ((with_reducible refine gate_callee (f := 16) rfl ?_); refine goesL_ (some 5) rfl rfl Try.func16 (by kernel_rfl) rfl #[.slice A0 l0.length c0] rfl zm ?_; (with_reducible refine (spec_IsShape.calls k _ _ l0 false _ ?side1 ?side2 A2.out).mono ?_); (case side1 => repeat (first | exact HR0.out | (with_reducible refine Kd.C_alloc ?_ _) | (with_reducible refine Kd.C_drewN ?_ _) | (with_reducible refine Kd.C_drew ?_))); (case side2 => exact HC0.out); rintro e w7 ⟨rfl, hb⟩; refine ⟨_, rfl, ?_⟩; have n0_ := aM (below_step zb hb); clear HB; have HB := n0_; clear n0_; (try clear hb); (try clear hb2); (try clear hk); (try clear hi)))
  go_ret2
  exact ⟨zw, zb⟩
 subst c3
 have H1 : ((spec_l06Edges.f k l0).bind fun t397 => (some (t397, 0))) = some (r1, r2) := by rw [if_pos rfl] at H; exact H
 clear H
 have H := H1
 clear H1
 replace H := Option.bind_eq_some_iff.mp H
 obtain ⟨t397, A40, H⟩ := H
 replace H : (some (t397, 0)) = some (r1, r2) := H
 have A4 := aM A40
 clear A40
 simp only [Option.some.injEq, Prod.mk.injEq] at H
 obtain ⟨rfl, rfl⟩ := H
 go_enter Try.func13, Try.ntmps13
 go_wp2_with (first | ((with_reducible refine gate_callee (f := 16) rfl ?_); refine goesL_ (some 5) rfl rfl Try.func16 (by kernel_rfl) rfl #[.slice A0 l0.length c0] rfl zm ?_; (with_reducible refine (spec_IsShape.calls k _ _ l0 true _ ?side1 ?side2 A2.out).mono ?_); (case side1 => repeat (first | exact HR0.out | (with_reducible refine Kd.C_alloc ?_ _) | (with_reducible refine Kd.C_drewN ?_ _) | (with_reducible refine Kd.C_drew ?_))); (case side2 => exact HC0.out); rintro e w5 ⟨rfl, hb⟩; refine ⟨_, rfl, ?_⟩; have n0_ := aM (below_step zb hb); clear HB; have HB := n0_; clear n0_; (try clear hb); (try clear hb2); (try clear hk); (try clear hi)) | ((with_reducible refine gate_callee (f := 25) rfl ?_); refine goesL_ (some 8) rfl rfl Try.func25 (by kernel_rfl) rfl #[.slice A0 l0.length c0] rfl zm ?_; (with_reducible refine (spec_l06Edges.calls k _ _ l0 t397 _ ?side1 ?side2 A4.out).mono ?_); (case side1 => repeat (first | exact (Kd.C_below HR0.out HB.out) | (with_reducible refine Kd.C_alloc ?_ _) | (with_reducible refine Kd.C_drewN ?_ _) | (with_reducible refine Kd.C_drew ?_))); (case side2 => exact HC0.out); rintro e w6 ⟨rfl, hb⟩; refine ⟨_, rfl, ?_⟩; have n0_ := aM (below_step zb hb); clear HB; have HB := n0_; clear n0_; (try clear hb); (try clear hb2); (try clear hk); (try clear hi)))
 go_ret2
 exact ⟨zw, zb⟩
def impl_TouchCount.f (k : Nat) (l0 : List (S35)) : Option (Int × Int) := (impl_IsShape.f k l0).bind fun t398 => (if t398 = true then ((impl_touches.f k l0).bind fun t399 => (some (t399, 0))) else (some (0, 1)))
theorem impl_TouchCount.calls (k : Nat) (A0 : Option Addr) (c0 : Nat) (l0 : List (S35)) (r1 : Int) (r2 : Int) (w : World) (hr0 : Kd.C k35 w A0 l0.length l0) (hc0 : l0.length ≤ c0) (h : impl_TouchCount.f k l0 = some (r1, r2)) :
  Calls Try.prog 14 #[.slice A0 l0.length c0] w fun e w' => e = .returned (.tuple #[.int .i64 r1, .int .i64 r2]) ∧ Below w.heap.size w w' := by
 have HR0 := aM hr0
 have HC0 := aM hc0
 clear hr0 hc0
 have HB := aM (Below.refl w.heap.size w)
 have H : ((impl_IsShape.f k l0).bind fun t398 => (if t398 = true then ((impl_touches.f k l0).bind fun t399 => (some (t399, 0))) else (some (0, 1)))) = some (r1, r2) := h
 clear h
 replace H := Option.bind_eq_some_iff.mp H
 obtain ⟨t398, A20, H⟩ := H
 replace H : (if t398 = true then ((impl_touches.f k l0).bind fun t399 => (some (t399, 0))) else (some (0, 1))) = some (r1, r2) := H
 have A2 := aM A20
 clear A20
 by_cases c3 : t398 = true
 rotate_left
 ·replace c3 := Bool.eq_false_iff.mpr c3
  subst c3
  have H1 : (some (0, 1)) = some (r1, r2) := by rw [if_neg (show ¬ (false = true) by decide)] at H; exact H
  clear H
  have H := H1
  clear H1
  simp only [Option.some.injEq, Prod.mk.injEq] at H
  obtain ⟨rfl, rfl⟩ := H
  go_enter Try.func14, Try.ntmps14
  go_wp2_with (first | ((with_reducible refine gate_callee (f := 19) rfl ?_); refine goesL_ (some 5) rfl rfl Try.func19 (by kernel_rfl) rfl #[.slice A0 l0.length c0] rfl zm ?_; (with_reducible refine (impl_IsShape.calls k _ _ l0 false _ ?side1 ?side2 A2.out).mono ?_); (case side1 => repeat (first | exact HR0.out | (with_reducible refine Kd.C_alloc ?_ _) | (with_reducible refine Kd.C_drewN ?_ _) | (with_reducible refine Kd.C_drew ?_))); (case side2 => exact HC0.out); rintro e w7 ⟨rfl, hb⟩; refine ⟨_, rfl, ?_⟩; have n0_ := aM (below_step zb hb); clear HB; have HB := n0_; clear n0_; (try clear hb); (try clear hb2); (try clear hk); (try clear hi)))
  go_ret2
  exact ⟨zw, zb⟩
 subst c3
 have H1 : ((impl_touches.f k l0).bind fun t399 => (some (t399, 0))) = some (r1, r2) := by rw [if_pos rfl] at H; exact H
 clear H
 have H := H1
 clear H1
 replace H := Option.bind_eq_some_iff.mp H
 obtain ⟨t399, A40, H⟩ := H
 replace H : (some (t399, 0)) = some (r1, r2) := H
 have A4 := aM A40
 clear A40
 simp only [Option.some.injEq, Prod.mk.injEq] at H
 obtain ⟨rfl, rfl⟩ := H
 go_enter Try.func14, Try.ntmps14
 go_wp2_with (first | ((with_reducible refine gate_callee (f := 19) rfl ?_); refine goesL_ (some 5) rfl rfl Try.func19 (by kernel_rfl) rfl #[.slice A0 l0.length c0] rfl zm ?_; (with_reducible refine (impl_IsShape.calls k _ _ l0 true _ ?side1 ?side2 A2.out).mono ?_); (case side1 => repeat (first | exact HR0.out | (with_reducible refine Kd.C_alloc ?_ _) | (with_reducible refine Kd.C_drewN ?_ _) | (with_reducible refine Kd.C_drew ?_))); (case side2 => exact HC0.out); rintro e w5 ⟨rfl, hb⟩; refine ⟨_, rfl, ?_⟩; have n0_ := aM (below_step zb hb); clear HB; have HB := n0_; clear n0_; (try clear hb); (try clear hb2); (try clear hk); (try clear hi)) | ((with_reducible refine gate_callee (f := 24) rfl ?_); refine goesL_ (some 8) rfl rfl Try.func24 (by kernel_rfl) rfl #[.slice A0 l0.length c0] rfl zm ?_; (with_reducible refine (impl_touches.calls k _ _ l0 t399 _ ?side1 ?side2 A4.out).mono ?_); (case side1 => repeat (first | exact (Kd.C_below HR0.out HB.out) | (with_reducible refine Kd.C_alloc ?_ _) | (with_reducible refine Kd.C_drewN ?_ _) | (with_reducible refine Kd.C_drew ?_))); (case side2 => exact HC0.out); rintro e w6 ⟨rfl, hb⟩; refine ⟨_, rfl, ?_⟩; have n0_ := aM (below_step zb hb); clear HB; have HB := n0_; clear n0_; (try clear hb); (try clear hb2); (try clear hk); (try clear hi)))
 go_ret2
 exact ⟨zw, zb⟩
def spec_l01Abs.f (a0 : Int) : Option (Int) := some (mx a0 (wrap64 (-a0)))
theorem spec_l01Abs.calls (a0 : Int) (r : Int) (w : World) (h : spec_l01Abs.f a0 = some r) :
  Calls Try.prog 26 #[.int .i64 a0] w fun e w' => e = .returned (.int .i64 r) ∧ Below w.heap.size w w' := by
 have HB := aM (Below.refl w.heap.size w)
 have H : (some (mx a0 (wrap64 (-a0)))) = some r := h
 clear h
 obtain ⟨ji2, hji2⟩ : ∃ j_ : Int, (mx a0 (wrap64 (-a0))) = j_ := ⟨_, rfl⟩
 replace H : (some ji2) = some r := by first | (rw [hji2] at H; exact H) | (simp only [hji2] at H ⊢; exact H)
 have hji2_ : (if a0 < (wrap64 (-a0)) then (wrap64 (-a0)) else a0) = ji2 := hji2
 obtain rfl := Option.some.inj H
 go_enter Try.func26, Try.ntmps26
 go_wp2
 go_ret
 exact ⟨by first | rfl | (simp [errW_none, errW_some] <;> rfl) | (simp only [← hji2]; first | rfl | (simp [errW_none, errW_some] <;> rfl)) | (simp [*, errW_none, errW_some] <;> rfl), zb⟩
mutual
def spec_TouchCount.l0 : Nat → List (S35) → Int → Int → Option (Int × Int)
 | 0, _, _, _ => none
 | k + 1, x0, x4, x5 => if x5 < (x0.length : Int) then (spec_TouchCount.l1 k x0 x4 x5 0) else (some (x4, 0))
def spec_TouchCount.l1 : Nat → List (S35) → Int → Int → Int → Option (Int × Int)
 | 0, _, _, _, _ => none
 | k + 1, x0, x4, x5, x6 => if x6 < x5 then (if 0 ≤ x5 then (if x5 < (x0.length : Int) then (if 0 ≤ x6 then (if x6 < (x0.length : Int) then ((spec_l01Abs.f (wrap64 (((rd_T35 x0 x5).f0) - ((rd_T35 x0 x6).f0)))).bind fun t403 => ((spec_l01Abs.f (wrap64 (((rd_T35 x0 x5).f1) - ((rd_T35 x0 x6).f1)))).bind fun t406 => (if (wrap64 (t403 + t406)) = 1 then (spec_TouchCount.l1 k x0 (wrap64 (x4 + 1)) x5 (wrap64 (x6 + 1))) else (spec_TouchCount.l1 k x0 x4 x5 (wrap64 (x6 + 1)))))) else (none)) else (none)) else (none)) else (none)) else (spec_TouchCount.l0 k x0 x4 (wrap64 (x5 + 1)))
end
def spec_TouchCount.f (k : Nat) (l0 : List (S35)) : Option (Int × Int) := (spec_IsShape.f k l0).bind fun t400 => (if t400 = true then (spec_TouchCount.l0 k l0 0 0) else (some (0, 1)))
def spec_TouchCount.T10 : Bool × List (List Nat × List Nat) := (true, [([], []), ([], []), ([0, 1], [0, 1]), ([2], [2]), ([3], [3]), ([], []), ([], []), ([5, 6], [5, 6]), ([7], [7]), ([8], [8]), ([4, 9], [4, 9]), ([10], [10]), ([], []), ([], []), ([12, 13], [12, 13]), ([14], [14]), ([15], [15]), ([], []), ([], []), ([17, 18], [17, 18]), ([19], [19]), ([20], [20]), ([16, 21], [16, 21]), ([22, 11], [22]), ([11, 23], [11, 23]), ([24], [24])])
def spec_TouchCount.B10 : List Nat := [0, 0, 3, 7, 15, 0, 0, 96, 224, 480, 1023, 2047, 0, 0, 12288, 28672, 61440, 0, 0, 393216, 917504, 1966080, 4190208, 8388607, 16777215, 33554431]
theorem spec_TouchCount.tab10 : rtab .any (opsOf Try.f15 10) = spec_TouchCount.T10 := by kernel_rfl
theorem spec_TouchCount.bits10 : waitsOk spec_TouchCount.T10.2 spec_TouchCount.B10 = true := by kernel_rfl
theorem spec_TouchCount.calls (k : Nat) (A0 : Option Addr) (c0 : Nat) (l0 : List (S35)) (r1 : Int) (r2 : Int) (w : World) (hr0 : Kd.C k35 w A0 l0.length l0) (hc0 : l0.length ≤ c0) (h : spec_TouchCount.f k l0 = some (r1, r2)) :
  Calls Try.prog 15 #[.slice A0 l0.length c0] w fun e w' => e = .returned (.tuple #[.int .i64 r1, .int .i64 r2]) ∧ Below w.heap.size w w' := by
 have HR0 := aM hr0
 have HC0 := aM hc0
 clear hr0 hc0
 have HB := aM (Below.refl w.heap.size w)
 have H : ((spec_IsShape.f k l0).bind fun t400 => (if t400 = true then (spec_TouchCount.l0 k l0 0 0) else (some (0, 1)))) = some (r1, r2) := h
 clear h
 replace H := Option.bind_eq_some_iff.mp H
 obtain ⟨t400, A20, H⟩ := H
 replace H : (if t400 = true then (spec_TouchCount.l0 k l0 0 0) else (some (0, 1))) = some (r1, r2) := H
 have A2 := aM A20
 clear A20
 by_cases c3 : t400 = true
 rotate_left
 ·replace c3 := Bool.eq_false_iff.mpr c3
  subst c3
  have H1 : (some (0, 1)) = some (r1, r2) := by rw [if_neg (show ¬ (false = true) by decide)] at H; exact H
  clear H
  have H := H1
  clear H1
  simp only [Option.some.injEq, Prod.mk.injEq] at H
  obtain ⟨rfl, rfl⟩ := H
  go_enter Try.func15, Try.ntmps15
  go_wp2_with (first | ((with_reducible refine gate_callee (f := 16) rfl ?_); refine goesL_ (some 8) rfl rfl Try.func16 (by kernel_rfl) rfl #[.slice A0 l0.length c0] rfl zm ?_; (with_reducible refine (spec_IsShape.calls k _ _ l0 false _ ?side1 ?side2 A2.out).mono ?_); (case side1 => repeat (first | exact HR0.out | (with_reducible refine Kd.C_alloc ?_ _) | (with_reducible refine Kd.C_drewN ?_ _) | (with_reducible refine Kd.C_drew ?_))); (case side2 => exact HC0.out); rintro e w20 ⟨rfl, hb⟩; refine ⟨_, rfl, ?_⟩; have n0_ := aM (below_step zb hb); clear HB; have HB := n0_; clear n0_; (try clear hb); (try clear hb2); (try clear hk); (try clear hi)))
  go_ret2
  exact ⟨zw, zb⟩
 subst c3
 have H1 : (spec_TouchCount.l0 k l0 0 0) = some (r1, r2) := by rw [if_pos rfl] at H; exact H
 clear H
 have H := H1
 clear H1
 have H' := aM H
 clear H
 go_enter Try.func15, Try.ntmps15
 go_wp2_with (first | ((with_reducible refine gate_callee (f := 16) rfl ?_); refine goesL_ (some 8) rfl rfl Try.func16 (by kernel_rfl) rfl #[.slice A0 l0.length c0] rfl zm ?_; (with_reducible refine (spec_IsShape.calls k _ _ l0 true _ ?side1 ?side2 A2.out).mono ?_); (case side1 => repeat (first | exact HR0.out | (with_reducible refine Kd.C_alloc ?_ _) | (with_reducible refine Kd.C_drewN ?_ _) | (with_reducible refine Kd.C_drew ?_))); (case side2 => exact HC0.out); rintro e w4 ⟨rfl, hb⟩; refine ⟨_, rfl, ?_⟩; have n0_ := aM (below_step zb hb); clear HB; have HB := n0_; clear n0_; (try clear hb); (try clear hb2); (try clear hk); (try clear hi)))
 go_loopg [4, 5] k (fun kq v4 v5 w' => ∃ (x4_1 : Int) (x5_1 : Int), v4 = .int .i64 x4_1 ∧ v5 = .int .i64 x5_1 ∧ Aside0 (spec_TouchCount.l0 kq l0 x4_1 x5_1 = some (r1, r2)) ∧ Aside0 (kq ≤ k) ∧ Aside0 (Below w.heap.size w w'))
 case atStart => exact ⟨(0), (0), zr, zr, H', ⟨Nat.le_refl _⟩, ⟨zb⟩⟩
 case round =>
  clear H'
  try clear c1
  try clear p2
  try clear c3
  obtain ⟨x4_1, x5_1, rfl, rfl, HA, HK1, HB⟩ := hrel
  cases gk with
  | zero => exact absurd HA.out (by simp [spec_TouchCount.l0])
  | succ k1 =>
   have H := HA.out
   clear HA
   simp only [spec_TouchCount.l0] at H
   by_cases c5 : x5_1 < (l0.length : Int)
   rotate_left
   ·rw [if_neg c5] at H
    have c5b0 : decide (x5_1 < (l0.length : Int)) = false := decide_eq_false c5
    clear c5
    simp only [Option.some.injEq, Prod.mk.injEq] at H
    obtain ⟨rfl, rfl⟩ := H
    go_wp2
    go_ret2
    exact ⟨zw, zb⟩
   rw [if_pos c5] at H
   have c5b0 : decide (x5_1 < (l0.length : Int)) = true := decide_eq_true c5
   clear c5
   have H' := aM H
   clear H
   go_wp2
   go_loopg [4, 6] k1 (fun kq v4 v6 w' => ∃ (x4_2 : Int) (x6_2 : Int), v4 = .int .i64 x4_2 ∧ v6 = .int .i64 x6_2 ∧ Aside0 (spec_TouchCount.l1 kq l0 x4_2 x5_1 x6_2 = some (r1, r2)) ∧ Aside0 (kq ≤ k1) ∧ Aside0 (Below w.heap.size w w'))
   case atStart => exact ⟨(x4_1), (0), zr, zr, H', ⟨Nat.le_refl _⟩, ⟨zb⟩⟩
   case round =>
    clear H'
    try clear c1
    try clear p2
    try clear c3
    try clear c5
    try clear c5b0
    try clear p2
    obtain ⟨x4_2, x6_2, rfl, rfl, HA, HK2, HB⟩ := hrel
    cases gk with
    | zero => exact absurd HA.out (by simp [spec_TouchCount.l1])
    | succ k2 =>
     have H := HA.out
     clear HA
     simp only [spec_TouchCount.l1] at H
     by_cases c6 : x6_2 < x5_1
     rotate_left
     ·rw [if_neg c6] at H
      have c6b0 : decide (x6_2 < x5_1) = false := decide_eq_false c6
      clear c6
      have H' := aM H
      clear H
      go_wp2
      go_roundg k2
      case measure => have := HK1.out; have := HK2.out; omega
      case rel => exact ⟨(x4_2), (wrap64 (x5_1 + 1)), zr, zr, H', ⟨by have := HK1.out; have := HK2.out; omega⟩, ⟨zb⟩⟩
     rw [if_pos c6] at H
     have c6b0 : decide (x6_2 < x5_1) = true := decide_eq_true c6
     clear c6
     by_cases c7 : 0 ≤ x5_1
     rotate_left
     ·rw [if_neg c7] at H
      exact absurd H (by simp)
     rw [if_pos c7] at H
     have c7b0 : decide (0 ≤ x5_1) = true := decide_eq_true c7
     clear c7
     by_cases c8 : x5_1 < (l0.length : Int)
     rotate_left
     ·rw [if_neg c8] at H
      exact absurd H (by simp)
     rw [if_pos c8] at H
     have c8b0 : decide (x5_1 < (l0.length : Int)) = true := decide_eq_true c8
     clear c8
     by_cases c9 : 0 ≤ x6_2
     rotate_left
     ·rw [if_neg c9] at H
      exact absurd H (by simp)
     rw [if_pos c9] at H
     have c9b0 : decide (0 ≤ x6_2) = true := decide_eq_true c9
     clear c9
     by_cases c10 : x6_2 < (l0.length : Int)
     rotate_left
     ·rw [if_neg c10] at H
      exact absurd H (by simp)
     rw [if_pos c10] at H
     have c10b0 : decide (x6_2 < (l0.length : Int)) = true := decide_eq_true c10
     clear c10
     replace H := Option.bind_eq_some_iff.mp H
     obtain ⟨t403, A110, H⟩ := H
     replace H : ((spec_l01Abs.f (wrap64 (((rd_T35 l0 x5_1).f1) - ((rd_T35 l0 x6_2).f1)))).bind fun t406 => (if (wrap64 (t403 + t406)) = 1 then (spec_TouchCount.l1 k2 l0 (wrap64 (x4_2 + 1)) x5_1 (wrap64 (x6_2 + 1))) else (spec_TouchCount.l1 k2 l0 x4_2 x5_1 (wrap64 (x6_2 + 1))))) = some (r1, r2) := H
     have A11 := aM A110
     clear A110
     replace H := Option.bind_eq_some_iff.mp H
     obtain ⟨t406, A120, H⟩ := H
     replace H : (if (wrap64 (t403 + t406)) = 1 then (spec_TouchCount.l1 k2 l0 (wrap64 (x4_2 + 1)) x5_1 (wrap64 (x6_2 + 1))) else (spec_TouchCount.l1 k2 l0 x4_2 x5_1 (wrap64 (x6_2 + 1)))) = some (r1, r2) := H
     have A12 := aM A120
     clear A120
     by_cases c13 : (wrap64 (t403 + t406)) = 1
     rotate_left
     ·rw [if_neg c13] at H
      have c13b0 : ((wrap64 (t403 + t406)) == 1) = false := beq_eq_false_iff_ne.mpr c13
      have c13b1 : ((wrap64 (t403 + t406)) != 1) = true := bne_iff_ne.mpr c13
      have H' := aM H
      clear H
      try go_wp2
      have n0_ := aM (below_drew1 HB.out)
      clear HB
      have HB := n0_
      clear n0_
      have p401 : 0 ≤ (x5_1 : Int) := of_decide_eq_true za
      have q401 : x5_1 < (l0.length : Int) := of_decide_eq_true za
      obtain ⟨ad401, e401, hx401_0, hx401_1⟩ := at_T35 HR0.out x5_1 p401 q401
      have hw401_1 := hx401_1
      have hw401_0 := hx401_0
      cases e401
      replace hx401_0 := zk HB.out hx401_0
      replace hx401_1 := zk HB.out hx401_1
      replace p401 := eq_true p401
      replace q401 := eq_true q401
      have p402 : 0 ≤ (x6_2 : Int) := of_decide_eq_true za
      have q402 : x6_2 < (l0.length : Int) := of_decide_eq_true za
      obtain ⟨ad402, e402, hx402_0, hx402_1⟩ := at_T35 HR0.out x6_2 p402 q402
      have hw402_1 := hx402_1
      have hw402_0 := hx402_0
      obtain rfl : ad401 = ad402 := (by injection e402)
      replace hx402_0 := zk HB.out hx402_0
      replace hx402_1 := zk HB.out hx402_1
      replace p402 := eq_true p402
      replace q402 := eq_true q402
      have p404 : 0 ≤ (x5_1 : Int) := of_decide_eq_true za
      have q404 : x5_1 < (l0.length : Int) := of_decide_eq_true za
      obtain ⟨ad404, e404, hx404_0, hx404_1⟩ := at_T35 HR0.out x5_1 p404 q404
      have hw404_1 := hx404_1
      have hw404_0 := hx404_0
      obtain rfl : ad401 = ad404 := (by injection e404)
      replace hx404_0 := zk HB.out hx404_0
      replace hx404_1 := zk HB.out hx404_1
      replace p404 := eq_true p404
      replace q404 := eq_true q404
      have p405 : 0 ≤ (x6_2 : Int) := of_decide_eq_true za
      have q405 : x6_2 < (l0.length : Int) := of_decide_eq_true za
      obtain ⟨ad405, e405, hx405_0, hx405_1⟩ := at_T35 HR0.out x6_2 p405 q405
      have hw405_1 := hx405_1
      have hw405_0 := hx405_0
      obtain rfl : ad401 = ad405 := (by injection e405)
      replace hx405_0 := zk HB.out hx405_0
      replace hx405_1 := zk HB.out hx405_1
      replace p405 := eq_true p405
      replace q405 := eq_true q405
      refine start_ (n := 26) (S := fun w' => w'.cell? (ad401.add ((x5_1).toNat * 2)) = some (.int .i64 ((rd_T35 l0 x5_1).f0)) ∧ w'.cell? ⟨(ad401.add ((x5_1).toNat * 2)).block, (ad401.add ((x5_1).toNat * 2)).off + 1, none⟩ = some (.int .i64 ((rd_T35 l0 x5_1).f1)) ∧ w'.cell? (ad401.add ((x6_2).toNat * 2)) = some (.int .i64 ((rd_T35 l0 x6_2).f0)) ∧ w'.cell? ⟨(ad401.add ((x6_2).toNat * 2)).block, (ad401.add ((x6_2).toNat * 2)).off + 1, none⟩ = some (.int .i64 ((rd_T35 l0 x6_2).f1)) ∧ w'.cell? (ad401.add ((x5_1).toNat * 2)) = some (.int .i64 ((rd_T35 l0 x5_1).f0)) ∧ w'.cell? ⟨(ad401.add ((x5_1).toNat * 2)).block, (ad401.add ((x5_1).toNat * 2)).off + 1, none⟩ = some (.int .i64 ((rd_T35 l0 x5_1).f1)) ∧ w'.cell? (ad401.add ((x6_2).toNat * 2)) = some (.int .i64 ((rd_T35 l0 x6_2).f0)) ∧ w'.cell? ⟨(ad401.add ((x6_2).toNat * 2)).block, (ad401.add ((x6_2).toNat * 2)).off + 1, none⟩ = some (.int .i64 ((rd_T35 l0 x6_2).f1))) (ds := []) zA122 (by kernel_rfl) rfl rfl ⟨(zk HB.out hw401_0), (zk HB.out hw401_1), (zk HB.out hw402_0), (zk HB.out hw402_1), (zk HB.out hw404_0), (zk HB.out hw404_1), (zk HB.out hw405_0), (zk HB.out hw405_1)⟩ (fun hHeld => ?_); refine with_tabW spec_TouchCount.tab10 spec_TouchCount.bits10 (fun HT_ HW_ => ?_)
      generalize wr.drew = w17 at HB hx401_0 hx401_1 hx402_0 hx402_1 hx404_0 hx404_1 hx405_0 hx405_1 hHeld ⊢
      refine zp 0 (some 21) ?_ zA123 rfl rfl (Or.inl ⟨by rfl, ?_⟩) ?_ ?_ ?_
      rotate_left
      ·intro w'
       go_simp
       with_reducible rfl
      rotate_left
      ·simp only [Act.put, xA, xB, xC, i64_w, i32_w]
       rfl
      refine zp 1 (some 22) ?_ zA124 rfl rfl (Or.inl ⟨by rfl, ?_⟩) ?_ ?_ ?_
      rotate_left
      ·intro w'
       go_simp
       with_reducible rfl
      rotate_left
      ·simp only [Act.put, xA, xB, xC, i64_w, i32_w]
       rfl
      refine zp 2 (some 23) ?_ zA125 rfl rfl (Or.inl ⟨by rfl, ?_⟩) ?_ ?_ ?_
      rotate_left
      ·intro w'
       go_simp
       with_reducible rfl
      rotate_left
      ·simp only [Act.put, xA, xB, xC, i64_w, i32_w]
       rfl
      refine zp 3 (some 24) ?_ zA126 rfl rfl (Or.inl ⟨by rfl, ?_⟩) ?_ ?_ ?_
      rotate_left
      ·intro w'
       go_simp
       with_reducible rfl
      rotate_left
      ·simp only [Act.put, xA, xB, xC, i64_w, i32_w]
       rfl
      refine zp 5 (some 26) ?_ zA127 rfl rfl (Or.inl ⟨by rfl, ?_⟩) ?_ ?_ ?_
      rotate_left
      ·intro w'
       go_simp
       with_reducible rfl
      rotate_left
      ·simp only [Act.put, xA, xB, xC, i64_w, i32_w]
       rfl
      refine zp 6 (some 27) ?_ zA128 rfl rfl (Or.inl ⟨by rfl, ?_⟩) ?_ ?_ ?_
      rotate_left
      ·intro w'
       go_simp
       with_reducible rfl
      rotate_left
      ·simp only [Act.put, xA, xB, xC, i64_w, i32_w]
       rfl
      refine zp 7 (some 28) ?_ zA129 rfl rfl (Or.inl ⟨by rfl, ?_⟩) ?_ ?_ ?_
      rotate_left
      ·intro w'
       go_simp
       with_reducible rfl
      rotate_left
      ·simp only [Act.put, xA, xB, xC, i64_w, i32_w]
       rfl
      refine zp 8 (some 29) ?_ zA130 rfl rfl (Or.inl ⟨by rfl, ?_⟩) ?_ ?_ ?_
      rotate_left
      ·intro w'
       go_simp
       with_reducible rfl
      rotate_left
      ·simp only [Act.put, xA, xB, xC, i64_w, i32_w]
       rfl
      refine zp 12 (some 33) ?_ zA131 rfl rfl (Or.inl ⟨by rfl, ?_⟩) ?_ ?_ ?_
      rotate_left
      ·intro w'
       go_simp
       with_reducible rfl
      rotate_left
      ·simp only [Act.put, xA, xB, xC, i64_w, i32_w]
       rfl
      refine zp 13 (some 34) ?_ zA132 rfl rfl (Or.inl ⟨by rfl, ?_⟩) ?_ ?_ ?_
      rotate_left
      ·intro w'
       go_simp
       with_reducible rfl
      rotate_left
      ·simp only [Act.put, xA, xB, xC, i64_w, i32_w]
       rfl
      refine zp 14 (some 35) ?_ zA133 rfl rfl (Or.inl ⟨by rfl, ?_⟩) ?_ ?_ ?_
      rotate_left
      ·intro w'
       go_simp
       with_reducible rfl
      rotate_left
      ·simp only [Act.put, xA, xB, xC, i64_w, i32_w]
       rfl
      refine zp 15 (some 36) ?_ zA134 rfl rfl (Or.inl ⟨by rfl, ?_⟩) ?_ ?_ ?_
      rotate_left
      ·intro w'
       go_simp
       with_reducible rfl
      rotate_left
      ·simp only [Act.put, xA, xB, xC, i64_w, i32_w]
       rfl
      refine zp 17 (some 38) ?_ zA135 rfl rfl (Or.inl ⟨by rfl, ?_⟩) ?_ ?_ ?_
      rotate_left
      ·intro w'
       go_simp
       with_reducible rfl
      rotate_left
      ·simp only [Act.put, xA, xB, xC, i64_w, i32_w]
       rfl
      refine zp 18 (some 39) ?_ zA136 rfl rfl (Or.inl ⟨by rfl, ?_⟩) ?_ ?_ ?_
      rotate_left
      ·intro w'
       go_simp
       with_reducible rfl
      rotate_left
      ·simp only [Act.put, xA, xB, xC, i64_w, i32_w]
       rfl
      refine zp 19 (some 40) ?_ zA137 rfl rfl (Or.inl ⟨by rfl, ?_⟩) ?_ ?_ ?_
      rotate_left
      ·intro w'
       go_simp
       with_reducible rfl
      rotate_left
      ·simp only [Act.put, xA, xB, xC, i64_w, i32_w]
       rfl
      refine zp 20 (some 41) ?_ zA138 rfl rfl (Or.inl ⟨by rfl, ?_⟩) ?_ ?_ ?_
      rotate_left
      ·intro w'
       go_simp
       with_reducible rfl
      rotate_left
      ·simp only [Act.put, xA, xB, xC, i64_w, i32_w]
       rfl
      refine zu 4 (some 25) ?_ zA139 rfl rfl (Or.inl ⟨by rfl, ?_⟩) hHeld ?_ ?_ ?_
      rotate_left
      ·rintro w' ⟨s0, s1, s2, s3, s4, s5, s6, s7⟩
       go_simp
       with_reducible rfl
      rotate_left
      ·simp only [Act.put, xA, xB, xC, i64_w, i32_w]
       rfl
      refine zu 9 (some 30) ?_ zA140 rfl rfl (Or.inl ⟨by rfl, ?_⟩) hHeld ?_ ?_ ?_
      rotate_left
      ·rintro w' ⟨s0, s1, s2, s3, s4, s5, s6, s7⟩
       go_simp
       with_reducible rfl
      rotate_left
      ·simp only [Act.put, xA, xB, xC, i64_w, i32_w]
       rfl
      refine zp 10 (some 31) ?_ zA141 rfl rfl (Or.inl ⟨by rfl, ?_⟩) ?_ ?_ ?_
      rotate_left
      ·intro w'
       go_simp
       with_reducible rfl
      rotate_left
      ·simp only [Act.put, xA, xB, xC, i64_w, i32_w]
       rfl
      refine zu 16 (some 37) ?_ zA142 rfl rfl (Or.inl ⟨by rfl, ?_⟩) hHeld ?_ ?_ ?_
      rotate_left
      ·rintro w' ⟨s0, s1, s2, s3, s4, s5, s6, s7⟩
       go_simp
       with_reducible rfl
      rotate_left
      ·simp only [Act.put, xA, xB, xC, i64_w, i32_w]
       rfl
      refine zu 21 (some 42) ?_ zA143 rfl rfl (Or.inl ⟨by rfl, ?_⟩) hHeld ?_ ?_ ?_
      rotate_left
      ·rintro w' ⟨s0, s1, s2, s3, s4, s5, s6, s7⟩
       go_simp
       with_reducible rfl
      rotate_left
      ·simp only [Act.put, xA, xB, xC, i64_w, i32_w]
       rfl
      refine zp 22 (some 43) ?_ zA144 rfl rfl (Or.inl ⟨by rfl, ?_⟩) ?_ ?_ ?_
      rotate_left
      ·intro w'
       go_simp
       with_reducible rfl
      rotate_left
      ·simp only [Act.put, xA, xB, xC, i64_w, i32_w]
       rfl
      refine one_ (i := 11) (N := some 32) zA145 rfl rfl (one_of HT_.out (by kernel_rfl)) (by decide) (fun K hK => ?_)
      refine goes_ Try.func26 (by kernel_rfl) rfl #[.int .i64 (wrap64 (((rd_T35 l0 x5_1).f0) - ((rd_T35 l0 x6_2).f0)))] (by rfl) rfl rfl zm ?_
      with_reducible refine (spec_l01Abs.calls (wrap64 (((rd_T35 l0 x5_1).f0) - ((rd_T35 l0 x6_2).f0))) t403 _ A11.out).mono ?_
      rintro e w18 ⟨rfl, hb⟩
      refine ⟨_, rfl, ?_⟩
      have n0_ := aM (below_step zb hb)
      clear HB
      have HB := n0_
      clear n0_
      (try clear hb)
      (try clear hb2)
      (try clear hk)
      (try clear hi)
      refine hK.out _ _ ⟨(zk HB.out hw401_0), (zk HB.out hw401_1), (zk HB.out hw402_0), (zk HB.out hw402_1), (zk HB.out hw404_0), (zk HB.out hw404_1), (zk HB.out hw405_0), (zk HB.out hw405_1)⟩ (fun hHeld => ?_)
      clear hK K
      refine norm_ (a' := ?_) ?_ ?_
      rotate_left
      ·show Act.put _ (some 32) _ = _
       simp only [Act.put, xA, xB, xC, i64_w, i32_w]
       rfl
      refine one_ (i := 23) (N := some 44) zA146 rfl rfl (one_of HT_.out (by kernel_rfl)) (by decide) (fun K hK => ?_)
      refine goes_ Try.func26 (by kernel_rfl) rfl #[.int .i64 (wrap64 (((rd_T35 l0 x5_1).f1) - ((rd_T35 l0 x6_2).f1)))] (by rfl) rfl rfl zm ?_
      with_reducible refine (spec_l01Abs.calls (wrap64 (((rd_T35 l0 x5_1).f1) - ((rd_T35 l0 x6_2).f1))) t406 _ A12.out).mono ?_
      rintro e w19 ⟨rfl, hb⟩
      refine ⟨_, rfl, ?_⟩
      have n0_ := aM (below_step zb hb)
      clear HB
      have HB := n0_
      clear n0_
      (try clear hb)
      (try clear hb2)
      (try clear hk)
      (try clear hi)
      refine hK.out _ _ ⟨(zk HB.out hw401_0), (zk HB.out hw401_1), (zk HB.out hw402_0), (zk HB.out hw402_1), (zk HB.out hw404_0), (zk HB.out hw404_1), (zk HB.out hw405_0), (zk HB.out hw405_1)⟩ (fun hHeld => ?_)
      clear hK K
      refine norm_ (a' := ?_) ?_ ?_
      rotate_left
      ·show Act.put _ (some 44) _ = _
       simp only [Act.put, xA, xB, xC, i64_w, i32_w]
       rfl
      refine zp 24 (some 45) ?_ zA147 rfl rfl (Or.inl ⟨by rfl, ?_⟩) ?_ ?_ ?_
      rotate_left
      ·intro w'
       go_simp
       with_reducible rfl
      rotate_left
      ·simp only [Act.put, xA, xB, xC, i64_w, i32_w]
       rfl
      refine zp 25 (some 46) ?_ zA148 rfl rfl (Or.inl ⟨by rfl, ?_⟩) ?_ ?_ ?_
      rotate_left
      ·intro w'
       go_simp
       with_reducible rfl
      rotate_left
      ·simp only [Act.put, xA, xB, xC, i64_w, i32_w]
       rfl
      refine done_ (done_of HT_.out (by kernel_rfl)) ?_
      try go_wp2
      go_roundg k2
      case measure => have := HK1.out; have := HK2.out; omega
      case rel => exact ⟨(x4_2), (wrap64 (x6_2 + 1)), zr, zr, H', ⟨by have := HK1.out; have := HK2.out; omega⟩, ⟨zb⟩⟩
     rw [if_pos c13] at H
     have c13b0 : ((wrap64 (t403 + t406)) == 1) = true := beq_iff_eq.mpr c13
     have c13b1 : ((wrap64 (t403 + t406)) != 1) = false := bne_eq_false_iff_eq.mpr c13
     clear c13
     have H' := aM H
     clear H
     try go_wp2
     have n0_ := aM (below_drew1 HB.out)
     clear HB
     have HB := n0_
     clear n0_
     have p401 : 0 ≤ (x5_1 : Int) := of_decide_eq_true za
     have q401 : x5_1 < (l0.length : Int) := of_decide_eq_true za
     obtain ⟨ad401, e401, hx401_0, hx401_1⟩ := at_T35 HR0.out x5_1 p401 q401
     have hw401_1 := hx401_1
     have hw401_0 := hx401_0
     cases e401
     replace hx401_0 := zk HB.out hx401_0
     replace hx401_1 := zk HB.out hx401_1
     replace p401 := eq_true p401
     replace q401 := eq_true q401
     have p402 : 0 ≤ (x6_2 : Int) := of_decide_eq_true za
     have q402 : x6_2 < (l0.length : Int) := of_decide_eq_true za
     obtain ⟨ad402, e402, hx402_0, hx402_1⟩ := at_T35 HR0.out x6_2 p402 q402
     have hw402_1 := hx402_1
     have hw402_0 := hx402_0
     obtain rfl : ad401 = ad402 := (by injection e402)
     replace hx402_0 := zk HB.out hx402_0
     replace hx402_1 := zk HB.out hx402_1
     replace p402 := eq_true p402
     replace q402 := eq_true q402
     have p404 : 0 ≤ (x5_1 : Int) := of_decide_eq_true za
     have q404 : x5_1 < (l0.length : Int) := of_decide_eq_true za
     obtain ⟨ad404, e404, hx404_0, hx404_1⟩ := at_T35 HR0.out x5_1 p404 q404
     have hw404_1 := hx404_1
     have hw404_0 := hx404_0
     obtain rfl : ad401 = ad404 := (by injection e404)
     replace hx404_0 := zk HB.out hx404_0
     replace hx404_1 := zk HB.out hx404_1
     replace p404 := eq_true p404
     replace q404 := eq_true q404
     have p405 : 0 ≤ (x6_2 : Int) := of_decide_eq_true za
     have q405 : x6_2 < (l0.length : Int) := of_decide_eq_true za
     obtain ⟨ad405, e405, hx405_0, hx405_1⟩ := at_T35 HR0.out x6_2 p405 q405
     have hw405_1 := hx405_1
     have hw405_0 := hx405_0
     obtain rfl : ad401 = ad405 := (by injection e405)
     replace hx405_0 := zk HB.out hx405_0
     replace hx405_1 := zk HB.out hx405_1
     replace p405 := eq_true p405
     replace q405 := eq_true q405
     refine start_ (n := 26) (S := fun w' => w'.cell? (ad401.add ((x5_1).toNat * 2)) = some (.int .i64 ((rd_T35 l0 x5_1).f0)) ∧ w'.cell? ⟨(ad401.add ((x5_1).toNat * 2)).block, (ad401.add ((x5_1).toNat * 2)).off + 1, none⟩ = some (.int .i64 ((rd_T35 l0 x5_1).f1)) ∧ w'.cell? (ad401.add ((x6_2).toNat * 2)) = some (.int .i64 ((rd_T35 l0 x6_2).f0)) ∧ w'.cell? ⟨(ad401.add ((x6_2).toNat * 2)).block, (ad401.add ((x6_2).toNat * 2)).off + 1, none⟩ = some (.int .i64 ((rd_T35 l0 x6_2).f1)) ∧ w'.cell? (ad401.add ((x5_1).toNat * 2)) = some (.int .i64 ((rd_T35 l0 x5_1).f0)) ∧ w'.cell? ⟨(ad401.add ((x5_1).toNat * 2)).block, (ad401.add ((x5_1).toNat * 2)).off + 1, none⟩ = some (.int .i64 ((rd_T35 l0 x5_1).f1)) ∧ w'.cell? (ad401.add ((x6_2).toNat * 2)) = some (.int .i64 ((rd_T35 l0 x6_2).f0)) ∧ w'.cell? ⟨(ad401.add ((x6_2).toNat * 2)).block, (ad401.add ((x6_2).toNat * 2)).off + 1, none⟩ = some (.int .i64 ((rd_T35 l0 x6_2).f1))) (ds := []) zA122 (by kernel_rfl) rfl rfl ⟨(zk HB.out hw401_0), (zk HB.out hw401_1), (zk HB.out hw402_0), (zk HB.out hw402_1), (zk HB.out hw404_0), (zk HB.out hw404_1), (zk HB.out hw405_0), (zk HB.out hw405_1)⟩ (fun hHeld => ?_); refine with_tabW spec_TouchCount.tab10 spec_TouchCount.bits10 (fun HT_ HW_ => ?_)
     generalize wr.drew = w14 at HB hx401_0 hx401_1 hx402_0 hx402_1 hx404_0 hx404_1 hx405_0 hx405_1 hHeld ⊢
     refine zp 0 (some 21) ?_ zA123 rfl rfl (Or.inl ⟨by rfl, ?_⟩) ?_ ?_ ?_
     rotate_left
     ·intro w'
      go_simp
      with_reducible rfl
     rotate_left
     ·simp only [Act.put, xA, xB, xC, i64_w, i32_w]
      rfl
     refine zp 1 (some 22) ?_ zA124 rfl rfl (Or.inl ⟨by rfl, ?_⟩) ?_ ?_ ?_
     rotate_left
     ·intro w'
      go_simp
      with_reducible rfl
     rotate_left
     ·simp only [Act.put, xA, xB, xC, i64_w, i32_w]
      rfl
     refine zp 2 (some 23) ?_ zA125 rfl rfl (Or.inl ⟨by rfl, ?_⟩) ?_ ?_ ?_
     rotate_left
     ·intro w'
      go_simp
      with_reducible rfl
     rotate_left
     ·simp only [Act.put, xA, xB, xC, i64_w, i32_w]
      rfl
     refine zp 3 (some 24) ?_ zA126 rfl rfl (Or.inl ⟨by rfl, ?_⟩) ?_ ?_ ?_
     rotate_left
     ·intro w'
      go_simp
      with_reducible rfl
     rotate_left
     ·simp only [Act.put, xA, xB, xC, i64_w, i32_w]
      rfl
     refine zp 5 (some 26) ?_ zA127 rfl rfl (Or.inl ⟨by rfl, ?_⟩) ?_ ?_ ?_
     rotate_left
     ·intro w'
      go_simp
      with_reducible rfl
     rotate_left
     ·simp only [Act.put, xA, xB, xC, i64_w, i32_w]
      rfl
     refine zp 6 (some 27) ?_ zA128 rfl rfl (Or.inl ⟨by rfl, ?_⟩) ?_ ?_ ?_
     rotate_left
     ·intro w'
      go_simp
      with_reducible rfl
     rotate_left
     ·simp only [Act.put, xA, xB, xC, i64_w, i32_w]
      rfl
     refine zp 7 (some 28) ?_ zA129 rfl rfl (Or.inl ⟨by rfl, ?_⟩) ?_ ?_ ?_
     rotate_left
     ·intro w'
      go_simp
      with_reducible rfl
     rotate_left
     ·simp only [Act.put, xA, xB, xC, i64_w, i32_w]
      rfl
     refine zp 8 (some 29) ?_ zA130 rfl rfl (Or.inl ⟨by rfl, ?_⟩) ?_ ?_ ?_
     rotate_left
     ·intro w'
      go_simp
      with_reducible rfl
     rotate_left
     ·simp only [Act.put, xA, xB, xC, i64_w, i32_w]
      rfl
     refine zp 12 (some 33) ?_ zA131 rfl rfl (Or.inl ⟨by rfl, ?_⟩) ?_ ?_ ?_
     rotate_left
     ·intro w'
      go_simp
      with_reducible rfl
     rotate_left
     ·simp only [Act.put, xA, xB, xC, i64_w, i32_w]
      rfl
     refine zp 13 (some 34) ?_ zA132 rfl rfl (Or.inl ⟨by rfl, ?_⟩) ?_ ?_ ?_
     rotate_left
     ·intro w'
      go_simp
      with_reducible rfl
     rotate_left
     ·simp only [Act.put, xA, xB, xC, i64_w, i32_w]
      rfl
     refine zp 14 (some 35) ?_ zA133 rfl rfl (Or.inl ⟨by rfl, ?_⟩) ?_ ?_ ?_
     rotate_left
     ·intro w'
      go_simp
      with_reducible rfl
     rotate_left
     ·simp only [Act.put, xA, xB, xC, i64_w, i32_w]
      rfl
     refine zp 15 (some 36) ?_ zA134 rfl rfl (Or.inl ⟨by rfl, ?_⟩) ?_ ?_ ?_
     rotate_left
     ·intro w'
      go_simp
      with_reducible rfl
     rotate_left
     ·simp only [Act.put, xA, xB, xC, i64_w, i32_w]
      rfl
     refine zp 17 (some 38) ?_ zA135 rfl rfl (Or.inl ⟨by rfl, ?_⟩) ?_ ?_ ?_
     rotate_left
     ·intro w'
      go_simp
      with_reducible rfl
     rotate_left
     ·simp only [Act.put, xA, xB, xC, i64_w, i32_w]
      rfl
     refine zp 18 (some 39) ?_ zA136 rfl rfl (Or.inl ⟨by rfl, ?_⟩) ?_ ?_ ?_
     rotate_left
     ·intro w'
      go_simp
      with_reducible rfl
     rotate_left
     ·simp only [Act.put, xA, xB, xC, i64_w, i32_w]
      rfl
     refine zp 19 (some 40) ?_ zA137 rfl rfl (Or.inl ⟨by rfl, ?_⟩) ?_ ?_ ?_
     rotate_left
     ·intro w'
      go_simp
      with_reducible rfl
     rotate_left
     ·simp only [Act.put, xA, xB, xC, i64_w, i32_w]
      rfl
     refine zp 20 (some 41) ?_ zA138 rfl rfl (Or.inl ⟨by rfl, ?_⟩) ?_ ?_ ?_
     rotate_left
     ·intro w'
      go_simp
      with_reducible rfl
     rotate_left
     ·simp only [Act.put, xA, xB, xC, i64_w, i32_w]
      rfl
     refine zu 4 (some 25) ?_ zA139 rfl rfl (Or.inl ⟨by rfl, ?_⟩) hHeld ?_ ?_ ?_
     rotate_left
     ·rintro w' ⟨s0, s1, s2, s3, s4, s5, s6, s7⟩
      go_simp
      with_reducible rfl
     rotate_left
     ·simp only [Act.put, xA, xB, xC, i64_w, i32_w]
      rfl
     refine zu 9 (some 30) ?_ zA140 rfl rfl (Or.inl ⟨by rfl, ?_⟩) hHeld ?_ ?_ ?_
     rotate_left
     ·rintro w' ⟨s0, s1, s2, s3, s4, s5, s6, s7⟩
      go_simp
      with_reducible rfl
     rotate_left
     ·simp only [Act.put, xA, xB, xC, i64_w, i32_w]
      rfl
     refine zp 10 (some 31) ?_ zA141 rfl rfl (Or.inl ⟨by rfl, ?_⟩) ?_ ?_ ?_
     rotate_left
     ·intro w'
      go_simp
      with_reducible rfl
     rotate_left
     ·simp only [Act.put, xA, xB, xC, i64_w, i32_w]
      rfl
     refine zu 16 (some 37) ?_ zA142 rfl rfl (Or.inl ⟨by rfl, ?_⟩) hHeld ?_ ?_ ?_
     rotate_left
     ·rintro w' ⟨s0, s1, s2, s3, s4, s5, s6, s7⟩
      go_simp
      with_reducible rfl
     rotate_left
     ·simp only [Act.put, xA, xB, xC, i64_w, i32_w]
      rfl
     refine zu 21 (some 42) ?_ zA143 rfl rfl (Or.inl ⟨by rfl, ?_⟩) hHeld ?_ ?_ ?_
     rotate_left
     ·rintro w' ⟨s0, s1, s2, s3, s4, s5, s6, s7⟩
      go_simp
      with_reducible rfl
     rotate_left
     ·simp only [Act.put, xA, xB, xC, i64_w, i32_w]
      rfl
     refine zp 22 (some 43) ?_ zA144 rfl rfl (Or.inl ⟨by rfl, ?_⟩) ?_ ?_ ?_
     rotate_left
     ·intro w'
      go_simp
      with_reducible rfl
     rotate_left
     ·simp only [Act.put, xA, xB, xC, i64_w, i32_w]
      rfl
     refine one_ (i := 11) (N := some 32) zA145 rfl rfl (one_of HT_.out (by kernel_rfl)) (by decide) (fun K hK => ?_)
     refine goes_ Try.func26 (by kernel_rfl) rfl #[.int .i64 (wrap64 (((rd_T35 l0 x5_1).f0) - ((rd_T35 l0 x6_2).f0)))] (by rfl) rfl rfl zm ?_
     with_reducible refine (spec_l01Abs.calls (wrap64 (((rd_T35 l0 x5_1).f0) - ((rd_T35 l0 x6_2).f0))) t403 _ A11.out).mono ?_
     rintro e w15 ⟨rfl, hb⟩
     refine ⟨_, rfl, ?_⟩
     have n0_ := aM (below_step zb hb)
     clear HB
     have HB := n0_
     clear n0_
     (try clear hb)
     (try clear hb2)
     (try clear hk)
     (try clear hi)
     refine hK.out _ _ ⟨(zk HB.out hw401_0), (zk HB.out hw401_1), (zk HB.out hw402_0), (zk HB.out hw402_1), (zk HB.out hw404_0), (zk HB.out hw404_1), (zk HB.out hw405_0), (zk HB.out hw405_1)⟩ (fun hHeld => ?_)
     clear hK K
     refine norm_ (a' := ?_) ?_ ?_
     rotate_left
     ·show Act.put _ (some 32) _ = _
      simp only [Act.put, xA, xB, xC, i64_w, i32_w]
      rfl
     refine one_ (i := 23) (N := some 44) zA146 rfl rfl (one_of HT_.out (by kernel_rfl)) (by decide) (fun K hK => ?_)
     refine goes_ Try.func26 (by kernel_rfl) rfl #[.int .i64 (wrap64 (((rd_T35 l0 x5_1).f1) - ((rd_T35 l0 x6_2).f1)))] (by rfl) rfl rfl zm ?_
     with_reducible refine (spec_l01Abs.calls (wrap64 (((rd_T35 l0 x5_1).f1) - ((rd_T35 l0 x6_2).f1))) t406 _ A12.out).mono ?_
     rintro e w16 ⟨rfl, hb⟩
     refine ⟨_, rfl, ?_⟩
     have n0_ := aM (below_step zb hb)
     clear HB
     have HB := n0_
     clear n0_
     (try clear hb)
     (try clear hb2)
     (try clear hk)
     (try clear hi)
     refine hK.out _ _ ⟨(zk HB.out hw401_0), (zk HB.out hw401_1), (zk HB.out hw402_0), (zk HB.out hw402_1), (zk HB.out hw404_0), (zk HB.out hw404_1), (zk HB.out hw405_0), (zk HB.out hw405_1)⟩ (fun hHeld => ?_)
     clear hK K
     refine norm_ (a' := ?_) ?_ ?_
     rotate_left
     ·show Act.put _ (some 44) _ = _
      simp only [Act.put, xA, xB, xC, i64_w, i32_w]
      rfl
     refine zp 24 (some 45) ?_ zA147 rfl rfl (Or.inl ⟨by rfl, ?_⟩) ?_ ?_ ?_
     rotate_left
     ·intro w'
      go_simp
      with_reducible rfl
     rotate_left
     ·simp only [Act.put, xA, xB, xC, i64_w, i32_w]
      rfl
     refine zp 25 (some 46) ?_ zA148 rfl rfl (Or.inl ⟨by rfl, ?_⟩) ?_ ?_ ?_
     rotate_left
     ·intro w'
      go_simp
      with_reducible rfl
     rotate_left
     ·simp only [Act.put, xA, xB, xC, i64_w, i32_w]
      rfl
     refine done_ (done_of HT_.out (by kernel_rfl)) ?_
     try go_wp2
     go_roundg k2
     case measure => have := HK1.out; have := HK2.out; omega
     case rel => exact ⟨(wrap64 (x4_2 + 1)), (wrap64 (x6_2 + 1)), zr, zr, H', ⟨by have := HK1.out; have := HK2.out; omega⟩, ⟨zb⟩⟩
def laws_FnEdges.f (k : Nat) (l0 : List Int) : Option (Bool) := (laws_big.f l0).bind fun t407 => (if t407 = true then (some true) else ((spec_DrawEdgeCount.f k l0).bind fun t408 => ((impl_EdgeCount.f k t408).bind fun bt411 => ((spec_EdgeCount.f k t408).bind fun bt413 => ((impl_TouchCount.f k t408).bind fun bt415 => ((spec_TouchCount.f k t408).bind fun bt417 => ((impl_CornerCount.f k t408).bind fun bt419 => ((spec_CornerCount.f k t408).bind fun bt421 => (if bt411.2 = bt413.2 then (if bt411.1 = bt413.1 then (if bt415.2 = bt417.2 then (if bt415.1 = bt417.1 then (if bt419.2 = bt421.2 then (if bt419.1 = bt421.1 then (if bt411.2 = 0 then (if (wrap64 (bt411.1 + (wrap64 (2 * bt415.1)))) = (wrap64 (4 * (t408.length : Int))) then (if (Int.tmod bt419.1 2) = 0 then (some (decide (bt419.1 ≥ 4))) else (some false)) else (some false)) else (some true)) else (some false)) else (some false)) else (some false)) else (some false)) else (some false)) else (some false))))))))))
theorem laws_FnEdges.calls (k : Nat) (A0 : Option Addr) (c0 : Nat) (l0 : List Int) (r : Bool) (w : World) (hr0 : Kd.C (Kd.int .u8) w A0 l0.length l0) (hc0 : l0.length ≤ c0) (h : laws_FnEdges.f k l0 = some r) :
  Calls Try.prog 4 #[.slice A0 l0.length c0] w fun e w' => e = .returned (.bool r) ∧ Below w.heap.size w w' := by
 have HR0 := aM hr0
 have HC0 := aM hc0
 clear hr0 hc0
 have HB := aM (Below.refl w.heap.size w)
 have H : ((laws_big.f l0).bind fun t407 => (if t407 = true then (some true) else ((spec_DrawEdgeCount.f k l0).bind fun t408 => ((impl_EdgeCount.f k t408).bind fun bt411 => ((spec_EdgeCount.f k t408).bind fun bt413 => ((impl_TouchCount.f k t408).bind fun bt415 => ((spec_TouchCount.f k t408).bind fun bt417 => ((impl_CornerCount.f k t408).bind fun bt419 => ((spec_CornerCount.f k t408).bind fun bt421 => (if bt411.2 = bt413.2 then (if bt411.1 = bt413.1 then (if bt415.2 = bt417.2 then (if bt415.1 = bt417.1 then (if bt419.2 = bt421.2 then (if bt419.1 = bt421.1 then (if bt411.2 = 0 then (if (wrap64 (bt411.1 + (wrap64 (2 * bt415.1)))) = (wrap64 (4 * (t408.length : Int))) then (if (Int.tmod bt419.1 2) = 0 then (some (decide (bt419.1 ≥ 4))) else (some false)) else (some false)) else (some true)) else (some false)) else (some false)) else (some false)) else (some false)) else (some false)) else (some false))))))))))) = some r := h
 clear h
 replace H := Option.bind_eq_some_iff.mp H
 obtain ⟨t407, A20, H⟩ := H
 replace H : (if t407 = true then (some true) else ((spec_DrawEdgeCount.f k l0).bind fun t408 => ((impl_EdgeCount.f k t408).bind fun bt411 => ((spec_EdgeCount.f k t408).bind fun bt413 => ((impl_TouchCount.f k t408).bind fun bt415 => ((spec_TouchCount.f k t408).bind fun bt417 => ((impl_CornerCount.f k t408).bind fun bt419 => ((spec_CornerCount.f k t408).bind fun bt421 => (if bt411.2 = bt413.2 then (if bt411.1 = bt413.1 then (if bt415.2 = bt417.2 then (if bt415.1 = bt417.1 then (if bt419.2 = bt421.2 then (if bt419.1 = bt421.1 then (if bt411.2 = 0 then (if (wrap64 (bt411.1 + (wrap64 (2 * bt415.1)))) = (wrap64 (4 * (t408.length : Int))) then (if (Int.tmod bt419.1 2) = 0 then (some (decide (bt419.1 ≥ 4))) else (some false)) else (some false)) else (some true)) else (some false)) else (some false)) else (some false)) else (some false)) else (some false)) else (some false)))))))))) = some r := H
 have A2 := aM A20
 clear A20
 by_cases c3 : t407 = true
 ·subst c3
  have H1 : (some true) = some r := by rw [if_pos rfl] at H; exact H
  clear H
  have H := H1
  clear H1
  obtain rfl := Option.some.inj H
  go_enter Try.func4, Try.ntmps4
  go_wp2_with (first | ((with_reducible refine gate_callee (f := 10) rfl ?_); refine goesL_ (some 17) rfl rfl Try.func10 (by kernel_rfl) rfl #[.slice A0 l0.length c0] rfl zm ?_; (with_reducible refine (laws_big.calls _ _ l0 true _ ?side1 ?side2 A2.out).mono ?_); (case side1 => repeat (first | exact HR0.out | (with_reducible refine Kd.C_alloc ?_ _) | (with_reducible refine Kd.C_drewN ?_ _) | (with_reducible refine Kd.C_drew ?_))); (case side2 => exact HC0.out); rintro e w' ⟨rfl, ⟨nd, rfl⟩⟩; refine ⟨_, rfl, ?_⟩))
  go_ret
  exact ⟨zw, zb⟩
 replace c3 := Bool.eq_false_iff.mpr c3
 subst c3
 have H1 : ((spec_DrawEdgeCount.f k l0).bind fun t408 => ((impl_EdgeCount.f k t408).bind fun bt411 => ((spec_EdgeCount.f k t408).bind fun bt413 => ((impl_TouchCount.f k t408).bind fun bt415 => ((spec_TouchCount.f k t408).bind fun bt417 => ((impl_CornerCount.f k t408).bind fun bt419 => ((spec_CornerCount.f k t408).bind fun bt421 => (if bt411.2 = bt413.2 then (if bt411.1 = bt413.1 then (if bt415.2 = bt417.2 then (if bt415.1 = bt417.1 then (if bt419.2 = bt421.2 then (if bt419.1 = bt421.1 then (if bt411.2 = 0 then (if (wrap64 (bt411.1 + (wrap64 (2 * bt415.1)))) = (wrap64 (4 * (t408.length : Int))) then (if (Int.tmod bt419.1 2) = 0 then (some (decide (bt419.1 ≥ 4))) else (some false)) else (some false)) else (some true)) else (some false)) else (some false)) else (some false)) else (some false)) else (some false)) else (some false))))))))) = some r := by rw [if_neg (show ¬ (false = true) by decide)] at H; exact H
 clear H
 have H := H1
 clear H1
 replace H := Option.bind_eq_some_iff.mp H
 obtain ⟨t408, A40, H⟩ := H
 replace H : ((impl_EdgeCount.f k t408).bind fun bt411 => ((spec_EdgeCount.f k t408).bind fun bt413 => ((impl_TouchCount.f k t408).bind fun bt415 => ((spec_TouchCount.f k t408).bind fun bt417 => ((impl_CornerCount.f k t408).bind fun bt419 => ((spec_CornerCount.f k t408).bind fun bt421 => (if bt411.2 = bt413.2 then (if bt411.1 = bt413.1 then (if bt415.2 = bt417.2 then (if bt415.1 = bt417.1 then (if bt419.2 = bt421.2 then (if bt419.1 = bt421.1 then (if bt411.2 = 0 then (if (wrap64 (bt411.1 + (wrap64 (2 * bt415.1)))) = (wrap64 (4 * (t408.length : Int))) then (if (Int.tmod bt419.1 2) = 0 then (some (decide (bt419.1 ≥ 4))) else (some false)) else (some false)) else (some true)) else (some false)) else (some false)) else (some false)) else (some false)) else (some false)) else (some false)))))))) = some r := H
 have A4 := aM A40
 clear A40
 replace H := Option.bind_eq_some_iff.mp H
 obtain ⟨⟨t411, t412⟩, A50, H⟩ := H
 replace H : ((spec_EdgeCount.f k t408).bind fun bt413 => ((impl_TouchCount.f k t408).bind fun bt415 => ((spec_TouchCount.f k t408).bind fun bt417 => ((impl_CornerCount.f k t408).bind fun bt419 => ((spec_CornerCount.f k t408).bind fun bt421 => (if t412 = bt413.2 then (if t411 = bt413.1 then (if bt415.2 = bt417.2 then (if bt415.1 = bt417.1 then (if bt419.2 = bt421.2 then (if bt419.1 = bt421.1 then (if t412 = 0 then (if (wrap64 (t411 + (wrap64 (2 * bt415.1)))) = (wrap64 (4 * (t408.length : Int))) then (if (Int.tmod bt419.1 2) = 0 then (some (decide (bt419.1 ≥ 4))) else (some false)) else (some false)) else (some true)) else (some false)) else (some false)) else (some false)) else (some false)) else (some false)) else (some false))))))) = some r := H
 have A5 := aM A50
 clear A50
 replace H := Option.bind_eq_some_iff.mp H
 obtain ⟨⟨t413, t414⟩, A60, H⟩ := H
 replace H : ((impl_TouchCount.f k t408).bind fun bt415 => ((spec_TouchCount.f k t408).bind fun bt417 => ((impl_CornerCount.f k t408).bind fun bt419 => ((spec_CornerCount.f k t408).bind fun bt421 => (if t412 = t414 then (if t411 = t413 then (if bt415.2 = bt417.2 then (if bt415.1 = bt417.1 then (if bt419.2 = bt421.2 then (if bt419.1 = bt421.1 then (if t412 = 0 then (if (wrap64 (t411 + (wrap64 (2 * bt415.1)))) = (wrap64 (4 * (t408.length : Int))) then (if (Int.tmod bt419.1 2) = 0 then (some (decide (bt419.1 ≥ 4))) else (some false)) else (some false)) else (some true)) else (some false)) else (some false)) else (some false)) else (some false)) else (some false)) else (some false)))))) = some r := H
 have A6 := aM A60
 clear A60
 replace H := Option.bind_eq_some_iff.mp H
 obtain ⟨⟨t415, t416⟩, A70, H⟩ := H
 replace H : ((spec_TouchCount.f k t408).bind fun bt417 => ((impl_CornerCount.f k t408).bind fun bt419 => ((spec_CornerCount.f k t408).bind fun bt421 => (if t412 = t414 then (if t411 = t413 then (if t416 = bt417.2 then (if t415 = bt417.1 then (if bt419.2 = bt421.2 then (if bt419.1 = bt421.1 then (if t412 = 0 then (if (wrap64 (t411 + (wrap64 (2 * t415)))) = (wrap64 (4 * (t408.length : Int))) then (if (Int.tmod bt419.1 2) = 0 then (some (decide (bt419.1 ≥ 4))) else (some false)) else (some false)) else (some true)) else (some false)) else (some false)) else (some false)) else (some false)) else (some false)) else (some false))))) = some r := H
 have A7 := aM A70
 clear A70
 replace H := Option.bind_eq_some_iff.mp H
 obtain ⟨⟨t417, t418⟩, A80, H⟩ := H
 replace H : ((impl_CornerCount.f k t408).bind fun bt419 => ((spec_CornerCount.f k t408).bind fun bt421 => (if t412 = t414 then (if t411 = t413 then (if t416 = t418 then (if t415 = t417 then (if bt419.2 = bt421.2 then (if bt419.1 = bt421.1 then (if t412 = 0 then (if (wrap64 (t411 + (wrap64 (2 * t415)))) = (wrap64 (4 * (t408.length : Int))) then (if (Int.tmod bt419.1 2) = 0 then (some (decide (bt419.1 ≥ 4))) else (some false)) else (some false)) else (some true)) else (some false)) else (some false)) else (some false)) else (some false)) else (some false)) else (some false)))) = some r := H
 have A8 := aM A80
 clear A80
 replace H := Option.bind_eq_some_iff.mp H
 obtain ⟨⟨t419, t420⟩, A90, H⟩ := H
 replace H : ((spec_CornerCount.f k t408).bind fun bt421 => (if t412 = t414 then (if t411 = t413 then (if t416 = t418 then (if t415 = t417 then (if t420 = bt421.2 then (if t419 = bt421.1 then (if t412 = 0 then (if (wrap64 (t411 + (wrap64 (2 * t415)))) = (wrap64 (4 * (t408.length : Int))) then (if (Int.tmod t419 2) = 0 then (some (decide (t419 ≥ 4))) else (some false)) else (some false)) else (some true)) else (some false)) else (some false)) else (some false)) else (some false)) else (some false)) else (some false))) = some r := H
 have A9 := aM A90
 clear A90
 replace H := Option.bind_eq_some_iff.mp H
 obtain ⟨⟨t421, t422⟩, A100, H⟩ := H
 replace H : (if t412 = t414 then (if t411 = t413 then (if t416 = t418 then (if t415 = t417 then (if t420 = t422 then (if t419 = t421 then (if t412 = 0 then (if (wrap64 (t411 + (wrap64 (2 * t415)))) = (wrap64 (4 * (t408.length : Int))) then (if (Int.tmod t419 2) = 0 then (some (decide (t419 ≥ 4))) else (some false)) else (some false)) else (some true)) else (some false)) else (some false)) else (some false)) else (some false)) else (some false)) else (some false)) = some r := H
 have A10 := aM A100
 clear A100
 by_cases c11 : t412 = t414
 rotate_left
 ·rw [if_neg c11] at H
  have c11b0 : (t412 == t414) = false := beq_eq_false_iff_ne.mpr c11
  have c11b1 : (t412 != t414) = true := bne_iff_ne.mpr c11
  obtain rfl := Option.some.inj H
  go_enter Try.func4, Try.ntmps4
  go_wp2_with (first | ((with_reducible refine gate_callee (f := 10) rfl ?_); refine goesL_ (some 17) rfl rfl Try.func10 (by kernel_rfl) rfl #[.slice A0 l0.length c0] rfl zm ?_; (with_reducible refine (laws_big.calls _ _ l0 false _ ?side1 ?side2 A2.out).mono ?_); (case side1 => repeat (first | exact HR0.out | (with_reducible refine Kd.C_alloc ?_ _) | (with_reducible refine Kd.C_drewN ?_ _) | (with_reducible refine Kd.C_drew ?_))); (case side2 => exact HC0.out); rintro e w' ⟨rfl, ⟨nd, rfl⟩⟩; refine ⟨_, rfl, ?_⟩) | ((with_reducible refine gate_callee (f := 11) rfl ?_); refine goesL_ (some 19) rfl rfl Try.func11 (by kernel_rfl) rfl #[.slice A0 l0.length c0] rfl zm ?_; (with_reducible refine (spec_DrawEdgeCount.calls k _ _ l0 t408 _ ?side1 ?side2 A4.out).mono ?_); (case side1 => repeat (first | exact HR0.out | (with_reducible refine Kd.C_alloc ?_ _) | (with_reducible refine Kd.C_drewN ?_ _) | (with_reducible refine Kd.C_drew ?_))); (case side2 => exact HC0.out); rintro e w92 ⟨v409, rfl, ho0, hb⟩; refine ⟨_, rfl, ?_⟩; have n0_ := aM (Kd.R_lower ho0 (below_size zb)); have n1_ := aM (below_step zb hb); clear HB; have HO410 := n0_; have HB := n1_; clear n0_ n1_; (try clear hb); (try clear hb2); (try clear hk); (try clear hi); (try clear ho0); obtain ⟨Ao93, co93, eo93⟩ := Kd.R_slice HO410.out; subst eo93) | ((with_reducible refine gate_callee (f := 12) rfl ?_); refine goesL_ (some 22) rfl rfl Try.func12 (by kernel_rfl) rfl #[.slice Ao93 t408.length co93] rfl zm ?_; (with_reducible refine (impl_EdgeCount.calls k _ _ t408 t411 t412 _ ?side1 ?side2 A5.out).mono ?_); (case side1 => exact zc HO410.out); (case side2 => exact (Kd.R_reads' HO410.out).2.1); rintro e w94 ⟨rfl, hb⟩; refine ⟨_, rfl, ?_⟩; have n0_ := aM (Kd.R_below (mR_ HO410.out) hb); have n1_ := aM (below_step zb hb); clear HO410 HB; have HO410 := n0_; have HB := n1_; clear n0_ n1_; (try clear hb); (try clear hb2); (try clear hk); (try clear hi)) | ((with_reducible refine gate_callee (f := 13) rfl ?_); refine goesL_ (some 27) rfl rfl Try.func13 (by kernel_rfl) rfl #[.slice Ao93 t408.length co93] rfl zm ?_; (with_reducible refine (spec_EdgeCount.calls k _ _ t408 t413 t414 _ ?side1 ?side2 A6.out).mono ?_); (case side1 => exact zc HO410.out); (case side2 => exact (Kd.R_reads' HO410.out).2.1); rintro e w95 ⟨rfl, hb⟩; refine ⟨_, rfl, ?_⟩; have n0_ := aM (Kd.R_below (mR_ HO410.out) hb); have n1_ := aM (below_step zb hb); clear HO410 HB; have HO410 := n0_; have HB := n1_; clear n0_ n1_; (try clear hb); (try clear hb2); (try clear hk); (try clear hi)) | ((with_reducible refine gate_callee (f := 14) rfl ?_); refine goesL_ (some 32) rfl rfl Try.func14 (by kernel_rfl) rfl #[.slice Ao93 t408.length co93] rfl zm ?_; (with_reducible refine (impl_TouchCount.calls k _ _ t408 t415 t416 _ ?side1 ?side2 A7.out).mono ?_); (case side1 => exact zc HO410.out); (case side2 => exact (Kd.R_reads' HO410.out).2.1); rintro e w96 ⟨rfl, hb⟩; refine ⟨_, rfl, ?_⟩; have n0_ := aM (Kd.R_below (mR_ HO410.out) hb); have n1_ := aM (below_step zb hb); clear HO410 HB; have HO410 := n0_; have HB := n1_; clear n0_ n1_; (try clear hb); (try clear hb2); (try clear hk); (try clear hi)) | ((with_reducible refine gate_callee (f := 15) rfl ?_); refine goesL_ (some 37) rfl rfl Try.func15 (by kernel_rfl) rfl #[.slice Ao93 t408.length co93] rfl zm ?_; (with_reducible refine (spec_TouchCount.calls k _ _ t408 t417 t418 _ ?side1 ?side2 A8.out).mono ?_); (case side1 => exact zc HO410.out); (case side2 => exact (Kd.R_reads' HO410.out).2.1); rintro e w97 ⟨rfl, hb⟩; refine ⟨_, rfl, ?_⟩; have n0_ := aM (Kd.R_below (mR_ HO410.out) hb); have n1_ := aM (below_step zb hb); clear HO410 HB; have HO410 := n0_; have HB := n1_; clear n0_ n1_; (try clear hb); (try clear hb2); (try clear hk); (try clear hi)) | ((with_reducible refine gate_callee (f := 8) rfl ?_); refine goesL_ (some 42) rfl rfl Try.func8 (by kernel_rfl) rfl #[.slice Ao93 t408.length co93] rfl zm ?_; (with_reducible refine (impl_CornerCount.calls k _ _ t408 t419 t420 _ ?side1 ?side2 A9.out).mono ?_); (case side1 => exact zc HO410.out); (case side2 => exact (Kd.R_reads' HO410.out).2.1); rintro e w98 ⟨rfl, hb⟩; refine ⟨_, rfl, ?_⟩; have n0_ := aM (Kd.R_below (mR_ HO410.out) hb); have n1_ := aM (below_step zb hb); clear HO410 HB; have HO410 := n0_; have HB := n1_; clear n0_ n1_; (try clear hb); (try clear hb2); (try clear hk); (try clear hi)) | ((with_reducible refine gate_callee (f := 6) rfl ?_); refine goesL_ (some 47) rfl rfl Try.func6 (by kernel_rfl) rfl #[.slice Ao93 t408.length co93] rfl zm ?_; (with_reducible refine (spec_CornerCount.calls k _ _ t408 t421 t422 _ ?side1 ?side2 A10.out).mono ?_); (case side1 => exact zc HO410.out); (case side2 => exact (Kd.R_reads' HO410.out).2.1); rintro e w99 ⟨rfl, hb⟩; refine ⟨_, rfl, ?_⟩; have n0_ := aM (Kd.R_below (mR_ HO410.out) hb); have n1_ := aM (below_step zb hb); clear HO410 HB; have HO410 := n0_; have HB := n1_; clear n0_ n1_; (try clear hb); (try clear hb2); (try clear hk); (try clear hi)))
  go_ret
  exact ⟨zw, zb⟩
 rw [if_pos c11] at H
 have c11b0 : (t412 == t414) = true := beq_iff_eq.mpr c11
 have c11b1 : (t412 != t414) = false := bne_eq_false_iff_eq.mpr c11
 clear c11
 by_cases c12 : t411 = t413
 rotate_left
 ·rw [if_neg c12] at H
  have c12b0 : (t411 == t413) = false := beq_eq_false_iff_ne.mpr c12
  have c12b1 : (t411 != t413) = true := bne_iff_ne.mpr c12
  obtain rfl := Option.some.inj H
  go_enter Try.func4, Try.ntmps4
  go_wp2_with (first | ((with_reducible refine gate_callee (f := 10) rfl ?_); refine goesL_ (some 17) rfl rfl Try.func10 (by kernel_rfl) rfl #[.slice A0 l0.length c0] rfl zm ?_; (with_reducible refine (laws_big.calls _ _ l0 false _ ?side1 ?side2 A2.out).mono ?_); (case side1 => repeat (first | exact HR0.out | (with_reducible refine Kd.C_alloc ?_ _) | (with_reducible refine Kd.C_drewN ?_ _) | (with_reducible refine Kd.C_drew ?_))); (case side2 => exact HC0.out); rintro e w' ⟨rfl, ⟨nd, rfl⟩⟩; refine ⟨_, rfl, ?_⟩) | ((with_reducible refine gate_callee (f := 11) rfl ?_); refine goesL_ (some 19) rfl rfl Try.func11 (by kernel_rfl) rfl #[.slice A0 l0.length c0] rfl zm ?_; (with_reducible refine (spec_DrawEdgeCount.calls k _ _ l0 t408 _ ?side1 ?side2 A4.out).mono ?_); (case side1 => repeat (first | exact HR0.out | (with_reducible refine Kd.C_alloc ?_ _) | (with_reducible refine Kd.C_drewN ?_ _) | (with_reducible refine Kd.C_drew ?_))); (case side2 => exact HC0.out); rintro e w84 ⟨v409, rfl, ho0, hb⟩; refine ⟨_, rfl, ?_⟩; have n0_ := aM (Kd.R_lower ho0 (below_size zb)); have n1_ := aM (below_step zb hb); clear HB; have HO410 := n0_; have HB := n1_; clear n0_ n1_; (try clear hb); (try clear hb2); (try clear hk); (try clear hi); (try clear ho0); obtain ⟨Ao85, co85, eo85⟩ := Kd.R_slice HO410.out; subst eo85) | ((with_reducible refine gate_callee (f := 12) rfl ?_); refine goesL_ (some 22) rfl rfl Try.func12 (by kernel_rfl) rfl #[.slice Ao85 t408.length co85] rfl zm ?_; (with_reducible refine (impl_EdgeCount.calls k _ _ t408 t411 t412 _ ?side1 ?side2 A5.out).mono ?_); (case side1 => exact zc HO410.out); (case side2 => exact (Kd.R_reads' HO410.out).2.1); rintro e w86 ⟨rfl, hb⟩; refine ⟨_, rfl, ?_⟩; have n0_ := aM (Kd.R_below (mR_ HO410.out) hb); have n1_ := aM (below_step zb hb); clear HO410 HB; have HO410 := n0_; have HB := n1_; clear n0_ n1_; (try clear hb); (try clear hb2); (try clear hk); (try clear hi)) | ((with_reducible refine gate_callee (f := 13) rfl ?_); refine goesL_ (some 27) rfl rfl Try.func13 (by kernel_rfl) rfl #[.slice Ao85 t408.length co85] rfl zm ?_; (with_reducible refine (spec_EdgeCount.calls k _ _ t408 t413 t414 _ ?side1 ?side2 A6.out).mono ?_); (case side1 => exact zc HO410.out); (case side2 => exact (Kd.R_reads' HO410.out).2.1); rintro e w87 ⟨rfl, hb⟩; refine ⟨_, rfl, ?_⟩; have n0_ := aM (Kd.R_below (mR_ HO410.out) hb); have n1_ := aM (below_step zb hb); clear HO410 HB; have HO410 := n0_; have HB := n1_; clear n0_ n1_; (try clear hb); (try clear hb2); (try clear hk); (try clear hi)) | ((with_reducible refine gate_callee (f := 14) rfl ?_); refine goesL_ (some 32) rfl rfl Try.func14 (by kernel_rfl) rfl #[.slice Ao85 t408.length co85] rfl zm ?_; (with_reducible refine (impl_TouchCount.calls k _ _ t408 t415 t416 _ ?side1 ?side2 A7.out).mono ?_); (case side1 => exact zc HO410.out); (case side2 => exact (Kd.R_reads' HO410.out).2.1); rintro e w88 ⟨rfl, hb⟩; refine ⟨_, rfl, ?_⟩; have n0_ := aM (Kd.R_below (mR_ HO410.out) hb); have n1_ := aM (below_step zb hb); clear HO410 HB; have HO410 := n0_; have HB := n1_; clear n0_ n1_; (try clear hb); (try clear hb2); (try clear hk); (try clear hi)) | ((with_reducible refine gate_callee (f := 15) rfl ?_); refine goesL_ (some 37) rfl rfl Try.func15 (by kernel_rfl) rfl #[.slice Ao85 t408.length co85] rfl zm ?_; (with_reducible refine (spec_TouchCount.calls k _ _ t408 t417 t418 _ ?side1 ?side2 A8.out).mono ?_); (case side1 => exact zc HO410.out); (case side2 => exact (Kd.R_reads' HO410.out).2.1); rintro e w89 ⟨rfl, hb⟩; refine ⟨_, rfl, ?_⟩; have n0_ := aM (Kd.R_below (mR_ HO410.out) hb); have n1_ := aM (below_step zb hb); clear HO410 HB; have HO410 := n0_; have HB := n1_; clear n0_ n1_; (try clear hb); (try clear hb2); (try clear hk); (try clear hi)) | ((with_reducible refine gate_callee (f := 8) rfl ?_); refine goesL_ (some 42) rfl rfl Try.func8 (by kernel_rfl) rfl #[.slice Ao85 t408.length co85] rfl zm ?_; (with_reducible refine (impl_CornerCount.calls k _ _ t408 t419 t420 _ ?side1 ?side2 A9.out).mono ?_); (case side1 => exact zc HO410.out); (case side2 => exact (Kd.R_reads' HO410.out).2.1); rintro e w90 ⟨rfl, hb⟩; refine ⟨_, rfl, ?_⟩; have n0_ := aM (Kd.R_below (mR_ HO410.out) hb); have n1_ := aM (below_step zb hb); clear HO410 HB; have HO410 := n0_; have HB := n1_; clear n0_ n1_; (try clear hb); (try clear hb2); (try clear hk); (try clear hi)) | ((with_reducible refine gate_callee (f := 6) rfl ?_); refine goesL_ (some 47) rfl rfl Try.func6 (by kernel_rfl) rfl #[.slice Ao85 t408.length co85] rfl zm ?_; (with_reducible refine (spec_CornerCount.calls k _ _ t408 t421 t422 _ ?side1 ?side2 A10.out).mono ?_); (case side1 => exact zc HO410.out); (case side2 => exact (Kd.R_reads' HO410.out).2.1); rintro e w91 ⟨rfl, hb⟩; refine ⟨_, rfl, ?_⟩; have n0_ := aM (Kd.R_below (mR_ HO410.out) hb); have n1_ := aM (below_step zb hb); clear HO410 HB; have HO410 := n0_; have HB := n1_; clear n0_ n1_; (try clear hb); (try clear hb2); (try clear hk); (try clear hi)))
  go_ret
  exact ⟨zw, zb⟩
 rw [if_pos c12] at H
 have c12b0 : (t411 == t413) = true := beq_iff_eq.mpr c12
 have c12b1 : (t411 != t413) = false := bne_eq_false_iff_eq.mpr c12
 clear c12
 by_cases c13 : t416 = t418
 rotate_left
 ·rw [if_neg c13] at H
  have c13b0 : (t416 == t418) = false := beq_eq_false_iff_ne.mpr c13
  have c13b1 : (t416 != t418) = true := bne_iff_ne.mpr c13
  obtain rfl := Option.some.inj H
  go_enter Try.func4, Try.ntmps4
  go_wp2_with (first | ((with_reducible refine gate_callee (f := 10) rfl ?_); refine goesL_ (some 17) rfl rfl Try.func10 (by kernel_rfl) rfl #[.slice A0 l0.length c0] rfl zm ?_; (with_reducible refine (laws_big.calls _ _ l0 false _ ?side1 ?side2 A2.out).mono ?_); (case side1 => repeat (first | exact HR0.out | (with_reducible refine Kd.C_alloc ?_ _) | (with_reducible refine Kd.C_drewN ?_ _) | (with_reducible refine Kd.C_drew ?_))); (case side2 => exact HC0.out); rintro e w' ⟨rfl, ⟨nd, rfl⟩⟩; refine ⟨_, rfl, ?_⟩) | ((with_reducible refine gate_callee (f := 11) rfl ?_); refine goesL_ (some 19) rfl rfl Try.func11 (by kernel_rfl) rfl #[.slice A0 l0.length c0] rfl zm ?_; (with_reducible refine (spec_DrawEdgeCount.calls k _ _ l0 t408 _ ?side1 ?side2 A4.out).mono ?_); (case side1 => repeat (first | exact HR0.out | (with_reducible refine Kd.C_alloc ?_ _) | (with_reducible refine Kd.C_drewN ?_ _) | (with_reducible refine Kd.C_drew ?_))); (case side2 => exact HC0.out); rintro e w76 ⟨v409, rfl, ho0, hb⟩; refine ⟨_, rfl, ?_⟩; have n0_ := aM (Kd.R_lower ho0 (below_size zb)); have n1_ := aM (below_step zb hb); clear HB; have HO410 := n0_; have HB := n1_; clear n0_ n1_; (try clear hb); (try clear hb2); (try clear hk); (try clear hi); (try clear ho0); obtain ⟨Ao77, co77, eo77⟩ := Kd.R_slice HO410.out; subst eo77) | ((with_reducible refine gate_callee (f := 12) rfl ?_); refine goesL_ (some 22) rfl rfl Try.func12 (by kernel_rfl) rfl #[.slice Ao77 t408.length co77] rfl zm ?_; (with_reducible refine (impl_EdgeCount.calls k _ _ t408 t411 t412 _ ?side1 ?side2 A5.out).mono ?_); (case side1 => exact zc HO410.out); (case side2 => exact (Kd.R_reads' HO410.out).2.1); rintro e w78 ⟨rfl, hb⟩; refine ⟨_, rfl, ?_⟩; have n0_ := aM (Kd.R_below (mR_ HO410.out) hb); have n1_ := aM (below_step zb hb); clear HO410 HB; have HO410 := n0_; have HB := n1_; clear n0_ n1_; (try clear hb); (try clear hb2); (try clear hk); (try clear hi)) | ((with_reducible refine gate_callee (f := 13) rfl ?_); refine goesL_ (some 27) rfl rfl Try.func13 (by kernel_rfl) rfl #[.slice Ao77 t408.length co77] rfl zm ?_; (with_reducible refine (spec_EdgeCount.calls k _ _ t408 t413 t414 _ ?side1 ?side2 A6.out).mono ?_); (case side1 => exact zc HO410.out); (case side2 => exact (Kd.R_reads' HO410.out).2.1); rintro e w79 ⟨rfl, hb⟩; refine ⟨_, rfl, ?_⟩; have n0_ := aM (Kd.R_below (mR_ HO410.out) hb); have n1_ := aM (below_step zb hb); clear HO410 HB; have HO410 := n0_; have HB := n1_; clear n0_ n1_; (try clear hb); (try clear hb2); (try clear hk); (try clear hi)) | ((with_reducible refine gate_callee (f := 14) rfl ?_); refine goesL_ (some 32) rfl rfl Try.func14 (by kernel_rfl) rfl #[.slice Ao77 t408.length co77] rfl zm ?_; (with_reducible refine (impl_TouchCount.calls k _ _ t408 t415 t416 _ ?side1 ?side2 A7.out).mono ?_); (case side1 => exact zc HO410.out); (case side2 => exact (Kd.R_reads' HO410.out).2.1); rintro e w80 ⟨rfl, hb⟩; refine ⟨_, rfl, ?_⟩; have n0_ := aM (Kd.R_below (mR_ HO410.out) hb); have n1_ := aM (below_step zb hb); clear HO410 HB; have HO410 := n0_; have HB := n1_; clear n0_ n1_; (try clear hb); (try clear hb2); (try clear hk); (try clear hi)) | ((with_reducible refine gate_callee (f := 15) rfl ?_); refine goesL_ (some 37) rfl rfl Try.func15 (by kernel_rfl) rfl #[.slice Ao77 t408.length co77] rfl zm ?_; (with_reducible refine (spec_TouchCount.calls k _ _ t408 t417 t418 _ ?side1 ?side2 A8.out).mono ?_); (case side1 => exact zc HO410.out); (case side2 => exact (Kd.R_reads' HO410.out).2.1); rintro e w81 ⟨rfl, hb⟩; refine ⟨_, rfl, ?_⟩; have n0_ := aM (Kd.R_below (mR_ HO410.out) hb); have n1_ := aM (below_step zb hb); clear HO410 HB; have HO410 := n0_; have HB := n1_; clear n0_ n1_; (try clear hb); (try clear hb2); (try clear hk); (try clear hi)) | ((with_reducible refine gate_callee (f := 8) rfl ?_); refine goesL_ (some 42) rfl rfl Try.func8 (by kernel_rfl) rfl #[.slice Ao77 t408.length co77] rfl zm ?_; (with_reducible refine (impl_CornerCount.calls k _ _ t408 t419 t420 _ ?side1 ?side2 A9.out).mono ?_); (case side1 => exact zc HO410.out); (case side2 => exact (Kd.R_reads' HO410.out).2.1); rintro e w82 ⟨rfl, hb⟩; refine ⟨_, rfl, ?_⟩; have n0_ := aM (Kd.R_below (mR_ HO410.out) hb); have n1_ := aM (below_step zb hb); clear HO410 HB; have HO410 := n0_; have HB := n1_; clear n0_ n1_; (try clear hb); (try clear hb2); (try clear hk); (try clear hi)) | ((with_reducible refine gate_callee (f := 6) rfl ?_); refine goesL_ (some 47) rfl rfl Try.func6 (by kernel_rfl) rfl #[.slice Ao77 t408.length co77] rfl zm ?_; (with_reducible refine (spec_CornerCount.calls k _ _ t408 t421 t422 _ ?side1 ?side2 A10.out).mono ?_); (case side1 => exact zc HO410.out); (case side2 => exact (Kd.R_reads' HO410.out).2.1); rintro e w83 ⟨rfl, hb⟩; refine ⟨_, rfl, ?_⟩; have n0_ := aM (Kd.R_below (mR_ HO410.out) hb); have n1_ := aM (below_step zb hb); clear HO410 HB; have HO410 := n0_; have HB := n1_; clear n0_ n1_; (try clear hb); (try clear hb2); (try clear hk); (try clear hi)))
  go_ret
  exact ⟨zw, zb⟩
 rw [if_pos c13] at H
 have c13b0 : (t416 == t418) = true := beq_iff_eq.mpr c13
 have c13b1 : (t416 != t418) = false := bne_eq_false_iff_eq.mpr c13
 clear c13
 by_cases c14 : t415 = t417
 rotate_left
 ·rw [if_neg c14] at H
  have c14b0 : (t415 == t417) = false := beq_eq_false_iff_ne.mpr c14
  have c14b1 : (t415 != t417) = true := bne_iff_ne.mpr c14
  obtain rfl := Option.some.inj H
  go_enter Try.func4, Try.ntmps4
  go_wp2_with (first | ((with_reducible refine gate_callee (f := 10) rfl ?_); refine goesL_ (some 17) rfl rfl Try.func10 (by kernel_rfl) rfl #[.slice A0 l0.length c0] rfl zm ?_; (with_reducible refine (laws_big.calls _ _ l0 false _ ?side1 ?side2 A2.out).mono ?_); (case side1 => repeat (first | exact HR0.out | (with_reducible refine Kd.C_alloc ?_ _) | (with_reducible refine Kd.C_drewN ?_ _) | (with_reducible refine Kd.C_drew ?_))); (case side2 => exact HC0.out); rintro e w' ⟨rfl, ⟨nd, rfl⟩⟩; refine ⟨_, rfl, ?_⟩) | ((with_reducible refine gate_callee (f := 11) rfl ?_); refine goesL_ (some 19) rfl rfl Try.func11 (by kernel_rfl) rfl #[.slice A0 l0.length c0] rfl zm ?_; (with_reducible refine (spec_DrawEdgeCount.calls k _ _ l0 t408 _ ?side1 ?side2 A4.out).mono ?_); (case side1 => repeat (first | exact HR0.out | (with_reducible refine Kd.C_alloc ?_ _) | (with_reducible refine Kd.C_drewN ?_ _) | (with_reducible refine Kd.C_drew ?_))); (case side2 => exact HC0.out); rintro e w68 ⟨v409, rfl, ho0, hb⟩; refine ⟨_, rfl, ?_⟩; have n0_ := aM (Kd.R_lower ho0 (below_size zb)); have n1_ := aM (below_step zb hb); clear HB; have HO410 := n0_; have HB := n1_; clear n0_ n1_; (try clear hb); (try clear hb2); (try clear hk); (try clear hi); (try clear ho0); obtain ⟨Ao69, co69, eo69⟩ := Kd.R_slice HO410.out; subst eo69) | ((with_reducible refine gate_callee (f := 12) rfl ?_); refine goesL_ (some 22) rfl rfl Try.func12 (by kernel_rfl) rfl #[.slice Ao69 t408.length co69] rfl zm ?_; (with_reducible refine (impl_EdgeCount.calls k _ _ t408 t411 t412 _ ?side1 ?side2 A5.out).mono ?_); (case side1 => exact zc HO410.out); (case side2 => exact (Kd.R_reads' HO410.out).2.1); rintro e w70 ⟨rfl, hb⟩; refine ⟨_, rfl, ?_⟩; have n0_ := aM (Kd.R_below (mR_ HO410.out) hb); have n1_ := aM (below_step zb hb); clear HO410 HB; have HO410 := n0_; have HB := n1_; clear n0_ n1_; (try clear hb); (try clear hb2); (try clear hk); (try clear hi)) | ((with_reducible refine gate_callee (f := 13) rfl ?_); refine goesL_ (some 27) rfl rfl Try.func13 (by kernel_rfl) rfl #[.slice Ao69 t408.length co69] rfl zm ?_; (with_reducible refine (spec_EdgeCount.calls k _ _ t408 t413 t414 _ ?side1 ?side2 A6.out).mono ?_); (case side1 => exact zc HO410.out); (case side2 => exact (Kd.R_reads' HO410.out).2.1); rintro e w71 ⟨rfl, hb⟩; refine ⟨_, rfl, ?_⟩; have n0_ := aM (Kd.R_below (mR_ HO410.out) hb); have n1_ := aM (below_step zb hb); clear HO410 HB; have HO410 := n0_; have HB := n1_; clear n0_ n1_; (try clear hb); (try clear hb2); (try clear hk); (try clear hi)) | ((with_reducible refine gate_callee (f := 14) rfl ?_); refine goesL_ (some 32) rfl rfl Try.func14 (by kernel_rfl) rfl #[.slice Ao69 t408.length co69] rfl zm ?_; (with_reducible refine (impl_TouchCount.calls k _ _ t408 t415 t416 _ ?side1 ?side2 A7.out).mono ?_); (case side1 => exact zc HO410.out); (case side2 => exact (Kd.R_reads' HO410.out).2.1); rintro e w72 ⟨rfl, hb⟩; refine ⟨_, rfl, ?_⟩; have n0_ := aM (Kd.R_below (mR_ HO410.out) hb); have n1_ := aM (below_step zb hb); clear HO410 HB; have HO410 := n0_; have HB := n1_; clear n0_ n1_; (try clear hb); (try clear hb2); (try clear hk); (try clear hi)) | ((with_reducible refine gate_callee (f := 15) rfl ?_); refine goesL_ (some 37) rfl rfl Try.func15 (by kernel_rfl) rfl #[.slice Ao69 t408.length co69] rfl zm ?_; (with_reducible refine (spec_TouchCount.calls k _ _ t408 t417 t418 _ ?side1 ?side2 A8.out).mono ?_); (case side1 => exact zc HO410.out); (case side2 => exact (Kd.R_reads' HO410.out).2.1); rintro e w73 ⟨rfl, hb⟩; refine ⟨_, rfl, ?_⟩; have n0_ := aM (Kd.R_below (mR_ HO410.out) hb); have n1_ := aM (below_step zb hb); clear HO410 HB; have HO410 := n0_; have HB := n1_; clear n0_ n1_; (try clear hb); (try clear hb2); (try clear hk); (try clear hi)) | ((with_reducible refine gate_callee (f := 8) rfl ?_); refine goesL_ (some 42) rfl rfl Try.func8 (by kernel_rfl) rfl #[.slice Ao69 t408.length co69] rfl zm ?_; (with_reducible refine (impl_CornerCount.calls k _ _ t408 t419 t420 _ ?side1 ?side2 A9.out).mono ?_); (case side1 => exact zc HO410.out); (case side2 => exact (Kd.R_reads' HO410.out).2.1); rintro e w74 ⟨rfl, hb⟩; refine ⟨_, rfl, ?_⟩; have n0_ := aM (Kd.R_below (mR_ HO410.out) hb); have n1_ := aM (below_step zb hb); clear HO410 HB; have HO410 := n0_; have HB := n1_; clear n0_ n1_; (try clear hb); (try clear hb2); (try clear hk); (try clear hi)) | ((with_reducible refine gate_callee (f := 6) rfl ?_); refine goesL_ (some 47) rfl rfl Try.func6 (by kernel_rfl) rfl #[.slice Ao69 t408.length co69] rfl zm ?_; (with_reducible refine (spec_CornerCount.calls k _ _ t408 t421 t422 _ ?side1 ?side2 A10.out).mono ?_); (case side1 => exact zc HO410.out); (case side2 => exact (Kd.R_reads' HO410.out).2.1); rintro e w75 ⟨rfl, hb⟩; refine ⟨_, rfl, ?_⟩; have n0_ := aM (Kd.R_below (mR_ HO410.out) hb); have n1_ := aM (below_step zb hb); clear HO410 HB; have HO410 := n0_; have HB := n1_; clear n0_ n1_; (try clear hb); (try clear hb2); (try clear hk); (try clear hi)))
  go_ret
  exact ⟨zw, zb⟩
 rw [if_pos c14] at H
 have c14b0 : (t415 == t417) = true := beq_iff_eq.mpr c14
 have c14b1 : (t415 != t417) = false := bne_eq_false_iff_eq.mpr c14
 clear c14
 by_cases c15 : t420 = t422
 rotate_left
 ·rw [if_neg c15] at H
  have c15b0 : (t420 == t422) = false := beq_eq_false_iff_ne.mpr c15
  have c15b1 : (t420 != t422) = true := bne_iff_ne.mpr c15
  obtain rfl := Option.some.inj H
  go_enter Try.func4, Try.ntmps4
  go_wp2_with (first | ((with_reducible refine gate_callee (f := 10) rfl ?_); refine goesL_ (some 17) rfl rfl Try.func10 (by kernel_rfl) rfl #[.slice A0 l0.length c0] rfl zm ?_; (with_reducible refine (laws_big.calls _ _ l0 false _ ?side1 ?side2 A2.out).mono ?_); (case side1 => repeat (first | exact HR0.out | (with_reducible refine Kd.C_alloc ?_ _) | (with_reducible refine Kd.C_drewN ?_ _) | (with_reducible refine Kd.C_drew ?_))); (case side2 => exact HC0.out); rintro e w' ⟨rfl, ⟨nd, rfl⟩⟩; refine ⟨_, rfl, ?_⟩) | ((with_reducible refine gate_callee (f := 11) rfl ?_); refine goesL_ (some 19) rfl rfl Try.func11 (by kernel_rfl) rfl #[.slice A0 l0.length c0] rfl zm ?_; (with_reducible refine (spec_DrawEdgeCount.calls k _ _ l0 t408 _ ?side1 ?side2 A4.out).mono ?_); (case side1 => repeat (first | exact HR0.out | (with_reducible refine Kd.C_alloc ?_ _) | (with_reducible refine Kd.C_drewN ?_ _) | (with_reducible refine Kd.C_drew ?_))); (case side2 => exact HC0.out); rintro e w60 ⟨v409, rfl, ho0, hb⟩; refine ⟨_, rfl, ?_⟩; have n0_ := aM (Kd.R_lower ho0 (below_size zb)); have n1_ := aM (below_step zb hb); clear HB; have HO410 := n0_; have HB := n1_; clear n0_ n1_; (try clear hb); (try clear hb2); (try clear hk); (try clear hi); (try clear ho0); obtain ⟨Ao61, co61, eo61⟩ := Kd.R_slice HO410.out; subst eo61) | ((with_reducible refine gate_callee (f := 12) rfl ?_); refine goesL_ (some 22) rfl rfl Try.func12 (by kernel_rfl) rfl #[.slice Ao61 t408.length co61] rfl zm ?_; (with_reducible refine (impl_EdgeCount.calls k _ _ t408 t411 t412 _ ?side1 ?side2 A5.out).mono ?_); (case side1 => exact zc HO410.out); (case side2 => exact (Kd.R_reads' HO410.out).2.1); rintro e w62 ⟨rfl, hb⟩; refine ⟨_, rfl, ?_⟩; have n0_ := aM (Kd.R_below (mR_ HO410.out) hb); have n1_ := aM (below_step zb hb); clear HO410 HB; have HO410 := n0_; have HB := n1_; clear n0_ n1_; (try clear hb); (try clear hb2); (try clear hk); (try clear hi)) | ((with_reducible refine gate_callee (f := 13) rfl ?_); refine goesL_ (some 27) rfl rfl Try.func13 (by kernel_rfl) rfl #[.slice Ao61 t408.length co61] rfl zm ?_; (with_reducible refine (spec_EdgeCount.calls k _ _ t408 t413 t414 _ ?side1 ?side2 A6.out).mono ?_); (case side1 => exact zc HO410.out); (case side2 => exact (Kd.R_reads' HO410.out).2.1); rintro e w63 ⟨rfl, hb⟩; refine ⟨_, rfl, ?_⟩; have n0_ := aM (Kd.R_below (mR_ HO410.out) hb); have n1_ := aM (below_step zb hb); clear HO410 HB; have HO410 := n0_; have HB := n1_; clear n0_ n1_; (try clear hb); (try clear hb2); (try clear hk); (try clear hi)) | ((with_reducible refine gate_callee (f := 14) rfl ?_); refine goesL_ (some 32) rfl rfl Try.func14 (by kernel_rfl) rfl #[.slice Ao61 t408.length co61] rfl zm ?_; (with_reducible refine (impl_TouchCount.calls k _ _ t408 t415 t416 _ ?side1 ?side2 A7.out).mono ?_); (case side1 => exact zc HO410.out); (case side2 => exact (Kd.R_reads' HO410.out).2.1); rintro e w64 ⟨rfl, hb⟩; refine ⟨_, rfl, ?_⟩; have n0_ := aM (Kd.R_below (mR_ HO410.out) hb); have n1_ := aM (below_step zb hb); clear HO410 HB; have HO410 := n0_; have HB := n1_; clear n0_ n1_; (try clear hb); (try clear hb2); (try clear hk); (try clear hi)) | ((with_reducible refine gate_callee (f := 15) rfl ?_); refine goesL_ (some 37) rfl rfl Try.func15 (by kernel_rfl) rfl #[.slice Ao61 t408.length co61] rfl zm ?_; (with_reducible refine (spec_TouchCount.calls k _ _ t408 t417 t418 _ ?side1 ?side2 A8.out).mono ?_); (case side1 => exact zc HO410.out); (case side2 => exact (Kd.R_reads' HO410.out).2.1); rintro e w65 ⟨rfl, hb⟩; refine ⟨_, rfl, ?_⟩; have n0_ := aM (Kd.R_below (mR_ HO410.out) hb); have n1_ := aM (below_step zb hb); clear HO410 HB; have HO410 := n0_; have HB := n1_; clear n0_ n1_; (try clear hb); (try clear hb2); (try clear hk); (try clear hi)) | ((with_reducible refine gate_callee (f := 8) rfl ?_); refine goesL_ (some 42) rfl rfl Try.func8 (by kernel_rfl) rfl #[.slice Ao61 t408.length co61] rfl zm ?_; (with_reducible refine (impl_CornerCount.calls k _ _ t408 t419 t420 _ ?side1 ?side2 A9.out).mono ?_); (case side1 => exact zc HO410.out); (case side2 => exact (Kd.R_reads' HO410.out).2.1); rintro e w66 ⟨rfl, hb⟩; refine ⟨_, rfl, ?_⟩; have n0_ := aM (Kd.R_below (mR_ HO410.out) hb); have n1_ := aM (below_step zb hb); clear HO410 HB; have HO410 := n0_; have HB := n1_; clear n0_ n1_; (try clear hb); (try clear hb2); (try clear hk); (try clear hi)) | ((with_reducible refine gate_callee (f := 6) rfl ?_); refine goesL_ (some 47) rfl rfl Try.func6 (by kernel_rfl) rfl #[.slice Ao61 t408.length co61] rfl zm ?_; (with_reducible refine (spec_CornerCount.calls k _ _ t408 t421 t422 _ ?side1 ?side2 A10.out).mono ?_); (case side1 => exact zc HO410.out); (case side2 => exact (Kd.R_reads' HO410.out).2.1); rintro e w67 ⟨rfl, hb⟩; refine ⟨_, rfl, ?_⟩; have n0_ := aM (Kd.R_below (mR_ HO410.out) hb); have n1_ := aM (below_step zb hb); clear HO410 HB; have HO410 := n0_; have HB := n1_; clear n0_ n1_; (try clear hb); (try clear hb2); (try clear hk); (try clear hi)))
  go_ret
  exact ⟨zw, zb⟩
 rw [if_pos c15] at H
 have c15b0 : (t420 == t422) = true := beq_iff_eq.mpr c15
 have c15b1 : (t420 != t422) = false := bne_eq_false_iff_eq.mpr c15
 clear c15
 by_cases c16 : t419 = t421
 rotate_left
 ·rw [if_neg c16] at H
  have c16b0 : (t419 == t421) = false := beq_eq_false_iff_ne.mpr c16
  have c16b1 : (t419 != t421) = true := bne_iff_ne.mpr c16
  obtain rfl := Option.some.inj H
  go_enter Try.func4, Try.ntmps4
  go_wp2_with (first | ((with_reducible refine gate_callee (f := 10) rfl ?_); refine goesL_ (some 17) rfl rfl Try.func10 (by kernel_rfl) rfl #[.slice A0 l0.length c0] rfl zm ?_; (with_reducible refine (laws_big.calls _ _ l0 false _ ?side1 ?side2 A2.out).mono ?_); (case side1 => repeat (first | exact HR0.out | (with_reducible refine Kd.C_alloc ?_ _) | (with_reducible refine Kd.C_drewN ?_ _) | (with_reducible refine Kd.C_drew ?_))); (case side2 => exact HC0.out); rintro e w' ⟨rfl, ⟨nd, rfl⟩⟩; refine ⟨_, rfl, ?_⟩) | ((with_reducible refine gate_callee (f := 11) rfl ?_); refine goesL_ (some 19) rfl rfl Try.func11 (by kernel_rfl) rfl #[.slice A0 l0.length c0] rfl zm ?_; (with_reducible refine (spec_DrawEdgeCount.calls k _ _ l0 t408 _ ?side1 ?side2 A4.out).mono ?_); (case side1 => repeat (first | exact HR0.out | (with_reducible refine Kd.C_alloc ?_ _) | (with_reducible refine Kd.C_drewN ?_ _) | (with_reducible refine Kd.C_drew ?_))); (case side2 => exact HC0.out); rintro e w52 ⟨v409, rfl, ho0, hb⟩; refine ⟨_, rfl, ?_⟩; have n0_ := aM (Kd.R_lower ho0 (below_size zb)); have n1_ := aM (below_step zb hb); clear HB; have HO410 := n0_; have HB := n1_; clear n0_ n1_; (try clear hb); (try clear hb2); (try clear hk); (try clear hi); (try clear ho0); obtain ⟨Ao53, co53, eo53⟩ := Kd.R_slice HO410.out; subst eo53) | ((with_reducible refine gate_callee (f := 12) rfl ?_); refine goesL_ (some 22) rfl rfl Try.func12 (by kernel_rfl) rfl #[.slice Ao53 t408.length co53] rfl zm ?_; (with_reducible refine (impl_EdgeCount.calls k _ _ t408 t411 t412 _ ?side1 ?side2 A5.out).mono ?_); (case side1 => exact zc HO410.out); (case side2 => exact (Kd.R_reads' HO410.out).2.1); rintro e w54 ⟨rfl, hb⟩; refine ⟨_, rfl, ?_⟩; have n0_ := aM (Kd.R_below (mR_ HO410.out) hb); have n1_ := aM (below_step zb hb); clear HO410 HB; have HO410 := n0_; have HB := n1_; clear n0_ n1_; (try clear hb); (try clear hb2); (try clear hk); (try clear hi)) | ((with_reducible refine gate_callee (f := 13) rfl ?_); refine goesL_ (some 27) rfl rfl Try.func13 (by kernel_rfl) rfl #[.slice Ao53 t408.length co53] rfl zm ?_; (with_reducible refine (spec_EdgeCount.calls k _ _ t408 t413 t414 _ ?side1 ?side2 A6.out).mono ?_); (case side1 => exact zc HO410.out); (case side2 => exact (Kd.R_reads' HO410.out).2.1); rintro e w55 ⟨rfl, hb⟩; refine ⟨_, rfl, ?_⟩; have n0_ := aM (Kd.R_below (mR_ HO410.out) hb); have n1_ := aM (below_step zb hb); clear HO410 HB; have HO410 := n0_; have HB := n1_; clear n0_ n1_; (try clear hb); (try clear hb2); (try clear hk); (try clear hi)) | ((with_reducible refine gate_callee (f := 14) rfl ?_); refine goesL_ (some 32) rfl rfl Try.func14 (by kernel_rfl) rfl #[.slice Ao53 t408.length co53] rfl zm ?_; (with_reducible refine (impl_TouchCount.calls k _ _ t408 t415 t416 _ ?side1 ?side2 A7.out).mono ?_); (case side1 => exact zc HO410.out); (case side2 => exact (Kd.R_reads' HO410.out).2.1); rintro e w56 ⟨rfl, hb⟩; refine ⟨_, rfl, ?_⟩; have n0_ := aM (Kd.R_below (mR_ HO410.out) hb); have n1_ := aM (below_step zb hb); clear HO410 HB; have HO410 := n0_; have HB := n1_; clear n0_ n1_; (try clear hb); (try clear hb2); (try clear hk); (try clear hi)) | ((with_reducible refine gate_callee (f := 15) rfl ?_); refine goesL_ (some 37) rfl rfl Try.func15 (by kernel_rfl) rfl #[.slice Ao53 t408.length co53] rfl zm ?_; (with_reducible refine (spec_TouchCount.calls k _ _ t408 t417 t418 _ ?side1 ?side2 A8.out).mono ?_); (case side1 => exact zc HO410.out); (case side2 => exact (Kd.R_reads' HO410.out).2.1); rintro e w57 ⟨rfl, hb⟩; refine ⟨_, rfl, ?_⟩; have n0_ := aM (Kd.R_below (mR_ HO410.out) hb); have n1_ := aM (below_step zb hb); clear HO410 HB; have HO410 := n0_; have HB := n1_; clear n0_ n1_; (try clear hb); (try clear hb2); (try clear hk); (try clear hi)) | ((with_reducible refine gate_callee (f := 8) rfl ?_); refine goesL_ (some 42) rfl rfl Try.func8 (by kernel_rfl) rfl #[.slice Ao53 t408.length co53] rfl zm ?_; (with_reducible refine (impl_CornerCount.calls k _ _ t408 t419 t420 _ ?side1 ?side2 A9.out).mono ?_); (case side1 => exact zc HO410.out); (case side2 => exact (Kd.R_reads' HO410.out).2.1); rintro e w58 ⟨rfl, hb⟩; refine ⟨_, rfl, ?_⟩; have n0_ := aM (Kd.R_below (mR_ HO410.out) hb); have n1_ := aM (below_step zb hb); clear HO410 HB; have HO410 := n0_; have HB := n1_; clear n0_ n1_; (try clear hb); (try clear hb2); (try clear hk); (try clear hi)) | ((with_reducible refine gate_callee (f := 6) rfl ?_); refine goesL_ (some 47) rfl rfl Try.func6 (by kernel_rfl) rfl #[.slice Ao53 t408.length co53] rfl zm ?_; (with_reducible refine (spec_CornerCount.calls k _ _ t408 t421 t422 _ ?side1 ?side2 A10.out).mono ?_); (case side1 => exact zc HO410.out); (case side2 => exact (Kd.R_reads' HO410.out).2.1); rintro e w59 ⟨rfl, hb⟩; refine ⟨_, rfl, ?_⟩; have n0_ := aM (Kd.R_below (mR_ HO410.out) hb); have n1_ := aM (below_step zb hb); clear HO410 HB; have HO410 := n0_; have HB := n1_; clear n0_ n1_; (try clear hb); (try clear hb2); (try clear hk); (try clear hi)))
  go_ret
  exact ⟨zw, zb⟩
 rw [if_pos c16] at H
 have c16b0 : (t419 == t421) = true := beq_iff_eq.mpr c16
 have c16b1 : (t419 != t421) = false := bne_eq_false_iff_eq.mpr c16
 clear c16
 by_cases c17 : t412 = 0
 rotate_left
 ·rw [if_neg c17] at H
  have c17b0 : (t412 == 0) = false := beq_eq_false_iff_ne.mpr c17
  have c17b1 : (t412 != 0) = true := bne_iff_ne.mpr c17
  obtain rfl := Option.some.inj H
  go_enter Try.func4, Try.ntmps4
  go_wp2_with (first | ((with_reducible refine gate_callee (f := 10) rfl ?_); refine goesL_ (some 17) rfl rfl Try.func10 (by kernel_rfl) rfl #[.slice A0 l0.length c0] rfl zm ?_; (with_reducible refine (laws_big.calls _ _ l0 false _ ?side1 ?side2 A2.out).mono ?_); (case side1 => repeat (first | exact HR0.out | (with_reducible refine Kd.C_alloc ?_ _) | (with_reducible refine Kd.C_drewN ?_ _) | (with_reducible refine Kd.C_drew ?_))); (case side2 => exact HC0.out); rintro e w' ⟨rfl, ⟨nd, rfl⟩⟩; refine ⟨_, rfl, ?_⟩) | ((with_reducible refine gate_callee (f := 11) rfl ?_); refine goesL_ (some 19) rfl rfl Try.func11 (by kernel_rfl) rfl #[.slice A0 l0.length c0] rfl zm ?_; (with_reducible refine (spec_DrawEdgeCount.calls k _ _ l0 t408 _ ?side1 ?side2 A4.out).mono ?_); (case side1 => repeat (first | exact HR0.out | (with_reducible refine Kd.C_alloc ?_ _) | (with_reducible refine Kd.C_drewN ?_ _) | (with_reducible refine Kd.C_drew ?_))); (case side2 => exact HC0.out); rintro e w44 ⟨v409, rfl, ho0, hb⟩; refine ⟨_, rfl, ?_⟩; have n0_ := aM (Kd.R_lower ho0 (below_size zb)); have n1_ := aM (below_step zb hb); clear HB; have HO410 := n0_; have HB := n1_; clear n0_ n1_; (try clear hb); (try clear hb2); (try clear hk); (try clear hi); (try clear ho0); obtain ⟨Ao45, co45, eo45⟩ := Kd.R_slice HO410.out; subst eo45) | ((with_reducible refine gate_callee (f := 12) rfl ?_); refine goesL_ (some 22) rfl rfl Try.func12 (by kernel_rfl) rfl #[.slice Ao45 t408.length co45] rfl zm ?_; (with_reducible refine (impl_EdgeCount.calls k _ _ t408 t411 t412 _ ?side1 ?side2 A5.out).mono ?_); (case side1 => exact zc HO410.out); (case side2 => exact (Kd.R_reads' HO410.out).2.1); rintro e w46 ⟨rfl, hb⟩; refine ⟨_, rfl, ?_⟩; have n0_ := aM (Kd.R_below (mR_ HO410.out) hb); have n1_ := aM (below_step zb hb); clear HO410 HB; have HO410 := n0_; have HB := n1_; clear n0_ n1_; (try clear hb); (try clear hb2); (try clear hk); (try clear hi)) | ((with_reducible refine gate_callee (f := 13) rfl ?_); refine goesL_ (some 27) rfl rfl Try.func13 (by kernel_rfl) rfl #[.slice Ao45 t408.length co45] rfl zm ?_; (with_reducible refine (spec_EdgeCount.calls k _ _ t408 t413 t414 _ ?side1 ?side2 A6.out).mono ?_); (case side1 => exact zc HO410.out); (case side2 => exact (Kd.R_reads' HO410.out).2.1); rintro e w47 ⟨rfl, hb⟩; refine ⟨_, rfl, ?_⟩; have n0_ := aM (Kd.R_below (mR_ HO410.out) hb); have n1_ := aM (below_step zb hb); clear HO410 HB; have HO410 := n0_; have HB := n1_; clear n0_ n1_; (try clear hb); (try clear hb2); (try clear hk); (try clear hi)) | ((with_reducible refine gate_callee (f := 14) rfl ?_); refine goesL_ (some 32) rfl rfl Try.func14 (by kernel_rfl) rfl #[.slice Ao45 t408.length co45] rfl zm ?_; (with_reducible refine (impl_TouchCount.calls k _ _ t408 t415 t416 _ ?side1 ?side2 A7.out).mono ?_); (case side1 => exact zc HO410.out); (case side2 => exact (Kd.R_reads' HO410.out).2.1); rintro e w48 ⟨rfl, hb⟩; refine ⟨_, rfl, ?_⟩; have n0_ := aM (Kd.R_below (mR_ HO410.out) hb); have n1_ := aM (below_step zb hb); clear HO410 HB; have HO410 := n0_; have HB := n1_; clear n0_ n1_; (try clear hb); (try clear hb2); (try clear hk); (try clear hi)) | ((with_reducible refine gate_callee (f := 15) rfl ?_); refine goesL_ (some 37) rfl rfl Try.func15 (by kernel_rfl) rfl #[.slice Ao45 t408.length co45] rfl zm ?_; (with_reducible refine (spec_TouchCount.calls k _ _ t408 t417 t418 _ ?side1 ?side2 A8.out).mono ?_); (case side1 => exact zc HO410.out); (case side2 => exact (Kd.R_reads' HO410.out).2.1); rintro e w49 ⟨rfl, hb⟩; refine ⟨_, rfl, ?_⟩; have n0_ := aM (Kd.R_below (mR_ HO410.out) hb); have n1_ := aM (below_step zb hb); clear HO410 HB; have HO410 := n0_; have HB := n1_; clear n0_ n1_; (try clear hb); (try clear hb2); (try clear hk); (try clear hi)) | ((with_reducible refine gate_callee (f := 8) rfl ?_); refine goesL_ (some 42) rfl rfl Try.func8 (by kernel_rfl) rfl #[.slice Ao45 t408.length co45] rfl zm ?_; (with_reducible refine (impl_CornerCount.calls k _ _ t408 t419 t420 _ ?side1 ?side2 A9.out).mono ?_); (case side1 => exact zc HO410.out); (case side2 => exact (Kd.R_reads' HO410.out).2.1); rintro e w50 ⟨rfl, hb⟩; refine ⟨_, rfl, ?_⟩; have n0_ := aM (Kd.R_below (mR_ HO410.out) hb); have n1_ := aM (below_step zb hb); clear HO410 HB; have HO410 := n0_; have HB := n1_; clear n0_ n1_; (try clear hb); (try clear hb2); (try clear hk); (try clear hi)) | ((with_reducible refine gate_callee (f := 6) rfl ?_); refine goesL_ (some 47) rfl rfl Try.func6 (by kernel_rfl) rfl #[.slice Ao45 t408.length co45] rfl zm ?_; (with_reducible refine (spec_CornerCount.calls k _ _ t408 t421 t422 _ ?side1 ?side2 A10.out).mono ?_); (case side1 => exact zc HO410.out); (case side2 => exact (Kd.R_reads' HO410.out).2.1); rintro e w51 ⟨rfl, hb⟩; refine ⟨_, rfl, ?_⟩; have n0_ := aM (Kd.R_below (mR_ HO410.out) hb); have n1_ := aM (below_step zb hb); clear HO410 HB; have HO410 := n0_; have HB := n1_; clear n0_ n1_; (try clear hb); (try clear hb2); (try clear hk); (try clear hi)))
  go_ret
  exact ⟨zw, zb⟩
 rw [if_pos c17] at H
 have c17b0 : (t412 == 0) = true := beq_iff_eq.mpr c17
 have c17b1 : (t412 != 0) = false := bne_eq_false_iff_eq.mpr c17
 clear c17
 by_cases c18 : (wrap64 (t411 + (wrap64 (2 * t415)))) = (wrap64 (4 * (t408.length : Int)))
 rotate_left
 ·rw [if_neg c18] at H
  have c18b0 : ((wrap64 (t411 + (wrap64 (2 * t415)))) == (wrap64 (4 * (t408.length : Int)))) = false := beq_eq_false_iff_ne.mpr c18
  have c18b1 : ((wrap64 (t411 + (wrap64 (2 * t415)))) != (wrap64 (4 * (t408.length : Int)))) = true := bne_iff_ne.mpr c18
  obtain rfl := Option.some.inj H
  go_enter Try.func4, Try.ntmps4
  go_wp2_with (first | ((with_reducible refine gate_callee (f := 10) rfl ?_); refine goesL_ (some 17) rfl rfl Try.func10 (by kernel_rfl) rfl #[.slice A0 l0.length c0] rfl zm ?_; (with_reducible refine (laws_big.calls _ _ l0 false _ ?side1 ?side2 A2.out).mono ?_); (case side1 => repeat (first | exact HR0.out | (with_reducible refine Kd.C_alloc ?_ _) | (with_reducible refine Kd.C_drewN ?_ _) | (with_reducible refine Kd.C_drew ?_))); (case side2 => exact HC0.out); rintro e w' ⟨rfl, ⟨nd, rfl⟩⟩; refine ⟨_, rfl, ?_⟩) | ((with_reducible refine gate_callee (f := 11) rfl ?_); refine goesL_ (some 19) rfl rfl Try.func11 (by kernel_rfl) rfl #[.slice A0 l0.length c0] rfl zm ?_; (with_reducible refine (spec_DrawEdgeCount.calls k _ _ l0 t408 _ ?side1 ?side2 A4.out).mono ?_); (case side1 => repeat (first | exact HR0.out | (with_reducible refine Kd.C_alloc ?_ _) | (with_reducible refine Kd.C_drewN ?_ _) | (with_reducible refine Kd.C_drew ?_))); (case side2 => exact HC0.out); rintro e w36 ⟨v409, rfl, ho0, hb⟩; refine ⟨_, rfl, ?_⟩; have n0_ := aM (Kd.R_lower ho0 (below_size zb)); have n1_ := aM (below_step zb hb); clear HB; have HO410 := n0_; have HB := n1_; clear n0_ n1_; (try clear hb); (try clear hb2); (try clear hk); (try clear hi); (try clear ho0); obtain ⟨Ao37, co37, eo37⟩ := Kd.R_slice HO410.out; subst eo37) | ((with_reducible refine gate_callee (f := 12) rfl ?_); refine goesL_ (some 22) rfl rfl Try.func12 (by kernel_rfl) rfl #[.slice Ao37 t408.length co37] rfl zm ?_; (with_reducible refine (impl_EdgeCount.calls k _ _ t408 t411 t412 _ ?side1 ?side2 A5.out).mono ?_); (case side1 => exact zc HO410.out); (case side2 => exact (Kd.R_reads' HO410.out).2.1); rintro e w38 ⟨rfl, hb⟩; refine ⟨_, rfl, ?_⟩; have n0_ := aM (Kd.R_below (mR_ HO410.out) hb); have n1_ := aM (below_step zb hb); clear HO410 HB; have HO410 := n0_; have HB := n1_; clear n0_ n1_; (try clear hb); (try clear hb2); (try clear hk); (try clear hi)) | ((with_reducible refine gate_callee (f := 13) rfl ?_); refine goesL_ (some 27) rfl rfl Try.func13 (by kernel_rfl) rfl #[.slice Ao37 t408.length co37] rfl zm ?_; (with_reducible refine (spec_EdgeCount.calls k _ _ t408 t413 t414 _ ?side1 ?side2 A6.out).mono ?_); (case side1 => exact zc HO410.out); (case side2 => exact (Kd.R_reads' HO410.out).2.1); rintro e w39 ⟨rfl, hb⟩; refine ⟨_, rfl, ?_⟩; have n0_ := aM (Kd.R_below (mR_ HO410.out) hb); have n1_ := aM (below_step zb hb); clear HO410 HB; have HO410 := n0_; have HB := n1_; clear n0_ n1_; (try clear hb); (try clear hb2); (try clear hk); (try clear hi)) | ((with_reducible refine gate_callee (f := 14) rfl ?_); refine goesL_ (some 32) rfl rfl Try.func14 (by kernel_rfl) rfl #[.slice Ao37 t408.length co37] rfl zm ?_; (with_reducible refine (impl_TouchCount.calls k _ _ t408 t415 t416 _ ?side1 ?side2 A7.out).mono ?_); (case side1 => exact zc HO410.out); (case side2 => exact (Kd.R_reads' HO410.out).2.1); rintro e w40 ⟨rfl, hb⟩; refine ⟨_, rfl, ?_⟩; have n0_ := aM (Kd.R_below (mR_ HO410.out) hb); have n1_ := aM (below_step zb hb); clear HO410 HB; have HO410 := n0_; have HB := n1_; clear n0_ n1_; (try clear hb); (try clear hb2); (try clear hk); (try clear hi)) | ((with_reducible refine gate_callee (f := 15) rfl ?_); refine goesL_ (some 37) rfl rfl Try.func15 (by kernel_rfl) rfl #[.slice Ao37 t408.length co37] rfl zm ?_; (with_reducible refine (spec_TouchCount.calls k _ _ t408 t417 t418 _ ?side1 ?side2 A8.out).mono ?_); (case side1 => exact zc HO410.out); (case side2 => exact (Kd.R_reads' HO410.out).2.1); rintro e w41 ⟨rfl, hb⟩; refine ⟨_, rfl, ?_⟩; have n0_ := aM (Kd.R_below (mR_ HO410.out) hb); have n1_ := aM (below_step zb hb); clear HO410 HB; have HO410 := n0_; have HB := n1_; clear n0_ n1_; (try clear hb); (try clear hb2); (try clear hk); (try clear hi)) | ((with_reducible refine gate_callee (f := 8) rfl ?_); refine goesL_ (some 42) rfl rfl Try.func8 (by kernel_rfl) rfl #[.slice Ao37 t408.length co37] rfl zm ?_; (with_reducible refine (impl_CornerCount.calls k _ _ t408 t419 t420 _ ?side1 ?side2 A9.out).mono ?_); (case side1 => exact zc HO410.out); (case side2 => exact (Kd.R_reads' HO410.out).2.1); rintro e w42 ⟨rfl, hb⟩; refine ⟨_, rfl, ?_⟩; have n0_ := aM (Kd.R_below (mR_ HO410.out) hb); have n1_ := aM (below_step zb hb); clear HO410 HB; have HO410 := n0_; have HB := n1_; clear n0_ n1_; (try clear hb); (try clear hb2); (try clear hk); (try clear hi)) | ((with_reducible refine gate_callee (f := 6) rfl ?_); refine goesL_ (some 47) rfl rfl Try.func6 (by kernel_rfl) rfl #[.slice Ao37 t408.length co37] rfl zm ?_; (with_reducible refine (spec_CornerCount.calls k _ _ t408 t421 t422 _ ?side1 ?side2 A10.out).mono ?_); (case side1 => exact zc HO410.out); (case side2 => exact (Kd.R_reads' HO410.out).2.1); rintro e w43 ⟨rfl, hb⟩; refine ⟨_, rfl, ?_⟩; have n0_ := aM (Kd.R_below (mR_ HO410.out) hb); have n1_ := aM (below_step zb hb); clear HO410 HB; have HO410 := n0_; have HB := n1_; clear n0_ n1_; (try clear hb); (try clear hb2); (try clear hk); (try clear hi)))
  go_ret
  exact ⟨zw, zb⟩
 rw [if_pos c18] at H
 have c18b0 : ((wrap64 (t411 + (wrap64 (2 * t415)))) == (wrap64 (4 * (t408.length : Int)))) = true := beq_iff_eq.mpr c18
 have c18b1 : ((wrap64 (t411 + (wrap64 (2 * t415)))) != (wrap64 (4 * (t408.length : Int)))) = false := bne_eq_false_iff_eq.mpr c18
 clear c18
 by_cases c19 : (Int.tmod t419 2) = 0
 rotate_left
 ·rw [if_neg c19] at H
  have c19b0 : ((Int.tmod t419 2) == 0) = false := beq_eq_false_iff_ne.mpr c19
  have c19b1 : ((Int.tmod t419 2) != 0) = true := bne_iff_ne.mpr c19
  obtain rfl := Option.some.inj H
  go_enter Try.func4, Try.ntmps4
  go_wp2_with (first | ((with_reducible refine gate_callee (f := 10) rfl ?_); refine goesL_ (some 17) rfl rfl Try.func10 (by kernel_rfl) rfl #[.slice A0 l0.length c0] rfl zm ?_; (with_reducible refine (laws_big.calls _ _ l0 false _ ?side1 ?side2 A2.out).mono ?_); (case side1 => repeat (first | exact HR0.out | (with_reducible refine Kd.C_alloc ?_ _) | (with_reducible refine Kd.C_drewN ?_ _) | (with_reducible refine Kd.C_drew ?_))); (case side2 => exact HC0.out); rintro e w' ⟨rfl, ⟨nd, rfl⟩⟩; refine ⟨_, rfl, ?_⟩) | ((with_reducible refine gate_callee (f := 11) rfl ?_); refine goesL_ (some 19) rfl rfl Try.func11 (by kernel_rfl) rfl #[.slice A0 l0.length c0] rfl zm ?_; (with_reducible refine (spec_DrawEdgeCount.calls k _ _ l0 t408 _ ?side1 ?side2 A4.out).mono ?_); (case side1 => repeat (first | exact HR0.out | (with_reducible refine Kd.C_alloc ?_ _) | (with_reducible refine Kd.C_drewN ?_ _) | (with_reducible refine Kd.C_drew ?_))); (case side2 => exact HC0.out); rintro e w28 ⟨v409, rfl, ho0, hb⟩; refine ⟨_, rfl, ?_⟩; have n0_ := aM (Kd.R_lower ho0 (below_size zb)); have n1_ := aM (below_step zb hb); clear HB; have HO410 := n0_; have HB := n1_; clear n0_ n1_; (try clear hb); (try clear hb2); (try clear hk); (try clear hi); (try clear ho0); obtain ⟨Ao29, co29, eo29⟩ := Kd.R_slice HO410.out; subst eo29) | ((with_reducible refine gate_callee (f := 12) rfl ?_); refine goesL_ (some 22) rfl rfl Try.func12 (by kernel_rfl) rfl #[.slice Ao29 t408.length co29] rfl zm ?_; (with_reducible refine (impl_EdgeCount.calls k _ _ t408 t411 t412 _ ?side1 ?side2 A5.out).mono ?_); (case side1 => exact zc HO410.out); (case side2 => exact (Kd.R_reads' HO410.out).2.1); rintro e w30 ⟨rfl, hb⟩; refine ⟨_, rfl, ?_⟩; have n0_ := aM (Kd.R_below (mR_ HO410.out) hb); have n1_ := aM (below_step zb hb); clear HO410 HB; have HO410 := n0_; have HB := n1_; clear n0_ n1_; (try clear hb); (try clear hb2); (try clear hk); (try clear hi)) | ((with_reducible refine gate_callee (f := 13) rfl ?_); refine goesL_ (some 27) rfl rfl Try.func13 (by kernel_rfl) rfl #[.slice Ao29 t408.length co29] rfl zm ?_; (with_reducible refine (spec_EdgeCount.calls k _ _ t408 t413 t414 _ ?side1 ?side2 A6.out).mono ?_); (case side1 => exact zc HO410.out); (case side2 => exact (Kd.R_reads' HO410.out).2.1); rintro e w31 ⟨rfl, hb⟩; refine ⟨_, rfl, ?_⟩; have n0_ := aM (Kd.R_below (mR_ HO410.out) hb); have n1_ := aM (below_step zb hb); clear HO410 HB; have HO410 := n0_; have HB := n1_; clear n0_ n1_; (try clear hb); (try clear hb2); (try clear hk); (try clear hi)) | ((with_reducible refine gate_callee (f := 14) rfl ?_); refine goesL_ (some 32) rfl rfl Try.func14 (by kernel_rfl) rfl #[.slice Ao29 t408.length co29] rfl zm ?_; (with_reducible refine (impl_TouchCount.calls k _ _ t408 t415 t416 _ ?side1 ?side2 A7.out).mono ?_); (case side1 => exact zc HO410.out); (case side2 => exact (Kd.R_reads' HO410.out).2.1); rintro e w32 ⟨rfl, hb⟩; refine ⟨_, rfl, ?_⟩; have n0_ := aM (Kd.R_below (mR_ HO410.out) hb); have n1_ := aM (below_step zb hb); clear HO410 HB; have HO410 := n0_; have HB := n1_; clear n0_ n1_; (try clear hb); (try clear hb2); (try clear hk); (try clear hi)) | ((with_reducible refine gate_callee (f := 15) rfl ?_); refine goesL_ (some 37) rfl rfl Try.func15 (by kernel_rfl) rfl #[.slice Ao29 t408.length co29] rfl zm ?_; (with_reducible refine (spec_TouchCount.calls k _ _ t408 t417 t418 _ ?side1 ?side2 A8.out).mono ?_); (case side1 => exact zc HO410.out); (case side2 => exact (Kd.R_reads' HO410.out).2.1); rintro e w33 ⟨rfl, hb⟩; refine ⟨_, rfl, ?_⟩; have n0_ := aM (Kd.R_below (mR_ HO410.out) hb); have n1_ := aM (below_step zb hb); clear HO410 HB; have HO410 := n0_; have HB := n1_; clear n0_ n1_; (try clear hb); (try clear hb2); (try clear hk); (try clear hi)) | ((with_reducible refine gate_callee (f := 8) rfl ?_); refine goesL_ (some 42) rfl rfl Try.func8 (by kernel_rfl) rfl #[.slice Ao29 t408.length co29] rfl zm ?_; (with_reducible refine (impl_CornerCount.calls k _ _ t408 t419 t420 _ ?side1 ?side2 A9.out).mono ?_); (case side1 => exact zc HO410.out); (case side2 => exact (Kd.R_reads' HO410.out).2.1); rintro e w34 ⟨rfl, hb⟩; refine ⟨_, rfl, ?_⟩; have n0_ := aM (Kd.R_below (mR_ HO410.out) hb); have n1_ := aM (below_step zb hb); clear HO410 HB; have HO410 := n0_; have HB := n1_; clear n0_ n1_; (try clear hb); (try clear hb2); (try clear hk); (try clear hi)) | ((with_reducible refine gate_callee (f := 6) rfl ?_); refine goesL_ (some 47) rfl rfl Try.func6 (by kernel_rfl) rfl #[.slice Ao29 t408.length co29] rfl zm ?_; (with_reducible refine (spec_CornerCount.calls k _ _ t408 t421 t422 _ ?side1 ?side2 A10.out).mono ?_); (case side1 => exact zc HO410.out); (case side2 => exact (Kd.R_reads' HO410.out).2.1); rintro e w35 ⟨rfl, hb⟩; refine ⟨_, rfl, ?_⟩; have n0_ := aM (Kd.R_below (mR_ HO410.out) hb); have n1_ := aM (below_step zb hb); clear HO410 HB; have HO410 := n0_; have HB := n1_; clear n0_ n1_; (try clear hb); (try clear hb2); (try clear hk); (try clear hi)))
  go_ret
  exact ⟨zw, zb⟩
 rw [if_pos c19] at H
 have c19b0 : ((Int.tmod t419 2) == 0) = true := beq_iff_eq.mpr c19
 have c19b1 : ((Int.tmod t419 2) != 0) = false := bne_eq_false_iff_eq.mpr c19
 clear c19
 obtain rfl := Option.some.inj H
 go_enter Try.func4, Try.ntmps4
 go_wp2_with (first | ((with_reducible refine gate_callee (f := 10) rfl ?_); refine goesL_ (some 17) rfl rfl Try.func10 (by kernel_rfl) rfl #[.slice A0 l0.length c0] rfl zm ?_; (with_reducible refine (laws_big.calls _ _ l0 false _ ?side1 ?side2 A2.out).mono ?_); (case side1 => repeat (first | exact HR0.out | (with_reducible refine Kd.C_alloc ?_ _) | (with_reducible refine Kd.C_drewN ?_ _) | (with_reducible refine Kd.C_drew ?_))); (case side2 => exact HC0.out); rintro e w' ⟨rfl, ⟨nd, rfl⟩⟩; refine ⟨_, rfl, ?_⟩) | ((with_reducible refine gate_callee (f := 11) rfl ?_); refine goesL_ (some 19) rfl rfl Try.func11 (by kernel_rfl) rfl #[.slice A0 l0.length c0] rfl zm ?_; (with_reducible refine (spec_DrawEdgeCount.calls k _ _ l0 t408 _ ?side1 ?side2 A4.out).mono ?_); (case side1 => repeat (first | exact HR0.out | (with_reducible refine Kd.C_alloc ?_ _) | (with_reducible refine Kd.C_drewN ?_ _) | (with_reducible refine Kd.C_drew ?_))); (case side2 => exact HC0.out); rintro e w20 ⟨v409, rfl, ho0, hb⟩; refine ⟨_, rfl, ?_⟩; have n0_ := aM (Kd.R_lower ho0 (below_size zb)); have n1_ := aM (below_step zb hb); clear HB; have HO410 := n0_; have HB := n1_; clear n0_ n1_; (try clear hb); (try clear hb2); (try clear hk); (try clear hi); (try clear ho0); obtain ⟨Ao21, co21, eo21⟩ := Kd.R_slice HO410.out; subst eo21) | ((with_reducible refine gate_callee (f := 12) rfl ?_); refine goesL_ (some 22) rfl rfl Try.func12 (by kernel_rfl) rfl #[.slice Ao21 t408.length co21] rfl zm ?_; (with_reducible refine (impl_EdgeCount.calls k _ _ t408 t411 t412 _ ?side1 ?side2 A5.out).mono ?_); (case side1 => exact zc HO410.out); (case side2 => exact (Kd.R_reads' HO410.out).2.1); rintro e w22 ⟨rfl, hb⟩; refine ⟨_, rfl, ?_⟩; have n0_ := aM (Kd.R_below (mR_ HO410.out) hb); have n1_ := aM (below_step zb hb); clear HO410 HB; have HO410 := n0_; have HB := n1_; clear n0_ n1_; (try clear hb); (try clear hb2); (try clear hk); (try clear hi)) | ((with_reducible refine gate_callee (f := 13) rfl ?_); refine goesL_ (some 27) rfl rfl Try.func13 (by kernel_rfl) rfl #[.slice Ao21 t408.length co21] rfl zm ?_; (with_reducible refine (spec_EdgeCount.calls k _ _ t408 t413 t414 _ ?side1 ?side2 A6.out).mono ?_); (case side1 => exact zc HO410.out); (case side2 => exact (Kd.R_reads' HO410.out).2.1); rintro e w23 ⟨rfl, hb⟩; refine ⟨_, rfl, ?_⟩; have n0_ := aM (Kd.R_below (mR_ HO410.out) hb); have n1_ := aM (below_step zb hb); clear HO410 HB; have HO410 := n0_; have HB := n1_; clear n0_ n1_; (try clear hb); (try clear hb2); (try clear hk); (try clear hi)) | ((with_reducible refine gate_callee (f := 14) rfl ?_); refine goesL_ (some 32) rfl rfl Try.func14 (by kernel_rfl) rfl #[.slice Ao21 t408.length co21] rfl zm ?_; (with_reducible refine (impl_TouchCount.calls k _ _ t408 t415 t416 _ ?side1 ?side2 A7.out).mono ?_); (case side1 => exact zc HO410.out); (case side2 => exact (Kd.R_reads' HO410.out).2.1); rintro e w24 ⟨rfl, hb⟩; refine ⟨_, rfl, ?_⟩; have n0_ := aM (Kd.R_below (mR_ HO410.out) hb); have n1_ := aM (below_step zb hb); clear HO410 HB; have HO410 := n0_; have HB := n1_; clear n0_ n1_; (try clear hb); (try clear hb2); (try clear hk); (try clear hi)) | ((with_reducible refine gate_callee (f := 15) rfl ?_); refine goesL_ (some 37) rfl rfl Try.func15 (by kernel_rfl) rfl #[.slice Ao21 t408.length co21] rfl zm ?_; (with_reducible refine (spec_TouchCount.calls k _ _ t408 t417 t418 _ ?side1 ?side2 A8.out).mono ?_); (case side1 => exact zc HO410.out); (case side2 => exact (Kd.R_reads' HO410.out).2.1); rintro e w25 ⟨rfl, hb⟩; refine ⟨_, rfl, ?_⟩; have n0_ := aM (Kd.R_below (mR_ HO410.out) hb); have n1_ := aM (below_step zb hb); clear HO410 HB; have HO410 := n0_; have HB := n1_; clear n0_ n1_; (try clear hb); (try clear hb2); (try clear hk); (try clear hi)) | ((with_reducible refine gate_callee (f := 8) rfl ?_); refine goesL_ (some 42) rfl rfl Try.func8 (by kernel_rfl) rfl #[.slice Ao21 t408.length co21] rfl zm ?_; (with_reducible refine (impl_CornerCount.calls k _ _ t408 t419 t420 _ ?side1 ?side2 A9.out).mono ?_); (case side1 => exact zc HO410.out); (case side2 => exact (Kd.R_reads' HO410.out).2.1); rintro e w26 ⟨rfl, hb⟩; refine ⟨_, rfl, ?_⟩; have n0_ := aM (Kd.R_below (mR_ HO410.out) hb); have n1_ := aM (below_step zb hb); clear HO410 HB; have HO410 := n0_; have HB := n1_; clear n0_ n1_; (try clear hb); (try clear hb2); (try clear hk); (try clear hi)) | ((with_reducible refine gate_callee (f := 6) rfl ?_); refine goesL_ (some 47) rfl rfl Try.func6 (by kernel_rfl) rfl #[.slice Ao21 t408.length co21] rfl zm ?_; (with_reducible refine (spec_CornerCount.calls k _ _ t408 t421 t422 _ ?side1 ?side2 A10.out).mono ?_); (case side1 => exact zc HO410.out); (case side2 => exact (Kd.R_reads' HO410.out).2.1); rintro e w27 ⟨rfl, hb⟩; refine ⟨_, rfl, ?_⟩; have n0_ := aM (Kd.R_below (mR_ HO410.out) hb); have n1_ := aM (below_step zb hb); clear HO410 HB; have HO410 := n0_; have HB := n1_; clear n0_ n1_; (try clear hb); (try clear hb2); (try clear hk); (try clear hi)))
 go_ret
 exact ⟨zw, zb⟩
end Go.Proofs.Ytpoiiaephcddoaa.F
end
section
namespace Go.Proofs.Ytpoiiaephcddoaa.Open
open Go.ChangeShapes Go.WideShapes Go.Deep Go.RowKit Go.Proofs.YtpoiiaephcddoaaW.PrintWords
def Opens {α : Type} (P : Program) (d : Kd α) (t : TypeId) (V : α → Prop) : Prop :=
  ∀ (H : Type) (enc : TypeId × Value → H) (w : World) (base : Nat) (spare : Nat → Bool) (held : Bool) (fuel : Nat) (cs : List Value) (x : DataW H × List MemPlace),
    DataW.trod enc P w base spare held fuel t cs = some x → ∃ a : α, d.K w a cs ∧ V a
theorem Opens.int {P : Program} {t : TypeId} {k : IntKind} (ht : P.underlying t = some (.int k)) : Opens P (Kd.int k) t (fun a => (Lit.int k a).wf = true) := by
  intro H enc w base spare held fuel cs x h
  obtain ⟨n, hcs, _, hw⟩ := DataW.trod_int ht h
  exact ⟨n, hcs, hw⟩
theorem Opens.bool {P : Program} {t : TypeId} (ht : P.underlying t = some .bool) : Opens P Kd.bool t (fun _ => True) := by
  intro H enc w base spare held fuel cs x h
  obtain ⟨b, hcs, _⟩ := DataW.trod_bool ht h
  exact ⟨b, hcs, trivial⟩
theorem Opens.slice {α : Type} [Inhabited α] {P : Program} {t e : TypeId} {d : Kd α} {V : α → Prop} (ht : P.underlying t = some (.slice e)) (hsz : P.cellsOf e = d.sz) (ho : Opens P d e V) :
    Opens P (Kd.slice e d) t (fun l => l.length ≤ 9223372036854775807 ∧ ∀ a ∈ l, V a) := by
  intro H enc w base spare held fuel cs x h
  rcases open_slice ht h with ⟨rfl, _⟩ | ⟨a, len, cap, m, n, D, Pl, rfl, hb, hl, hm, hmm, _, hi⟩
  · exact ⟨[], ⟨none, 0, rfl, Nat.le_refl _, rfl, by simp, fun hp => absurd hp (by simp)⟩, by simp, by simp⟩
  · have hlm : len ≤ m := by rw [hmm]; split <;> omega
    have hx : ∀ i, i < len → ∃ y : α, V y ∧ ∃ c : List Value, c.length = d.sz ∧ d.K w y c ∧ ∀ j u, c[j]? = some u → w.cell? (a.add (i * d.sz + j)) = some u := by
      intro i hil
      obtain ⟨cs', hc, ht'⟩ := hi i (by omega)
      obtain ⟨y, hk, hv⟩ := ho H enc w base spare held n cs' _ ht'
      obtain ⟨_, hcl, hat⟩ := World.cells?_some hc
      refine ⟨y, hv, cs', d.K_len hk, hk, fun j u hj => ?_⟩
      have hjl : j < cs'.length := (List.getElem?_eq_some_iff.1 hj).1
      have := hat j (by rw [hsz, ← d.K_len hk]; exact hjl)
      rw [Go.Deep.add_add, hsz] at this
      rw [this, hj]
    obtain ⟨f, hf⟩ := choose_lt hx
    have hlen : ((List.range len).map f).length = len := by simp
    refine ⟨(List.range len).map f, ⟨some a, cap, by rw [hlen], by rw [hlen]; exact hl, rfl, ?_, fun _ => ⟨a, rfl, fun j p hj => ?_⟩⟩, ?_⟩
    · rw [hlen]; unfold maxLen at hm; omega
    · have hjl : j < len := by
        have := (List.getElem?_eq_some_iff.1 hj).1
        rwa [hlen] at this
      have hp : f j = p := by
        rw [List.getElem?_map, List.getElem?_range hjl] at hj
        simpa using hj
      obtain ⟨_, c, h1, h2, h3⟩ := hf j hjl
      rw [hp] at h2
      exact ⟨c, h1, h2, h3⟩
    · refine ⟨by rw [hlen]; unfold maxLen at hm; omega, fun y hy => ?_⟩
      obtain ⟨i, hi', rfl⟩ := List.mem_map.1 hy
      exact (hf i (List.mem_range.1 hi')).1
theorem arg_open {α : Type} {P : Program} {t : TypeId} {d : Kd α} {V : α → Prop} (ho : Opens P d t V) {H : Type} {enc : TypeId × Value → H} {w : World} {base : Nat} {spare : Nat → Bool} {held : Bool} {v : Value} {x : DataW H} {p : List MemPlace}
    (h : DataW.Trod enc P w base spare held t v x p) : ∃ a : α, d.K w a v.cells.toList ∧ V a := by
  obtain ⟨fuel, hf⟩ := h
  exact ho _ _ _ _ _ _ _ _ _ hf
theorem slice_arg {α : Type} {d : Kd α} {e : Nat} {w : World} {l : List α} {a : Option Addr} {len cap : Nat} (h : (Kd.slice e d).K w l (Value.slice a len cap).cells.toList) : l.length = len ∧ l.length ≤ cap ∧ d.C w a l.length l := by
  obtain ⟨A, c, hcs, hl, hr⟩ := h
  simp [Value.cells] at hcs
  obtain ⟨rfl, rfl, rfl⟩ := hcs
  exact ⟨rfl, hl, hr⟩
end Go.Proofs.Ytpoiiaephcddoaa.Open
end
section
namespace Go.Proofs.Ytpoiiaephcddoaa.L
open Go.RowKit Go.Proofs.YtpoiiaephcddoaaW.PrintWords
theorem Ev.pos {α : Type} {c : Prop} [Decidable c] {f g : Nat → Option α} {r : α} (h : c) (e : Ev f r) : Ev (fun k => if c then f k else g k) r := by
  obtain ⟨K, e⟩ := e
  exact ⟨K, fun k hk => (if_pos h).trans (e k hk)⟩
theorem Ev.neg {α : Type} {c : Prop} [Decidable c] {f g : Nat → Option α} {r : α} (h : ¬ c) (e : Ev g r) : Ev (fun k => if c then f k else g k) r := by
  obtain ⟨K, e⟩ := e
  exact ⟨K, fun k hk => (if_neg h).trans (e k hk)⟩
theorem Ev.if_ {α : Type} {c : Prop} [Decidable c] {f g : Nat → Option α} {r s : α} (h : c → Ev f r) (h' : ¬ c → Ev g s) : Ev (fun k => if c then f k else g k) (if c then r else s) := by
  by_cases hc : c
  · rw [if_pos hc]; exact Ev.pos hc (h hc)
  · rw [if_neg hc]; exact Ev.neg hc (h' hc)
theorem Ev.of_eq {α : Type} {g : Nat → Option α} {r s : α} (h : Ev g r) (e : r = s) : Ev g s := e ▸ h
theorem Ev.bind0 {α β : Type} {o : Option α} {f : Nat → α → Option β} {a : α} {r : β} (h : o = some a) (k : Ev (fun n => f n a) r) : Ev (fun n => o.bind (f n)) r := by
  subst h
  exact k
theorem Ev.const {α : Type} {o : Option α} {r : α} (h : o = some r) : Ev (fun _ => o) r := ⟨0, fun _ _ => h⟩
theorem Ev.succ {α : Type} {g : Nat → Option α} {r : α} (h : Ev (fun k => g (k + 1)) r) : Ev g r := by
  obtain ⟨K, h⟩ := h
  refine ⟨K + 1, fun n hn => ?_⟩
  obtain ⟨m, rfl⟩ : ∃ m, n = m + 1 := ⟨n - 1, by omega⟩
  exact h m (by omega)
theorem w64 {n : Int} (h : -9223372036854775808 ≤ n) (h' : n ≤ 9223372036854775807) : wrap64 n = n := by
  unfold wrap64
  omega
theorem getD_at {α : Type} (pre suf : List α) (c d : α) : (pre ++ c :: suf).getD (pre.length : Int).toNat d = c := by
  simp [List.getD]
end Go.Proofs.Ytpoiiaephcddoaa.L
namespace Go.Proofs.Ytpoiiaephcddoaa.L
open Go.RowKit Go.Proofs.YtpoiiaephcddoaaW.PrintWords
theorem loop_list {α σ ρ : Type} (xs : List α) (l : Nat → Int → σ → Option ρ) (g : List α → List α → σ → ρ) (Inv : List α → σ → Prop)
    (hn : ∀ s, Inv xs s → Ev (fun k => l (k + 1) (xs.length : Int) s) (g xs [] s))
    (hs : ∀ (pre : List α) (c : α) (suf : List α) (s : σ), xs = pre ++ c :: suf → Inv pre s → (∀ s', Inv (pre ++ [c]) s' → Ev (fun k => l k ((pre.length : Int) + 1) s') (g (pre ++ [c]) suf s')) → Ev (fun k => l (k + 1) (pre.length : Int) s) (g pre (c :: suf) s)) :
    ∀ s, Inv [] s → Ev (fun k => l k 0 s) (g [] xs s) := by
  have key : ∀ (suf pre : List α), xs = pre ++ suf → ∀ s, Inv pre s → Ev (fun k => l k (pre.length : Int) s) (g pre suf s) := by
    intro suf
    induction suf with
    | nil =>
      intro pre hx s hi
      rw [List.append_nil] at hx
      subst hx
      exact Ev.succ (hn s hi)
    | cons c suf ih =>
      intro pre hx s hi
      refine Ev.succ (hs pre c suf s hx hi fun s' hi' => ?_)
      have := ih (pre ++ [c]) (by rw [hx]; simp) s' hi'
      rw [List.length_append] at this
      exact this
  intro s hi
  exact key xs [] rfl s hi
end Go.Proofs.Ytpoiiaephcddoaa.L
end
section
namespace Go.Proofs.Ytpoiiaephcddoaa.L
open Go.RowKit Go.Proofs.YtpoiiaephcddoaaW.PrintWords Go.Proofs.YtpoiiaephcddoaaW.PrintLast Go.Proofs.YtpoiiaephcddoaaW.PrintMore Go.Proofs.Ytpoiiaephcddoaa.F
set_option linter.unusedVariables false
set_option linter.unusedSimpArgs false
abbrev Cell := S35
theorem in_eq (a b c : Int) : spec_l01In.f a b c = some (decide (b ≤ a ∧ a ≤ c)) := by
  unfold spec_l01In.f
  by_cases h : a ≥ b
  · rw [if_pos h]; simp [show b ≤ a from h]
  · rw [if_neg h]; simp [show ¬ b ≤ a from h]
theorem within_eq (a b c : Int) : impl_within.f a b c = some (decide (b ≤ a ∧ a ≤ c)) := by
  unfold impl_within.f
  by_cases h : a ≥ b
  · rw [if_pos h]; simp [show b ≤ a from h]
  · rw [if_neg h]; simp [show ¬ b ≤ a from h]
def ok1 (n : Int) : Prop := -100 ≤ n ∧ n ≤ 100
instance (n : Int) : Decidable (ok1 n) := by unfold ok1; infer_instance
def okC (c : Cell) : Prop := ok1 c.f0 ∧ ok1 c.f1
instance (c : Cell) : Decidable (okC c) := by unfold okC; infer_instance
def ltC (a b : Cell) : Prop := a.f1 < b.f1 ∨ a.f1 = b.f1 ∧ a.f0 < b.f0
instance (a b : Cell) : Decidable (ltC a b) := by unfold ltC; infer_instance
theorem isCoordinate_eq (n : Int) : impl_isCoordinate.f n = some (decide (ok1 n)) := by
  unfold impl_isCoordinate.f
  rw [within_eq]
  rfl
end Go.Proofs.Ytpoiiaephcddoaa.L
end
