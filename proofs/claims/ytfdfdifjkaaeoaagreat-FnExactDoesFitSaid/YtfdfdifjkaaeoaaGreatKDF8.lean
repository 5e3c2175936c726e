/- The row of FnExactDoesFit, with what it needs: text 9 of 12. -/
import Derived.Test.YtfdfdifjkaaeoaaGreatKDF7
set_option maxHeartbeats 8000000
set_option maxRecDepth 100000
section
namespace Go.Proofs.YtfdfdifjkaaeoaaGreat.F
open Go.RowKit Go.Proofs.YtfdfdifjkaaeoaaGreatW.PrintWords Go.Proofs.YtfdfdifjkaaeoaaGreatW.PrintLast Go.Proofs.YtfdfdifjkaaeoaaGreatW.PrintMore
attribute [local go_sem] max2_int min2_int max_two min_two max_three min_three max_four min_four
set_option linter.unusedVariables false
set_option linter.unusedSimpArgs false
theorem impl_IsPuzzle.calls (k : Nat) (A0_0 : Option Addr) (c0_0 : Nat) (l0_0 : List (S58)) (A0_1 : Option Addr) (c0_1 : Nat) (l0_1 : List (S43)) (r : Bool) (w : World) (hr0_0 : Kd.C k58 w A0_0 l0_0.length l0_0) (hc0_0 : l0_0.length ≤ c0_0) (hr0_1 : Kd.C k43 w A0_1 l0_1.length l0_1) (hc0_1 : l0_1.length ≤ c0_1) (h : impl_IsPuzzle.f k l0_0 l0_1 = some r) :
  Calls Tryz.prog 9 #[.agg #[.slice A0_0 l0_0.length c0_0, .slice A0_1 l0_1.length c0_1]] w fun e w' => e = .returned (.bool r) ∧ Below w.heap.size w w' := by
 have hu31 := Tryz.underlying31
 have hu43 := Tryz.underlying43
 have HR0_0 := aM hr0_0
 have HC0_0 := aM hc0_0
 clear hr0_0 hc0_0
 have HR0_1 := aM hr0_1
 have HC0_1 := aM hc0_1
 clear hr0_1 hc0_1
 have HB := aM (Below.refl w.heap.size w)
 have H : ((impl_IsRegion.f k l0_0).bind fun t470 => (if t470 = true then (if (l0_1.length : Int) < 1 then (impl_IsPuzzle.j0 k true l0_0 l0_1) else (impl_IsPuzzle.j0 k (decide ((l0_1.length : Int) > 12)) l0_0 l0_1)) else (impl_IsPuzzle.j0 k true l0_0 l0_1))) = some r := h
 clear h
 have HC2 := aM H
 clear H
 go_enter Tryz.func9, Tryz.ntmps9
 go_upto_region 1 with (first | ((with_reducible refine gate_dst (N := 1) rfl ?_); (try (refine gate_guard (by rfl) ?_; dsimp only)); refine zx 1 #[.slice A0_0 l0_0.length c0_0, .slice A0_1 l0_1.length c0_1] 31 ?_; intro gb469 hg w3 hbox hb; have n0_ := aM (below_step zb hb); have n1_ := aM (hbox); have n2_ := aM ((ze : w.heap.size ≤ gb469)); have n3_ := aM ((ze : w.heap.size ≤ gb469)); clear HB; have HB := n0_; have BK469 := n1_; have GW469 := n2_; have GE469 := n3_; clear n0_ n1_ n2_ n3_; clear hb hbox hg))
 (try simp only [Act.put, xA, xB, xC])
 go_cut [22] (fun v22 wc => ∃ (kq : Nat) (x22_1 : Bool), v22 = .bool x22_1 ∧ Aside0 (impl_IsPuzzle.j0 kq x22_1 l0_0 l0_1 = some r) ∧ Aside0 (kq ≤ k) ∧ Aside0 (wc.heap[gb469]? = some (.cells #[(.slice A0_0 l0_0.length c0_0), (.slice A0_1 l0_1.length c0_1)] 31 (0, 0))) ∧ Aside0 (Below w.heap.size w wc))
 case first =>
  have H := HC2.out
  clear HC2
  replace H := Option.bind_eq_some_iff.mp H
  obtain ⟨t470, A40, H⟩ := H
  replace H : (if t470 = true then (if (l0_1.length : Int) < 1 then (impl_IsPuzzle.j0 k true l0_0 l0_1) else (impl_IsPuzzle.j0 k (decide ((l0_1.length : Int) > 12)) l0_0 l0_1)) else (impl_IsPuzzle.j0 k true l0_0 l0_1)) = some r := H
  have A4 := aM A40
  clear A40
  by_cases c5 : t470 = true
  rotate_left
  ·replace c5 := Bool.eq_false_iff.mpr c5
   subst c5
   have H1 : (impl_IsPuzzle.j0 k true l0_0 l0_1) = some r := by rw [if_neg (show ¬ (false = true) by decide)] at H; exact H
   clear H
   have H := H1
   clear H1
   have H' := aM H
   clear H
   have hcz13_0 : w3.cell? ⟨gb469, 0, none⟩ = some (.slice A0_0 l0_0.length c0_0) := (blk_cell BK469.out 0).trans rfl
   have hcz13_1 : w3.cell? ⟨gb469, 1, none⟩ = some (.slice A0_1 l0_1.length c0_1) := (blk_cell BK469.out 1).trans rfl
   have hfz13_0 := blk_frozen BK469.out 0
   have hfz13_1 := blk_frozen BK469.out 1
   go_wp2_with (first | ((with_reducible refine gate_callee (f := 23) rfl ?_); refine goesL_ (some 9) rfl rfl Tryz.func23 (by kernel_rfl) rfl #[.slice A0_0 l0_0.length c0_0] rfl zm ?_; (with_reducible refine (impl_IsRegion.calls k _ _ l0_0 false _ ?side1 ?side2 A4.out).mono ?_); (case side1 => repeat (first | exact (Kd.C_below HR0_0.out HB.out) | (with_reducible refine Kd.C_alloc ?_ _) | (with_reducible refine Kd.C_drewN ?_ _) | (with_reducible refine Kd.C_drew ?_))); (case side2 => exact HC0_0.out); rintro e w14 ⟨rfl, hb⟩; refine ⟨_, rfl, ?_⟩; have n0_ := aM (blk_below (g := gb469) (o := .cells #[.slice A0_0 l0_0.length c0_0, .slice A0_1 l0_1.length c0_1] 31 (0, 0)) (mB_ BK469.out) hb); have n1_ := aM (below_step (zs GE469.out) hb); clear BK469 HB; have BK469 := n0_; have HB := n1_; clear n0_ n1_; (try clear hb); (try clear hb2); (try clear hk); (try clear hi)))
   go_meet
   case rel => exact ⟨_, (true), zr, H', ⟨by first | omega | exact Nat.le_refl _⟩, ⟨mB_ BK469.out⟩, ⟨zs GE469.out⟩⟩
  subst c5
  have H1 : (if (l0_1.length : Int) < 1 then (impl_IsPuzzle.j0 k true l0_0 l0_1) else (impl_IsPuzzle.j0 k (decide ((l0_1.length : Int) > 12)) l0_0 l0_1)) = some r := by rw [if_pos rfl] at H; exact H
  clear H
  have H := H1
  clear H1
  by_cases c6 : (l0_1.length : Int) < 1
  ·rw [if_pos c6] at H
   have c6b0 : decide ((l0_1.length : Int) < 1) = true := decide_eq_true c6
   have c6b1 : decide (l0_1.length < 1) = true := decide_eq_true (by omega)
   clear c6
   (first | rw [c6b0] | (simp only [i64_w, i32_w]; rw [c6b0]) | skip)
   have H' := aM H
   clear H
   have hcz7_0 : w3.cell? ⟨gb469, 0, none⟩ = some (.slice A0_0 l0_0.length c0_0) := (blk_cell BK469.out 0).trans rfl
   have hcz7_1 : w3.cell? ⟨gb469, 1, none⟩ = some (.slice A0_1 l0_1.length c0_1) := (blk_cell BK469.out 1).trans rfl
   have hfz7_0 := blk_frozen BK469.out 0
   have hfz7_1 := blk_frozen BK469.out 1
   go_wp2_with (first | ((with_reducible refine gate_callee (f := 23) rfl ?_); refine goesL_ (some 9) rfl rfl Tryz.func23 (by kernel_rfl) rfl #[.slice A0_0 l0_0.length c0_0] rfl zm ?_; (with_reducible refine (impl_IsRegion.calls k _ _ l0_0 true _ ?side1 ?side2 A4.out).mono ?_); (case side1 => repeat (first | exact (Kd.C_below HR0_0.out HB.out) | (with_reducible refine Kd.C_alloc ?_ _) | (with_reducible refine Kd.C_drewN ?_ _) | (with_reducible refine Kd.C_drew ?_))); (case side2 => exact HC0_0.out); rintro e w8 ⟨rfl, hb⟩; refine ⟨_, rfl, ?_⟩; have n0_ := aM (blk_below (g := gb469) (o := .cells #[.slice A0_0 l0_0.length c0_0, .slice A0_1 l0_1.length c0_1] 31 (0, 0)) (mB_ BK469.out) hb); have n1_ := aM (below_step (zs GE469.out) hb); clear BK469 HB; have BK469 := n0_; have HB := n1_; clear n0_ n1_; (try clear hb); (try clear hb2); (try clear hk); (try clear hi); have hcz9_0 : w8.cell? ⟨gb469, 0, none⟩ = some (.slice A0_0 l0_0.length c0_0) := (blk_cell BK469.out 0).trans rfl; have hcz9_1 : w8.cell? ⟨gb469, 1, none⟩ = some (.slice A0_1 l0_1.length c0_1) := (blk_cell BK469.out 1).trans rfl; have hfz9_0 := blk_frozen BK469.out 0; have hfz9_1 := blk_frozen BK469.out 1))
   go_meet
   case rel => exact ⟨_, (true), zr, H', ⟨by first | omega | exact Nat.le_refl _⟩, ⟨mB_ BK469.out⟩, ⟨zs GE469.out⟩⟩
  rw [if_neg c6] at H
  have c6b0 : decide ((l0_1.length : Int) < 1) = false := decide_eq_false c6
  have c6b1 : decide (l0_1.length < 1) = false := decide_eq_false (by omega)
  clear c6
  (first | rw [c6b0] | (simp only [i64_w, i32_w]; rw [c6b0]) | skip)
  have H' := aM H
  clear H
  have hcz10_0 : w3.cell? ⟨gb469, 0, none⟩ = some (.slice A0_0 l0_0.length c0_0) := (blk_cell BK469.out 0).trans rfl
  have hcz10_1 : w3.cell? ⟨gb469, 1, none⟩ = some (.slice A0_1 l0_1.length c0_1) := (blk_cell BK469.out 1).trans rfl
  have hfz10_0 := blk_frozen BK469.out 0
  have hfz10_1 := blk_frozen BK469.out 1
  go_wp2_with (first | ((with_reducible refine gate_callee (f := 23) rfl ?_); refine goesL_ (some 9) rfl rfl Tryz.func23 (by kernel_rfl) rfl #[.slice A0_0 l0_0.length c0_0] rfl zm ?_; (with_reducible refine (impl_IsRegion.calls k _ _ l0_0 true _ ?side1 ?side2 A4.out).mono ?_); (case side1 => repeat (first | exact (Kd.C_below HR0_0.out HB.out) | (with_reducible refine Kd.C_alloc ?_ _) | (with_reducible refine Kd.C_drewN ?_ _) | (with_reducible refine Kd.C_drew ?_))); (case side2 => exact HC0_0.out); rintro e w11 ⟨rfl, hb⟩; refine ⟨_, rfl, ?_⟩; have n0_ := aM (blk_below (g := gb469) (o := .cells #[.slice A0_0 l0_0.length c0_0, .slice A0_1 l0_1.length c0_1] 31 (0, 0)) (mB_ BK469.out) hb); have n1_ := aM (below_step (zs GE469.out) hb); clear BK469 HB; have BK469 := n0_; have HB := n1_; clear n0_ n1_; (try clear hb); (try clear hb2); (try clear hk); (try clear hi); have hcz12_0 : w11.cell? ⟨gb469, 0, none⟩ = some (.slice A0_0 l0_0.length c0_0) := (blk_cell BK469.out 0).trans rfl; have hcz12_1 : w11.cell? ⟨gb469, 1, none⟩ = some (.slice A0_1 l0_1.length c0_1) := (blk_cell BK469.out 1).trans rfl; have hfz12_0 := blk_frozen BK469.out 0; have hfz12_1 := blk_frozen BK469.out 1))
  go_meet
  case rel => exact ⟨_, (decide ((l0_1.length : Int) > 12)), zr, H', ⟨by first | omega | exact Nat.le_refl _⟩, ⟨mB_ BK469.out⟩, ⟨zs GE469.out⟩⟩
 case rest =>
  clear HC2
  try clear c2
  try clear p2
  try clear c5
  try clear c6
  try clear c6b0
  try clear c6b1
  try clear c9
  try clear hcz10_0
  try clear hcz10_1
  try clear hcz12_0
  try clear hcz12_1
  try clear hcz13_0
  try clear hcz13_1
  try clear hcz7_0
  try clear hcz7_1
  try clear hcz9_0
  try clear hcz9_1
  try clear hfz10_0
  try clear hfz10_1
  try clear hfz12_0
  try clear hfz12_1
  try clear hfz13_0
  try clear hfz13_1
  try clear hfz7_0
  try clear hfz7_1
  try clear hfz9_0
  try clear hfz9_1
  obtain ⟨kq, x22_1, rfl, HA, HJ1, BK469, HB⟩ := hcut
  cases kq with
  | zero => exact absurd HA.out (by simp [impl_IsPuzzle.j0])
  | succ kj1 =>
   have H := HA.out
   clear HA
   simp only [impl_IsPuzzle.j0] at H
   by_cases c15 : x22_1 = true
   ·subst c15
    have H1 : (some false) = some r := by rw [if_pos rfl] at H; exact H
    clear H
    have H := H1
    clear H1
    obtain rfl := Option.some.inj H
    go_wp2
    go_ret
    exact ⟨zw, zs GE469.out⟩
   replace c15 := Bool.eq_false_iff.mpr c15
   subst c15
   have H1 : (impl_IsPuzzle.l0 kj1 l0_1 (l0_1.length : Int) 0 l0_0 l0_1) = some r := by rw [if_neg (show ¬ (false = true) by decide)] at H; exact H
   clear H
   have H := H1
   clear H1
   have H' := aM H
   clear H
   have hcz16_0 : wc.cell? ⟨gb469, 0, none⟩ = some (.slice A0_0 l0_0.length c0_0) := (blk_cell BK469.out 0).trans rfl
   have hcz16_1 : wc.cell? ⟨gb469, 1, none⟩ = some (.slice A0_1 l0_1.length c0_1) := (blk_cell BK469.out 1).trans rfl
   have hfz16_0 := blk_frozen BK469.out 0
   have hfz16_1 := blk_frozen BK469.out 1
   go_wp2
   go_loopg [26] kj1 (fun kq v26 w' => ∃ (x26_2 : Int), v26 = .int .i64 x26_2 ∧ Aside0 (impl_IsPuzzle.l0 kq l0_1 (l0_1.length : Int) x26_2 l0_0 l0_1 = some r) ∧ Aside0 (kq ≤ kj1) ∧ Aside0 (w'.heap[gb469]? = some (.cells #[(.slice A0_0 l0_0.length c0_0), (.slice A0_1 l0_1.length c0_1)] 31 (0, 0))) ∧ Aside0 (Below w.heap.size w w'))
   case atStart => exact ⟨(0), zr, H', ⟨Nat.le_refl _⟩, ⟨mB_ BK469.out⟩, ⟨zs GE469.out⟩⟩
   case round =>
    clear H'
    try clear c1
    try clear c2
    try clear p2
    try clear c5
    try clear c6
    try clear c6b0
    try clear c6b1
    try clear c9
    try clear c15
    try clear hcz10_0
    try clear hcz10_1
    try clear hcz12_0
    try clear hcz12_1
    try clear hcz13_0
    try clear hcz13_1
    try clear hcz16_0
    try clear hcz16_1
    try clear hcz7_0
    try clear hcz7_1
    try clear hcz9_0
    try clear hcz9_1
    try clear hfz10_0
    try clear hfz10_1
    try clear hfz12_0
    try clear hfz12_1
    try clear hfz13_0
    try clear hfz13_1
    try clear hfz16_0
    try clear hfz16_1
    try clear hfz7_0
    try clear hfz7_1
    try clear hfz9_0
    try clear hfz9_1
    try clear p2
    obtain ⟨x26_2, rfl, HA, HK2, BK469, HB⟩ := hrel
    cases gk with
    | zero => exact absurd HA.out (by simp [impl_IsPuzzle.l0])
    | succ k2 =>
     have H := HA.out
     clear HA
     simp only [impl_IsPuzzle.l0] at H
     by_cases c17 : x26_2 < (l0_1.length : Int)
     rotate_left
     ·rw [if_neg c17] at H
      have c17b0 : decide (x26_2 < (l0_1.length : Int)) = false := decide_eq_false c17
      clear c17
      obtain rfl := Option.some.inj H
      go_wp2
      go_ret
      exact ⟨zw, zs GE469.out⟩
     rw [if_pos c17] at H
     have c17b0 : decide (x26_2 < (l0_1.length : Int)) = true := decide_eq_true c17
     clear c17
     by_cases c18 : 0 ≤ x26_2
     rotate_left
     ·rw [if_neg c18] at H
      exact absurd H (by simp)
     rw [if_pos c18] at H
     have c18b0 : decide (0 ≤ x26_2) = true := decide_eq_true c18
     clear c18
     by_cases c19 : x26_2 < (l0_1.length : Int)
     rotate_left
     ·rw [if_neg c19] at H
      exact absurd H (by simp)
     rw [if_pos c19] at H
     have c19b0 : decide (x26_2 < (l0_1.length : Int)) = true := decide_eq_true c19
     clear c19
     replace H := Option.bind_eq_some_iff.mp H
     obtain ⟨t473, A200, H⟩ := H
     replace H : (if t473 = true then (if x26_2 ≤ (l0_1.length : Int) then ((some (l0_1.take (x26_2 : Int).toNat : List (S43))).bind fun y474 => (impl_IsPuzzle.l1 k2 l0_1 (l0_1.length : Int) x26_2 y474 (y474.length : Int) 0 l0_0 l0_1 ((rd_T43 l0_1 x26_2).f0) ((rd_T43 l0_1 x26_2).f1) ((rd_T43 l0_1 x26_2).f2))) else (none)) else (some false)) = some r := H
     have A20 := aM A200
     clear A200
     by_cases c21 : t473 = true
     rotate_left
     ·replace c21 := Bool.eq_false_iff.mpr c21
      subst c21
      have H1 : (some false) = some r := by rw [if_neg (show ¬ (false = true) by decide)] at H; exact H
      clear H
      have H := H1
      clear H1
      obtain rfl := Option.some.inj H
      have p471 : 0 ≤ (x26_2 : Int) := of_decide_eq_true za
      have q471 : x26_2 < (l0_1.length : Int) := of_decide_eq_true za
      obtain ⟨ad471, A471_0, c471_0, e471, hx471_0, hx471_1, hx471_2, hl471_0, hi471_0⟩ := at_T43 HR0_1.out x26_2 p471 q471
      cases e471
      replace hx471_0 := zk HB.out hx471_0
      replace hx471_1 := zk HB.out hx471_1
      replace hx471_2 := zk HB.out hx471_2
      have HR471_0 := aM hi471_0
      have HC471_0 := aM hl471_0
      clear hi471_0 hl471_0
      replace p471 := eq_true p471
      replace q471 := eq_true q471
      go_wp2_with (first | ((with_reducible refine gate_dst (N := 4) rfl ?_); (try (refine gate_guard (by rfl) ?_; dsimp only)); refine zx 4 #[.slice none 0 0, .int .i64 0, .bool false] 43 ?_; intro gb472 hg w56 hbox hb; have n0_ := aM (blk_below (g := gb469) (o := .cells #[.slice A0_0 l0_0.length c0_0, .slice (some ad471) l0_1.length c0_1] 31 (0, 0)) (mB_ BK469.out) hb); have n1_ := aM (below_step (zs GE469.out) hb); have n2_ := aM (hbox); have n3_ := aM ((zf GE469.out : w.heap.size ≤ gb472)); have n4_ := aM ((zf GE469.out : w.heap.size ≤ gb472)); have n5_ := aM ((zl BK469.out : gb469 ≠ gb472)); have n6_ := aM ((zn BK469.out : gb472 ≠ gb469)); clear BK469 HB; have BK469 := n0_; have HB := n1_; have BK472 := n2_; have GW472 := n3_; have GE472 := n4_; have NB469_472 := n5_; have NB472_469 := n6_; clear n0_ n1_ n2_ n3_ n4_ n5_ n6_ hb hbox hg; have hnb57 := NB472_469.out; have hnc57 := NB469_472.out; have hcz58_0 : w56.cell? ⟨gb472, 0, none⟩ = some (.slice none 0 0) := (blk_cell BK472.out 0).trans rfl; have hcz58_1 : w56.cell? ⟨gb472, 1, none⟩ = some (.int .i64 0) := (blk_cell BK472.out 1).trans rfl; have hcz58_2 : w56.cell? ⟨gb472, 2, none⟩ = some (.bool false) := (blk_cell BK472.out 2).trans rfl; have hfz58_0 := blk_frozen BK472.out 0; have hfz58_1 := blk_frozen BK472.out 1; have hfz58_2 := blk_frozen BK472.out 2) | ((with_reducible refine gate_callee (f := 24) rfl ?_); refine goesL_ (some 32) rfl rfl Tryz.func24 (by kernel_rfl) rfl #[.agg #[.slice A471_0 ((rd_T43 l0_1 x26_2).f0).length c471_0, .int .i64 ((rd_T43 l0_1 x26_2).f1), .bool ((rd_T43 l0_1 x26_2).f2)]] rfl zm ?_; (with_reducible refine (impl_IsPiece.calls k2 _ _ ((rd_T43 l0_1 x26_2).f0) ((rd_T43 l0_1 x26_2).f1) ((rd_T43 l0_1 x26_2).f2) false _ ?side1 ?side2 A20.out).mono ?_); (case side1 => exact Kd.C_below HR471_0.out (zt GE469.out GE472.out)); (case side2 => exact HC471_0.out); rintro e w59 ⟨rfl, hb⟩; refine ⟨_, rfl, ?_⟩; have n0_ := aM (blk_below (g := gb469) (o := .cells #[.slice A0_0 l0_0.length c0_0, .slice (some ad471) l0_1.length c0_1] 31 (0, 0)) (by (with_reducible repeat (first | refine blk_drewN ?_ _ | refine blk_drew ?_ | refine blk_alloc ?_ _)); refine blk_far ?_ NB469_472.out _; (with_reducible repeat (first | refine blk_drewN ?_ _ | refine blk_drew ?_ | refine blk_alloc ?_ _)); refine blk_far ?_ NB469_472.out _; (with_reducible repeat (first | refine blk_drewN ?_ _ | refine blk_drew ?_ | refine blk_alloc ?_ _)); refine blk_far ?_ NB469_472.out _; (with_reducible repeat (first | refine blk_drewN ?_ _ | refine blk_drew ?_ | refine blk_alloc ?_ _)); exact BK469.out) hb); have n1_ := aM (blk_below (g := gb472) (o := .cells #[.slice A471_0 ((rd_T43 l0_1 x26_2).f0).length c471_0, .int .i64 ((rd_T43 l0_1 x26_2).f1), .bool ((rd_T43 l0_1 x26_2).f2)] 43 (0, 0)) (by (with_reducible repeat (first | refine blk_drewN ?_ _ | refine blk_drew ?_ | refine blk_alloc ?_ _)); refine blk_put (cs := #[.slice A471_0 ((rd_T43 l0_1 x26_2).f0).length c471_0, .int .i64 ((rd_T43 l0_1 x26_2).f1), .bool false]) ?_ 2 _ rfl; (with_reducible repeat (first | refine blk_drewN ?_ _ | refine blk_drew ?_ | refine blk_alloc ?_ _)); refine blk_put (cs := #[.slice A471_0 ((rd_T43 l0_1 x26_2).f0).length c471_0, .int .i64 0, .bool false]) ?_ 1 _ rfl; (with_reducible repeat (first | refine blk_drewN ?_ _ | refine blk_drew ?_ | refine blk_alloc ?_ _)); refine blk_put (cs := #[.slice none 0 0, .int .i64 0, .bool false]) ?_ 0 _ rfl; (with_reducible repeat (first | refine blk_drewN ?_ _ | refine blk_drew ?_ | refine blk_alloc ?_ _)); exact BK472.out) hb); have n2_ := aM (below_step (zt GE469.out GE472.out) hb); clear BK469 BK472 HB; have BK469 := n0_; have BK472 := n1_; have HB := n2_; clear n0_ n1_ n2_; (try clear hb); (try clear hb2); (try clear hk); (try clear hi)))
      go_ret
      exact ⟨zw, zt GE469.out GE472.out⟩
     subst c21
     have H1 : (if x26_2 ≤ (l0_1.length : Int) then ((some (l0_1.take (x26_2 : Int).toNat : List (S43))).bind fun y474 => (impl_IsPuzzle.l1 k2 l0_1 (l0_1.length : Int) x26_2 y474 (y474.length : Int) 0 l0_0 l0_1 ((rd_T43 l0_1 x26_2).f0) ((rd_T43 l0_1 x26_2).f1) ((rd_T43 l0_1 x26_2).f2))) else (none)) = some r := by rw [if_pos rfl] at H; exact H
     clear H
     have H := H1
     clear H1
     have c22b0 := eq_true (of_decide_eq_true za : 0 ≤ x26_2)
     by_cases c23 : x26_2 ≤ (l0_1.length : Int)
     rotate_left
     ·rw [if_neg c23] at H
      exact absurd H (by simp)
     rw [if_pos c23] at H
     have c23b0 := eq_true c23
     have c23b1 : decide (x26_2 ≤ (l0_1.length : Int)) = true := decide_eq_true c23
     clear c23
     obtain ⟨y474, hy474⟩ : ∃ y_ : List (S43), y_ = (l0_1.take (x26_2 : Int).toNat) := ⟨_, rfl⟩
     replace H : (impl_IsPuzzle.l1 k2 l0_1 (l0_1.length : Int) x26_2 y474 (y474.length : Int) 0 l0_0 l0_1 ((rd_T43 l0_1 x26_2).f0) ((rd_T43 l0_1 x26_2).f1) ((rd_T43 l0_1 x26_2).f2)) = some r := zy H hy474
     have Ny474 := aM hy474
     clear hy474
     have H' := aM H
     clear H
     have p471 : 0 ≤ (x26_2 : Int) := of_decide_eq_true za
     have q471 : x26_2 < (l0_1.length : Int) := of_decide_eq_true za
     obtain ⟨ad471, A471_0, c471_0, e471, hx471_0, hx471_1, hx471_2, hl471_0, hi471_0⟩ := at_T43 HR0_1.out x26_2 p471 q471
     cases e471
     replace hx471_0 := zk HB.out hx471_0
     replace hx471_1 := zk HB.out hx471_1
     replace hx471_2 := zk HB.out hx471_2
     have HR471_0 := aM hi471_0
     have HC471_0 := aM hl471_0
     clear hi471_0 hl471_0
     replace p471 := eq_true p471
     replace q471 := eq_true q471
     go_wp2_with (first | ((with_reducible refine gate_dst (N := 4) rfl ?_); (try (refine gate_guard (by rfl) ?_; dsimp only)); refine zx 4 #[.slice none 0 0, .int .i64 0, .bool false] 43 ?_; intro gb472 hg w24 hbox hb; have n0_ := aM (blk_below (g := gb469) (o := .cells #[.slice A0_0 l0_0.length c0_0, .slice (some ad471) l0_1.length c0_1] 31 (0, 0)) (mB_ BK469.out) hb); have n1_ := aM (below_step (zs GE469.out) hb); have n2_ := aM (hbox); have n3_ := aM ((zf GE469.out : w.heap.size ≤ gb472)); have n4_ := aM ((zf GE469.out : w.heap.size ≤ gb472)); have n5_ := aM ((zl BK469.out : gb469 ≠ gb472)); have n6_ := aM ((zn BK469.out : gb472 ≠ gb469)); clear BK469 HB; have BK469 := n0_; have HB := n1_; have BK472 := n2_; have GW472 := n3_; have GE472 := n4_; have NB469_472 := n5_; have NB472_469 := n6_; clear n0_ n1_ n2_ n3_ n4_ n5_ n6_ hb hbox hg; have hnb25 := NB472_469.out; have hnc25 := NB469_472.out; have hcz26_0 : w24.cell? ⟨gb472, 0, none⟩ = some (.slice none 0 0) := (blk_cell BK472.out 0).trans rfl; have hcz26_1 : w24.cell? ⟨gb472, 1, none⟩ = some (.int .i64 0) := (blk_cell BK472.out 1).trans rfl; have hcz26_2 : w24.cell? ⟨gb472, 2, none⟩ = some (.bool false) := (blk_cell BK472.out 2).trans rfl; have hfz26_0 := blk_frozen BK472.out 0; have hfz26_1 := blk_frozen BK472.out 1; have hfz26_2 := blk_frozen BK472.out 2) | ((with_reducible refine gate_callee (f := 24) rfl ?_); refine goesL_ (some 32) rfl rfl Tryz.func24 (by kernel_rfl) rfl #[.agg #[.slice A471_0 ((rd_T43 l0_1 x26_2).f0).length c471_0, .int .i64 ((rd_T43 l0_1 x26_2).f1), .bool ((rd_T43 l0_1 x26_2).f2)]] rfl zm ?_; (with_reducible refine (impl_IsPiece.calls k2 _ _ ((rd_T43 l0_1 x26_2).f0) ((rd_T43 l0_1 x26_2).f1) ((rd_T43 l0_1 x26_2).f2) true _ ?side1 ?side2 A20.out).mono ?_); (case side1 => exact Kd.C_below HR471_0.out (zt GE469.out GE472.out)); (case side2 => exact HC471_0.out); rintro e w27 ⟨rfl, hb⟩; refine ⟨_, rfl, ?_⟩; have n0_ := aM (blk_below (g := gb469) (o := .cells #[.slice A0_0 l0_0.length c0_0, .slice (some ad471) l0_1.length c0_1] 31 (0, 0)) (by (with_reducible repeat (first | refine blk_drewN ?_ _ | refine blk_drew ?_ | refine blk_alloc ?_ _)); refine blk_far ?_ NB469_472.out _; (with_reducible repeat (first | refine blk_drewN ?_ _ | refine blk_drew ?_ | refine blk_alloc ?_ _)); refine blk_far ?_ NB469_472.out _; (with_reducible repeat (first | refine blk_drewN ?_ _ | refine blk_drew ?_ | refine blk_alloc ?_ _)); refine blk_far ?_ NB469_472.out _; (with_reducible repeat (first | refine blk_drewN ?_ _ | refine blk_drew ?_ | refine blk_alloc ?_ _)); exact BK469.out) hb); have n1_ := aM (blk_below (g := gb472) (o := .cells #[.slice A471_0 ((rd_T43 l0_1 x26_2).f0).length c471_0, .int .i64 ((rd_T43 l0_1 x26_2).f1), .bool ((rd_T43 l0_1 x26_2).f2)] 43 (0, 0)) (by (with_reducible repeat (first | refine blk_drewN ?_ _ | refine blk_drew ?_ | refine blk_alloc ?_ _)); refine blk_put (cs := #[.slice A471_0 ((rd_T43 l0_1 x26_2).f0).length c471_0, .int .i64 ((rd_T43 l0_1 x26_2).f1), .bool false]) ?_ 2 _ rfl; (with_reducible repeat (first | refine blk_drewN ?_ _ | refine blk_drew ?_ | refine blk_alloc ?_ _)); refine blk_put (cs := #[.slice A471_0 ((rd_T43 l0_1 x26_2).f0).length c471_0, .int .i64 0, .bool false]) ?_ 1 _ rfl; (with_reducible repeat (first | refine blk_drewN ?_ _ | refine blk_drew ?_ | refine blk_alloc ?_ _)); refine blk_put (cs := #[.slice none 0 0, .int .i64 0, .bool false]) ?_ 0 _ rfl; (with_reducible repeat (first | refine blk_drewN ?_ _ | refine blk_drew ?_ | refine blk_alloc ?_ _)); exact BK472.out) hb); have n2_ := aM (below_step (zt GE469.out GE472.out) hb); clear BK469 BK472 HB; have BK469 := n0_; have BK472 := n1_; have HB := n2_; clear n0_ n1_ n2_; (try clear hb); (try clear hb2); (try clear hk); (try clear hi); have hcz28_0 : w27.cell? ⟨gb469, 0, none⟩ = some (.slice A0_0 l0_0.length c0_0) := (blk_cell BK469.out 0).trans rfl; have hcz28_1 : w27.cell? ⟨gb469, 1, none⟩ = some (.slice (some ad471) l0_1.length c0_1) := (blk_cell BK469.out 1).trans rfl; have hfz28_0 := blk_frozen BK469.out 0; have hfz28_1 := blk_frozen BK469.out 1; have q29 : (x26_2 : Int) ≤ ((l0_1.length : Int) : Int) := of_decide_eq_true za; obtain ⟨i029, hi029, _, hsz29, _⟩ := info_parts info43; have hroom29 : l0_1.length ≤ c0_1 := HC0_1.out; have hC29 : Kd.C k43 _ (some ad471) l0_1.length l0_1 := HR0_1.out; have hcut29 := cut_to (P := Tryz.prog) 29 43 .i64 Tryz.underlying29 hi029 (some ad471) l0_1.length c0_1 x26_2 (of_decide_eq_true za) q29 hroom29; have hr29 := Kd.C_take (m := (x26_2 : Int).toNat) hC29 (by omega); have hy29 : y474.length = (x26_2 : Int).toNat := (by rw [Ny474.out, List.length_take]; omega); rw [← Ny474.out] at hr29; rw [← hy29] at hcut29; have HR477 := aM hr29; have HC477 := aM (show y474.length ≤ c0_1 from by omega); clear hr29 hC29 hroom29 hi029 hsz29; have KY29 := aM hy29; clear hy29; replace q29 := eq_true q29))
     go_loopg [39] k2 (fun kq v39 w' => ∃ (x39_3 : Int), v39 = .int .i64 x39_3 ∧ Aside0 (impl_IsPuzzle.l1 kq l0_1 (l0_1.length : Int) x26_2 y474 (y474.length : Int) x39_3 l0_0 l0_1 ((rd_T43 l0_1 x26_2).f0) ((rd_T43 l0_1 x26_2).f1) ((rd_T43 l0_1 x26_2).f2) = some r) ∧ Aside0 (kq ≤ k2) ∧ Aside0 (w'.heap[gb469]? = some (.cells #[(.slice A0_0 l0_0.length c0_0), (.slice (some ad471) l0_1.length c0_1)] 31 (0, 0))) ∧ Aside0 (w'.heap[gb472]? = some (.cells #[(.slice A471_0 ((rd_T43 l0_1 x26_2).f0).length c471_0), .int .i64 ((rd_T43 l0_1 x26_2).f1), .bool ((rd_T43 l0_1 x26_2).f2)] 43 (0, 0))) ∧ Aside0 (Below w.heap.size w w'))
     case atStart => exact ⟨(0), zr, H', ⟨Nat.le_refl _⟩, ⟨mB_ BK469.out⟩, ⟨mB_ BK472.out⟩, ⟨zt GE469.out GE472.out⟩⟩
     case round =>
      clear H'
      try clear c1
      try clear c2
      try clear p2
      try clear q2
      try clear c4
      try clear p4
      try clear q4
      try clear hx4
      try clear c5
      try clear c6
      try clear c6b0
      try clear c6b1
      try clear c9
      try clear c15
      try clear c17
      try clear c17b0
      try clear c18
      try clear c18b0
      try clear c19
      try clear c19b0
      try clear c21
      try clear c22
      try clear c22b0
      try clear c23
      try clear c23b0
      try clear c23b1
      try clear c24
      try clear c25
      try clear q29
      try clear hcz10_0
      try clear hcz10_1
      try clear hcz12_0
      try clear hcz12_1
      try clear hcz13_0
      try clear hcz13_1
      try clear hcz16_0
      try clear hcz16_1
      try clear hcz26_0
      try clear hcz26_1
      try clear hcz26_2
      try clear hcz28_0
      try clear hcz28_1
      try clear hcz7_0
      try clear hcz7_1
      try clear hcz9_0
      try clear hcz9_1
      try clear hfz10_0
      try clear hfz10_1
      try clear hfz12_0
      try clear hfz12_1
      try clear hfz13_0
      try clear hfz13_1
      try clear hfz16_0
      try clear hfz16_1
      try clear hfz26_0
      try clear hfz26_1
      try clear hfz26_2
      try clear hfz28_0
      try clear hfz28_1
      try clear hfz7_0
      try clear hfz7_1
      try clear hfz9_0
      try clear hfz9_1
      try clear hx471_0
      try clear hx471_1
      try clear hx471_2
      try clear p2
      try clear p471
      try clear q29
      try clear q471
      obtain ⟨x39_3, rfl, HA, HK3, BK469, BK472, HB⟩ := hrel
      cases gk with
      | zero => exact absurd HA.out (by simp [impl_IsPuzzle.l1])
      | succ k3 =>
       have H := HA.out
       clear HA
       simp only [impl_IsPuzzle.l1] at H
       by_cases c30 : x39_3 < (y474.length : Int)
       rotate_left
       ·rw [if_neg c30] at H
        have c30b0 : decide (x39_3 < (y474.length : Int)) = false := decide_eq_false c30
        clear c30
        have H' := aM H
        clear H
        go_wp2
        go_roundg k3
        case measure => have := HJ1.out; have := HK2.out; have := HK3.out; omega
        case rel => exact ⟨(wrap64 (x26_2 + 1)), zr, H', ⟨by have := HJ1.out; have := HK2.out; have := HK3.out; omega⟩, ⟨mB_ BK469.out⟩, ⟨zt GE469.out GE472.out⟩⟩
       rw [if_pos c30] at H
       have c30b0 : decide (x39_3 < (y474.length : Int)) = true := decide_eq_true c30
       clear c30
       by_cases c31 : 0 ≤ x39_3
       rotate_left
       ·rw [if_neg c31] at H
        exact absurd H (by simp)
       rw [if_pos c31] at H
       have c31b0 : decide (0 ≤ x39_3) = true := decide_eq_true c31
       clear c31
       by_cases c32 : x39_3 < (y474.length : Int)
       rotate_left
       ·rw [if_neg c32] at H
        exact absurd H (by simp)
       rw [if_pos c32] at H
       have c32b0 : decide (x39_3 < (y474.length : Int)) = true := decide_eq_true c32
       clear c32
       by_cases c33 : (((rd_T43 l0_1 x26_2).f0).length : Int) = (((rd_T43 y474 x39_3).f0).length : Int)
       rotate_left
       ·rw [if_neg c33] at H
        have c33b0 : ((((rd_T43 l0_1 x26_2).f0).length : Int) == (((rd_T43 y474 x39_3).f0).length : Int)) = false := beq_eq_false_iff_ne.mpr c33
        have c33b1 : ((((rd_T43 l0_1 x26_2).f0).length : Int) != (((rd_T43 y474 x39_3).f0).length : Int)) = true := bne_iff_ne.mpr c33
        have c33b2 : (((rd_T43 l0_1 x26_2).f0).length == ((rd_T43 y474 x39_3).f0).length) = false := by first | simpa using c33 | (simp at c33 ⊢; omega)
        have H' := aM H
        clear H
        have p478 : 0 ≤ (x39_3 : Int) := of_decide_eq_true za
        have q478 : x39_3 < (y474.length : Int) := of_decide_eq_true za
        obtain ⟨ad478, A478_0, c478_0, e478, hx478_0, hx478_1, hx478_2, hl478_0, hi478_0⟩ := at_T43 HR477.out x39_3 p478 q478
        obtain rfl : ad471 = ad478 := (by injection e478)
        replace hx478_0 := zk HB.out hx478_0
        replace hx478_1 := zk HB.out hx478_1
        replace hx478_2 := zk HB.out hx478_2
        have HR478_0 := aM hi478_0
        have HC478_0 := aM hl478_0
        clear hi478_0 hl478_0
        replace p478 := eq_true p478
        replace q478 := eq_true q478
        go_wp2_with (first | ((with_reducible refine gate_dst (N := 6) rfl ?_); (try (refine gate_guard (by rfl) ?_; dsimp only)); refine zx 6 #[.slice none 0 0, .int .i64 0, .bool false] 43 ?_; intro gb479 hg w50 hbox hb; have n0_ := aM (blk_below (g := gb469) (o := .cells #[.slice A0_0 l0_0.length c0_0, .slice (some ad471) l0_1.length c0_1] 31 (0, 0)) (mB_ BK469.out) hb); have n1_ := aM (blk_below (g := gb472) (o := .cells #[.slice A471_0 ((rd_T43 l0_1 x26_2).f0).length c471_0, .int .i64 ((rd_T43 l0_1 x26_2).f1), .bool ((rd_T43 l0_1 x26_2).f2)] 43 (0, 0)) (mB_ BK472.out) hb); have n2_ := aM (below_step (zt GE469.out GE472.out) hb); have n3_ := aM (hbox); have n4_ := aM ((by rw [hg]; exact (below_size (zt GE469.out GE472.out)) : w.heap.size ≤ gb479)); have n5_ := aM ((by rw [hg]; exact (below_size (zt GE469.out GE472.out)) : w.heap.size ≤ gb479)); have n6_ := aM ((zl BK469.out : gb469 ≠ gb479)); have n7_ := aM ((zn BK469.out : gb479 ≠ gb469)); have n8_ := aM ((zl BK472.out : gb472 ≠ gb479)); have n9_ := aM ((zn BK472.out : gb479 ≠ gb472)); clear BK469 BK472 HB; have BK469 := n0_; have BK472 := n1_; have HB := n2_; have BK479 := n3_; have GW479 := n4_; have GE479 := n5_; have NB469_479 := n6_; have NB479_469 := n7_; have NB472_479 := n8_; have NB479_472 := n9_; clear n0_ n1_ n2_ n3_ n4_ n5_ n6_ n7_ n8_ n9_ hb hbox hg; have hnb51 := NB479_469.out; have hnc51 := NB469_479.out; have hnb52 := NB479_472.out; have hnc52 := NB472_479.out; have hcz53_0 : w50.cell? ⟨gb479, 0, none⟩ = some (.slice none 0 0) := (blk_cell BK479.out 0).trans rfl; have hcz53_1 : w50.cell? ⟨gb479, 1, none⟩ = some (.int .i64 0) := (blk_cell BK479.out 1).trans rfl; have hcz53_2 : w50.cell? ⟨gb479, 2, none⟩ = some (.bool false) := (blk_cell BK479.out 2).trans rfl; have hfz53_0 := blk_frozen BK479.out 0; have hfz53_1 := blk_frozen BK479.out 1; have hfz53_2 := blk_frozen BK479.out 2; have hnb54 := NB472_469.out; have hnc54 := NB469_472.out; have hcz55_0 : w50.cell? ⟨gb472, 0, none⟩ = some (.slice A471_0 ((rd_T43 l0_1 x26_2).f0).length c471_0) := (blk_cell BK472.out 0).trans rfl; have hcz55_1 : w50.cell? ⟨gb472, 1, none⟩ = some (.int .i64 ((rd_T43 l0_1 x26_2).f1)) := (blk_cell BK472.out 1).trans rfl; have hcz55_2 : w50.cell? ⟨gb472, 2, none⟩ = some (.bool ((rd_T43 l0_1 x26_2).f2)) := (blk_cell BK472.out 2).trans rfl; have hfz55_0 := blk_frozen BK472.out 0; have hfz55_1 := blk_frozen BK472.out 1; have hfz55_2 := blk_frozen BK472.out 2))
        go_roundg k3
        case measure => have := HJ1.out; have := HK2.out; have := HK3.out; omega
        case rel => exact ⟨(wrap64 (x39_3 + 1)), zr, H', ⟨by have := HJ1.out; have := HK2.out; have := HK3.out; omega⟩, ⟨by (with_reducible repeat (first | refine blk_drewN ?_ _ | refine blk_drew ?_ | refine blk_alloc ?_ _)); refine blk_far ?_ NB469_479.out _; (with_reducible repeat (first | refine blk_drewN ?_ _ | refine blk_drew ?_ | refine blk_alloc ?_ _)); refine blk_far ?_ NB469_479.out _; (with_reducible repeat (first | refine blk_drewN ?_ _ | refine blk_drew ?_ | refine blk_alloc ?_ _)); refine blk_far ?_ NB469_479.out _; (with_reducible repeat (first | refine blk_drewN ?_ _ | refine blk_drew ?_ | refine blk_alloc ?_ _)); exact BK469.out⟩, ⟨by (with_reducible repeat (first | refine blk_drewN ?_ _ | refine blk_drew ?_ | refine blk_alloc ?_ _)); refine blk_far ?_ NB472_479.out _; (with_reducible repeat (first | refine blk_drewN ?_ _ | refine blk_drew ?_ | refine blk_alloc ?_ _)); refine blk_far ?_ NB472_479.out _; (with_reducible repeat (first | refine blk_drewN ?_ _ | refine blk_drew ?_ | refine blk_alloc ?_ _)); refine blk_far ?_ NB472_479.out _; (with_reducible repeat (first | refine blk_drewN ?_ _ | refine blk_drew ?_ | refine blk_alloc ?_ _)); exact BK472.out⟩, ⟨by repeat (first | (with_reducible first | exact HB.out | apply below_alloc | apply pw_below_drewN | apply below_drew1 | refine below_set ?_ GE469.out | refine below_set ?_ GE472.out | refine below_set ?_ GE479.out) | exact HB.out)⟩⟩
       rw [if_pos c33] at H
       have c33b0 : ((((rd_T43 l0_1 x26_2).f0).length : Int) == (((rd_T43 y474 x39_3).f0).length : Int)) = true := beq_iff_eq.mpr c33
       have c33b1 : ((((rd_T43 l0_1 x26_2).f0).length : Int) != (((rd_T43 y474 x39_3).f0).length : Int)) = false := bne_eq_false_iff_eq.mpr c33
       have c33b2 : (((rd_T43 l0_1 x26_2).f0).length == ((rd_T43 y474 x39_3).f0).length) = true := by first | simpa using c33 | (simp at c33 ⊢; omega)
       clear c33
       replace H := Option.bind_eq_some_iff.mp H
       obtain ⟨t480, A340, H⟩ := H
       replace H : (if t480 = true then (some false) else (impl_IsPuzzle.l1 k3 l0_1 (l0_1.length : Int) x26_2 y474 (y474.length : Int) (wrap64 (x39_3 + 1)) l0_0 l0_1 ((rd_T43 l0_1 x26_2).f0) ((rd_T43 l0_1 x26_2).f1) ((rd_T43 l0_1 x26_2).f2))) = some r := H
       have A34 := aM A340
       clear A340
       by_cases c35 : t480 = true
       ·subst c35
        have H1 : (some false) = some r := by rw [if_pos rfl] at H; exact H
        clear H
        have H := H1
        clear H1
        obtain rfl := Option.some.inj H
        have p478 : 0 ≤ (x39_3 : Int) := of_decide_eq_true za
        have q478 : x39_3 < (y474.length : Int) := of_decide_eq_true za
        obtain ⟨ad478, A478_0, c478_0, e478, hx478_0, hx478_1, hx478_2, hl478_0, hi478_0⟩ := at_T43 HR477.out x39_3 p478 q478
        obtain rfl : ad471 = ad478 := (by injection e478)
        replace hx478_0 := zk HB.out hx478_0
        replace hx478_1 := zk HB.out hx478_1
        replace hx478_2 := zk HB.out hx478_2
        have HR478_0 := aM hi478_0
        have HC478_0 := aM hl478_0
        clear hi478_0 hl478_0
        replace p478 := eq_true p478
        replace q478 := eq_true q478
        go_wp2_with (first | ((with_reducible refine gate_dst (N := 6) rfl ?_); (try (refine gate_guard (by rfl) ?_; dsimp only)); refine zx 6 #[.slice none 0 0, .int .i64 0, .bool false] 43 ?_; intro gb479 hg w36 hbox hb; have n0_ := aM (blk_below (g := gb469) (o := .cells #[.slice A0_0 l0_0.length c0_0, .slice (some ad471) l0_1.length c0_1] 31 (0, 0)) (mB_ BK469.out) hb); have n1_ := aM (blk_below (g := gb472) (o := .cells #[.slice A471_0 ((rd_T43 l0_1 x26_2).f0).length c471_0, .int .i64 ((rd_T43 l0_1 x26_2).f1), .bool ((rd_T43 l0_1 x26_2).f2)] 43 (0, 0)) (mB_ BK472.out) hb); have n2_ := aM (below_step (zt GE469.out GE472.out) hb); have n3_ := aM (hbox); have n4_ := aM ((by rw [hg]; exact (below_size (zt GE469.out GE472.out)) : w.heap.size ≤ gb479)); have n5_ := aM ((by rw [hg]; exact (below_size (zt GE469.out GE472.out)) : w.heap.size ≤ gb479)); have n6_ := aM ((zl BK469.out : gb469 ≠ gb479)); have n7_ := aM ((zn BK469.out : gb479 ≠ gb469)); have n8_ := aM ((zl BK472.out : gb472 ≠ gb479)); have n9_ := aM ((zn BK472.out : gb479 ≠ gb472)); clear BK469 BK472 HB; have BK469 := n0_; have BK472 := n1_; have HB := n2_; have BK479 := n3_; have GW479 := n4_; have GE479 := n5_; have NB469_479 := n6_; have NB479_469 := n7_; have NB472_479 := n8_; have NB479_472 := n9_; clear n0_ n1_ n2_ n3_ n4_ n5_ n6_ n7_ n8_ n9_ hb hbox hg; have hnb37 := NB479_469.out; have hnc37 := NB469_479.out; have hnb38 := NB479_472.out; have hnc38 := NB472_479.out; have hcz39_0 : w36.cell? ⟨gb479, 0, none⟩ = some (.slice none 0 0) := (blk_cell BK479.out 0).trans rfl; have hcz39_1 : w36.cell? ⟨gb479, 1, none⟩ = some (.int .i64 0) := (blk_cell BK479.out 1).trans rfl; have hcz39_2 : w36.cell? ⟨gb479, 2, none⟩ = some (.bool false) := (blk_cell BK479.out 2).trans rfl; have hfz39_0 := blk_frozen BK479.out 0; have hfz39_1 := blk_frozen BK479.out 1; have hfz39_2 := blk_frozen BK479.out 2; have hnb40 := NB472_469.out; have hnc40 := NB469_472.out; have hcz41_0 : w36.cell? ⟨gb472, 0, none⟩ = some (.slice A471_0 ((rd_T43 l0_1 x26_2).f0).length c471_0) := (blk_cell BK472.out 0).trans rfl; have hcz41_1 : w36.cell? ⟨gb472, 1, none⟩ = some (.int .i64 ((rd_T43 l0_1 x26_2).f1)) := (blk_cell BK472.out 1).trans rfl; have hcz41_2 : w36.cell? ⟨gb472, 2, none⟩ = some (.bool ((rd_T43 l0_1 x26_2).f2)) := (blk_cell BK472.out 2).trans rfl; have hfz41_0 := blk_frozen BK472.out 0; have hfz41_1 := blk_frozen BK472.out 1; have hfz41_2 := blk_frozen BK472.out 2) | (go_at_call 25; (with_reducible refine (impl_alike.calls k3 _ _ ((rd_T43 l0_1 x26_2).f0) ((rd_T43 l0_1 x26_2).f1) ((rd_T43 l0_1 x26_2).f2) _ _ ((rd_T43 y474 x39_3).f0) ((rd_T43 y474 x39_3).f1) ((rd_T43 y474 x39_3).f2) true _ ?side1 ?side2 ?side3 ?side4 A34.out).mono ?_); (case side1 => exact Kd.C_below HR471_0.out (by repeat (first | (with_reducible first | exact HB.out | apply below_alloc | apply pw_below_drewN | apply below_drew1 | refine below_set ?_ GE469.out | refine below_set ?_ GE472.out | refine below_set ?_ GE479.out) | exact HB.out))); (case side2 => exact HC471_0.out); (case side3 => exact Kd.C_below HR478_0.out (by repeat (first | (with_reducible first | exact HB.out | apply below_alloc | apply pw_below_drewN | apply below_drew1 | refine below_set ?_ GE469.out | refine below_set ?_ GE472.out | refine below_set ?_ GE479.out) | exact HB.out))); (case side4 => exact HC478_0.out); rintro e w42 ⟨rfl, hb⟩; have n0_ := aM (blk_below (g := gb469) (o := .cells #[.slice A0_0 l0_0.length c0_0, .slice (some ad471) l0_1.length c0_1] 31 (0, 0)) (by (with_reducible repeat (first | refine blk_drewN ?_ _ | refine blk_drew ?_ | refine blk_alloc ?_ _)); refine blk_far ?_ NB469_479.out _; (with_reducible repeat (first | refine blk_drewN ?_ _ | refine blk_drew ?_ | refine blk_alloc ?_ _)); refine blk_far ?_ NB469_479.out _; (with_reducible repeat (first | refine blk_drewN ?_ _ | refine blk_drew ?_ | refine blk_alloc ?_ _)); refine blk_far ?_ NB469_479.out _; (with_reducible repeat (first | refine blk_drewN ?_ _ | refine blk_drew ?_ | refine blk_alloc ?_ _)); exact BK469.out) hb); have n1_ := aM (blk_below (g := gb472) (o := .cells #[.slice A471_0 ((rd_T43 l0_1 x26_2).f0).length c471_0, .int .i64 ((rd_T43 l0_1 x26_2).f1), .bool ((rd_T43 l0_1 x26_2).f2)] 43 (0, 0)) (by (with_reducible repeat (first | refine blk_drewN ?_ _ | refine blk_drew ?_ | refine blk_alloc ?_ _)); refine blk_far ?_ NB472_479.out _; (with_reducible repeat (first | refine blk_drewN ?_ _ | refine blk_drew ?_ | refine blk_alloc ?_ _)); refine blk_far ?_ NB472_479.out _; (with_reducible repeat (first | refine blk_drewN ?_ _ | refine blk_drew ?_ | refine blk_alloc ?_ _)); refine blk_far ?_ NB472_479.out _; (with_reducible repeat (first | refine blk_drewN ?_ _ | refine blk_drew ?_ | refine blk_alloc ?_ _)); exact BK472.out) hb); have n2_ := aM (blk_below (g := gb479) (o := .cells #[.slice A478_0 ((rd_T43 y474 x39_3).f0).length c478_0, .int .i64 ((rd_T43 y474 x39_3).f1), .bool ((rd_T43 y474 x39_3).f2)] 43 (0, 0)) (by (with_reducible repeat (first | refine blk_drewN ?_ _ | refine blk_drew ?_ | refine blk_alloc ?_ _)); refine blk_put (cs := #[.slice A478_0 ((rd_T43 y474 x39_3).f0).length c478_0, .int .i64 ((rd_T43 y474 x39_3).f1), .bool false]) ?_ 2 _ rfl; (with_reducible repeat (first | refine blk_drewN ?_ _ | refine blk_drew ?_ | refine blk_alloc ?_ _)); refine blk_put (cs := #[.slice A478_0 ((rd_T43 y474 x39_3).f0).length c478_0, .int .i64 0, .bool false]) ?_ 1 _ rfl; (with_reducible repeat (first | refine blk_drewN ?_ _ | refine blk_drew ?_ | refine blk_alloc ?_ _)); refine blk_put (cs := #[.slice none 0 0, .int .i64 0, .bool false]) ?_ 0 _ rfl; (with_reducible repeat (first | refine blk_drewN ?_ _ | refine blk_drew ?_ | refine blk_alloc ?_ _)); exact BK479.out) hb); have n3_ := aM (below_step (by repeat (first | (with_reducible first | exact HB.out | apply below_alloc | apply pw_below_drewN | apply below_drew1 | refine below_set ?_ GE469.out | refine below_set ?_ GE472.out | refine below_set ?_ GE479.out) | exact HB.out)) hb); clear BK469 BK472 BK479 HB; have BK469 := n0_; have BK472 := n1_; have BK479 := n2_; have HB := n3_; clear n0_ n1_ n2_ n3_; (try clear hb); (try clear hb2); (try clear hk); (try clear hi)))
        go_ret
        exact ⟨zw, by repeat (first | (with_reducible first | exact HB.out | apply below_alloc | apply pw_below_drewN | apply below_drew1 | refine below_set ?_ GE469.out | refine below_set ?_ GE472.out | refine below_set ?_ GE479.out) | exact HB.out)⟩
       replace c35 := Bool.eq_false_iff.mpr c35
       subst c35
       have H1 : (impl_IsPuzzle.l1 k3 l0_1 (l0_1.length : Int) x26_2 y474 (y474.length : Int) (wrap64 (x39_3 + 1)) l0_0 l0_1 ((rd_T43 l0_1 x26_2).f0) ((rd_T43 l0_1 x26_2).f1) ((rd_T43 l0_1 x26_2).f2)) = some r := by rw [if_neg (show ¬ (false = true) by decide)] at H; exact H
       clear H
       have H := H1
       clear H1
       have H' := aM H
       clear H
       have p478 : 0 ≤ (x39_3 : Int) := of_decide_eq_true za
       have q478 : x39_3 < (y474.length : Int) := of_decide_eq_true za
       obtain ⟨ad478, A478_0, c478_0, e478, hx478_0, hx478_1, hx478_2, hl478_0, hi478_0⟩ := at_T43 HR477.out x39_3 p478 q478
       obtain rfl : ad471 = ad478 := (by injection e478)
       replace hx478_0 := zk HB.out hx478_0
       replace hx478_1 := zk HB.out hx478_1
       replace hx478_2 := zk HB.out hx478_2
       have HR478_0 := aM hi478_0
       have HC478_0 := aM hl478_0
       clear hi478_0 hl478_0
       replace p478 := eq_true p478
       replace q478 := eq_true q478
       go_wp2_with (first | ((with_reducible refine gate_dst (N := 6) rfl ?_); (try (refine gate_guard (by rfl) ?_; dsimp only)); refine zx 6 #[.slice none 0 0, .int .i64 0, .bool false] 43 ?_; intro gb479 hg w43 hbox hb; have n0_ := aM (blk_below (g := gb469) (o := .cells #[.slice A0_0 l0_0.length c0_0, .slice (some ad471) l0_1.length c0_1] 31 (0, 0)) (mB_ BK469.out) hb); have n1_ := aM (blk_below (g := gb472) (o := .cells #[.slice A471_0 ((rd_T43 l0_1 x26_2).f0).length c471_0, .int .i64 ((rd_T43 l0_1 x26_2).f1), .bool ((rd_T43 l0_1 x26_2).f2)] 43 (0, 0)) (mB_ BK472.out) hb); have n2_ := aM (below_step (zt GE469.out GE472.out) hb); have n3_ := aM (hbox); have n4_ := aM ((by rw [hg]; exact (below_size (zt GE469.out GE472.out)) : w.heap.size ≤ gb479)); have n5_ := aM ((by rw [hg]; exact (below_size (zt GE469.out GE472.out)) : w.heap.size ≤ gb479)); have n6_ := aM ((zl BK469.out : gb469 ≠ gb479)); have n7_ := aM ((zn BK469.out : gb479 ≠ gb469)); have n8_ := aM ((zl BK472.out : gb472 ≠ gb479)); have n9_ := aM ((zn BK472.out : gb479 ≠ gb472)); clear BK469 BK472 HB; have BK469 := n0_; have BK472 := n1_; have HB := n2_; have BK479 := n3_; have GW479 := n4_; have GE479 := n5_; have NB469_479 := n6_; have NB479_469 := n7_; have NB472_479 := n8_; have NB479_472 := n9_; clear n0_ n1_ n2_ n3_ n4_ n5_ n6_ n7_ n8_ n9_ hb hbox hg; have hnb44 := NB479_469.out; have hnc44 := NB469_479.out; have hnb45 := NB479_472.out; have hnc45 := NB472_479.out; have hcz46_0 : w43.cell? ⟨gb479, 0, none⟩ = some (.slice none 0 0) := (blk_cell BK479.out 0).trans rfl; have hcz46_1 : w43.cell? ⟨gb479, 1, none⟩ = some (.int .i64 0) := (blk_cell BK479.out 1).trans rfl; have hcz46_2 : w43.cell? ⟨gb479, 2, none⟩ = some (.bool false) := (blk_cell BK479.out 2).trans rfl; have hfz46_0 := blk_frozen BK479.out 0; have hfz46_1 := blk_frozen BK479.out 1; have hfz46_2 := blk_frozen BK479.out 2; have hnb47 := NB472_469.out; have hnc47 := NB469_472.out; have hcz48_0 : w43.cell? ⟨gb472, 0, none⟩ = some (.slice A471_0 ((rd_T43 l0_1 x26_2).f0).length c471_0) := (blk_cell BK472.out 0).trans rfl; have hcz48_1 : w43.cell? ⟨gb472, 1, none⟩ = some (.int .i64 ((rd_T43 l0_1 x26_2).f1)) := (blk_cell BK472.out 1).trans rfl; have hcz48_2 : w43.cell? ⟨gb472, 2, none⟩ = some (.bool ((rd_T43 l0_1 x26_2).f2)) := (blk_cell BK472.out 2).trans rfl; have hfz48_0 := blk_frozen BK472.out 0; have hfz48_1 := blk_frozen BK472.out 1; have hfz48_2 := blk_frozen BK472.out 2) | (go_at_call 25; (with_reducible refine (impl_alike.calls k3 _ _ ((rd_T43 l0_1 x26_2).f0) ((rd_T43 l0_1 x26_2).f1) ((rd_T43 l0_1 x26_2).f2) _ _ ((rd_T43 y474 x39_3).f0) ((rd_T43 y474 x39_3).f1) ((rd_T43 y474 x39_3).f2) false _ ?side1 ?side2 ?side3 ?side4 A34.out).mono ?_); (case side1 => exact Kd.C_below HR471_0.out (by repeat (first | (with_reducible first | exact HB.out | apply below_alloc | apply pw_below_drewN | apply below_drew1 | refine below_set ?_ GE469.out | refine below_set ?_ GE472.out | refine below_set ?_ GE479.out) | exact HB.out))); (case side2 => exact HC471_0.out); (case side3 => exact Kd.C_below HR478_0.out (by repeat (first | (with_reducible first | exact HB.out | apply below_alloc | apply pw_below_drewN | apply below_drew1 | refine below_set ?_ GE469.out | refine below_set ?_ GE472.out | refine below_set ?_ GE479.out) | exact HB.out))); (case side4 => exact HC478_0.out); rintro e w49 ⟨rfl, hb⟩; have n0_ := aM (blk_below (g := gb469) (o := .cells #[.slice A0_0 l0_0.length c0_0, .slice (some ad471) l0_1.length c0_1] 31 (0, 0)) (by (with_reducible repeat (first | refine blk_drewN ?_ _ | refine blk_drew ?_ | refine blk_alloc ?_ _)); refine blk_far ?_ NB469_479.out _; (with_reducible repeat (first | refine blk_drewN ?_ _ | refine blk_drew ?_ | refine blk_alloc ?_ _)); refine blk_far ?_ NB469_479.out _; (with_reducible repeat (first | refine blk_drewN ?_ _ | refine blk_drew ?_ | refine blk_alloc ?_ _)); refine blk_far ?_ NB469_479.out _; (with_reducible repeat (first | refine blk_drewN ?_ _ | refine blk_drew ?_ | refine blk_alloc ?_ _)); exact BK469.out) hb); have n1_ := aM (blk_below (g := gb472) (o := .cells #[.slice A471_0 ((rd_T43 l0_1 x26_2).f0).length c471_0, .int .i64 ((rd_T43 l0_1 x26_2).f1), .bool ((rd_T43 l0_1 x26_2).f2)] 43 (0, 0)) (by (with_reducible repeat (first | refine blk_drewN ?_ _ | refine blk_drew ?_ | refine blk_alloc ?_ _)); refine blk_far ?_ NB472_479.out _; (with_reducible repeat (first | refine blk_drewN ?_ _ | refine blk_drew ?_ | refine blk_alloc ?_ _)); refine blk_far ?_ NB472_479.out _; (with_reducible repeat (first | refine blk_drewN ?_ _ | refine blk_drew ?_ | refine blk_alloc ?_ _)); refine blk_far ?_ NB472_479.out _; (with_reducible repeat (first | refine blk_drewN ?_ _ | refine blk_drew ?_ | refine blk_alloc ?_ _)); exact BK472.out) hb); have n2_ := aM (blk_below (g := gb479) (o := .cells #[.slice A478_0 ((rd_T43 y474 x39_3).f0).length c478_0, .int .i64 ((rd_T43 y474 x39_3).f1), .bool ((rd_T43 y474 x39_3).f2)] 43 (0, 0)) (by (with_reducible repeat (first | refine blk_drewN ?_ _ | refine blk_drew ?_ | refine blk_alloc ?_ _)); refine blk_put (cs := #[.slice A478_0 ((rd_T43 y474 x39_3).f0).length c478_0, .int .i64 ((rd_T43 y474 x39_3).f1), .bool false]) ?_ 2 _ rfl; (with_reducible repeat (first | refine blk_drewN ?_ _ | refine blk_drew ?_ | refine blk_alloc ?_ _)); refine blk_put (cs := #[.slice A478_0 ((rd_T43 y474 x39_3).f0).length c478_0, .int .i64 0, .bool false]) ?_ 1 _ rfl; (with_reducible repeat (first | refine blk_drewN ?_ _ | refine blk_drew ?_ | refine blk_alloc ?_ _)); refine blk_put (cs := #[.slice none 0 0, .int .i64 0, .bool false]) ?_ 0 _ rfl; (with_reducible repeat (first | refine blk_drewN ?_ _ | refine blk_drew ?_ | refine blk_alloc ?_ _)); exact BK479.out) hb); have n3_ := aM (below_step (by repeat (first | (with_reducible first | exact HB.out | apply below_alloc | apply pw_below_drewN | apply below_drew1 | refine below_set ?_ GE469.out | refine below_set ?_ GE472.out | refine below_set ?_ GE479.out) | exact HB.out)) hb); clear BK469 BK472 BK479 HB; have BK469 := n0_; have BK472 := n1_; have BK479 := n2_; have HB := n3_; clear n0_ n1_ n2_ n3_; (try clear hb); (try clear hb2); (try clear hk); (try clear hi)))
       go_roundg k3
       case measure => have := HJ1.out; have := HK2.out; have := HK3.out; omega
       case rel => exact ⟨(wrap64 (x39_3 + 1)), zr, H', ⟨by have := HJ1.out; have := HK2.out; have := HK3.out; omega⟩, ⟨mB_ BK469.out⟩, ⟨mB_ BK472.out⟩, ⟨by repeat (first | (with_reducible first | exact HB.out | apply below_alloc | apply pw_below_drewN | apply below_drew1 | refine below_set ?_ GE469.out | refine below_set ?_ GE472.out | refine below_set ?_ GE479.out) | exact HB.out)⟩⟩
def laws_eqCell.f (a0_0 : Int) (a0_1 : Int) (a1_0 : Int) (a1_1 : Int) : Option (Bool) := if a0_0 = a1_0 then (if a0_1 = a1_1 then (some true) else (some false)) else (some false)
theorem laws_eqCell.calls (a0_0 : Int) (a0_1 : Int) (a1_0 : Int) (a1_1 : Int) (r : Bool) (w : World) (h : laws_eqCell.f a0_0 a0_1 a1_0 a1_1 = some r) :
  Calls Tryz.prog 50 #[.agg #[.int .i64 a0_0, .int .i64 a0_1], .agg #[.int .i64 a1_0, .int .i64 a1_1]] w fun e w' => e = .returned (.bool r) ∧ Below w.heap.size w w' := by
 have hu58 := Tryz.underlying58
 have HB := aM (Below.refl w.heap.size w)
 have H : (if a0_0 = a1_0 then (if a0_1 = a1_1 then (some true) else (some false)) else (some false)) = some r := h
 clear h
 by_cases c3 : a0_0 = a1_0
 rotate_left
 ·rw [if_neg c3] at H
  have c3b0 : (a0_0 == a1_0) = false := beq_eq_false_iff_ne.mpr c3
  have c3b1 : (a0_0 != a1_0) = true := bne_iff_ne.mpr c3
  obtain rfl := Option.some.inj H
  go_enter Tryz.func50, Tryz.ntmps50
  go_wp2_with (first | ((with_reducible refine gate_dst (N := 2) rfl ?_); refine zx 2 #[.int .i64 a0_0, .int .i64 a0_1] 58 ?_; intro gb481 hg w15 hbox hb; have n0_ := aM (below_step zb hb); have n1_ := aM (hbox); have n2_ := aM ((ze : w.heap.size ≤ gb481)); have n3_ := aM ((ze : w.heap.size ≤ gb481)); clear HB; have HB := n0_; have BK481 := n1_; have GW481 := n2_; have GE481 := n3_; clear n0_ n1_ n2_ n3_; clear hb hbox hg) | ((with_reducible refine gate_dst (N := 3) rfl ?_); refine zx 3 #[.int .i64 a1_0, .int .i64 a1_1] 58 ?_; intro gb482 hg w16 hbox hb; have n0_ := aM (blk_below (g := gb481) (o := .cells #[.int .i64 a0_0, .int .i64 a0_1] 58 (0, 0)) (mB_ BK481.out) hb); have n1_ := aM (below_step (zs GE481.out) hb); have n2_ := aM (hbox); have n3_ := aM ((zf GE481.out : w.heap.size ≤ gb482)); have n4_ := aM ((zf GE481.out : w.heap.size ≤ gb482)); have n5_ := aM ((zl BK481.out : gb481 ≠ gb482)); have n6_ := aM ((zn BK481.out : gb482 ≠ gb481)); clear BK481 HB; have BK481 := n0_; have HB := n1_; have BK482 := n2_; have GW482 := n3_; have GE482 := n4_; have NB481_482 := n5_; have NB482_481 := n6_; clear n0_ n1_ n2_ n3_ n4_ n5_ n6_ hb hbox hg; have hnb17 := NB481_482.out; have hnc17 := NB482_481.out; have hcz18_0 : w16.cell? ⟨gb481, 0, none⟩ = some (.int .i64 a0_0) := (blk_cell BK481.out 0).trans rfl; have hcz18_1 : w16.cell? ⟨gb481, 1, none⟩ = some (.int .i64 a0_1) := (blk_cell BK481.out 1).trans rfl; have hfz18_0 := blk_frozen BK481.out 0; have hfz18_1 := blk_frozen BK481.out 1; have hcz19_0 : w16.cell? ⟨gb482, 0, none⟩ = some (.int .i64 a1_0) := (blk_cell BK482.out 0).trans rfl; have hcz19_1 : w16.cell? ⟨gb482, 1, none⟩ = some (.int .i64 a1_1) := (blk_cell BK482.out 1).trans rfl; have hfz19_0 := blk_frozen BK482.out 0; have hfz19_1 := blk_frozen BK482.out 1))
  go_ret
  exact ⟨zw, zt GE481.out GE482.out⟩
 rw [if_pos c3] at H
 have c3b0 : (a0_0 == a1_0) = true := beq_iff_eq.mpr c3
 have c3b1 : (a0_0 != a1_0) = false := bne_eq_false_iff_eq.mpr c3
 clear c3
 by_cases c4 : a0_1 = a1_1
 rotate_left
 ·rw [if_neg c4] at H
  have c4b0 : (a0_1 == a1_1) = false := beq_eq_false_iff_ne.mpr c4
  have c4b1 : (a0_1 != a1_1) = true := bne_iff_ne.mpr c4
  obtain rfl := Option.some.inj H
  go_enter Tryz.func50, Tryz.ntmps50
  go_wp2_with (first | ((with_reducible refine gate_dst (N := 2) rfl ?_); refine zx 2 #[.int .i64 a0_0, .int .i64 a0_1] 58 ?_; intro gb481 hg w10 hbox hb; have n0_ := aM (below_step zb hb); have n1_ := aM (hbox); have n2_ := aM ((ze : w.heap.size ≤ gb481)); have n3_ := aM ((ze : w.heap.size ≤ gb481)); clear HB; have HB := n0_; have BK481 := n1_; have GW481 := n2_; have GE481 := n3_; clear n0_ n1_ n2_ n3_; clear hb hbox hg) | ((with_reducible refine gate_dst (N := 3) rfl ?_); refine zx 3 #[.int .i64 a1_0, .int .i64 a1_1] 58 ?_; intro gb482 hg w11 hbox hb; have n0_ := aM (blk_below (g := gb481) (o := .cells #[.int .i64 a0_0, .int .i64 a0_1] 58 (0, 0)) (mB_ BK481.out) hb); have n1_ := aM (below_step (zs GE481.out) hb); have n2_ := aM (hbox); have n3_ := aM ((zf GE481.out : w.heap.size ≤ gb482)); have n4_ := aM ((zf GE481.out : w.heap.size ≤ gb482)); have n5_ := aM ((zl BK481.out : gb481 ≠ gb482)); have n6_ := aM ((zn BK481.out : gb482 ≠ gb481)); clear BK481 HB; have BK481 := n0_; have HB := n1_; have BK482 := n2_; have GW482 := n3_; have GE482 := n4_; have NB481_482 := n5_; have NB482_481 := n6_; clear n0_ n1_ n2_ n3_ n4_ n5_ n6_ hb hbox hg; have hnb12 := NB481_482.out; have hnc12 := NB482_481.out; have hcz13_0 : w11.cell? ⟨gb481, 0, none⟩ = some (.int .i64 a0_0) := (blk_cell BK481.out 0).trans rfl; have hcz13_1 : w11.cell? ⟨gb481, 1, none⟩ = some (.int .i64 a0_1) := (blk_cell BK481.out 1).trans rfl; have hfz13_0 := blk_frozen BK481.out 0; have hfz13_1 := blk_frozen BK481.out 1; have hcz14_0 : w11.cell? ⟨gb482, 0, none⟩ = some (.int .i64 a1_0) := (blk_cell BK482.out 0).trans rfl; have hcz14_1 : w11.cell? ⟨gb482, 1, none⟩ = some (.int .i64 a1_1) := (blk_cell BK482.out 1).trans rfl; have hfz14_0 := blk_frozen BK482.out 0; have hfz14_1 := blk_frozen BK482.out 1))
  go_ret
  exact ⟨zw, zt GE481.out GE482.out⟩
 rw [if_pos c4] at H
 have c4b0 : (a0_1 == a1_1) = true := beq_iff_eq.mpr c4
 have c4b1 : (a0_1 != a1_1) = false := bne_eq_false_iff_eq.mpr c4
 clear c4
 obtain rfl := Option.some.inj H
 go_enter Tryz.func50, Tryz.ntmps50
 go_wp2_with (first | ((with_reducible refine gate_dst (N := 2) rfl ?_); refine zx 2 #[.int .i64 a0_0, .int .i64 a0_1] 58 ?_; intro gb481 hg w5 hbox hb; have n0_ := aM (below_step zb hb); have n1_ := aM (hbox); have n2_ := aM ((ze : w.heap.size ≤ gb481)); have n3_ := aM ((ze : w.heap.size ≤ gb481)); clear HB; have HB := n0_; have BK481 := n1_; have GW481 := n2_; have GE481 := n3_; clear n0_ n1_ n2_ n3_; clear hb hbox hg) | ((with_reducible refine gate_dst (N := 3) rfl ?_); refine zx 3 #[.int .i64 a1_0, .int .i64 a1_1] 58 ?_; intro gb482 hg w6 hbox hb; have n0_ := aM (blk_below (g := gb481) (o := .cells #[.int .i64 a0_0, .int .i64 a0_1] 58 (0, 0)) (mB_ BK481.out) hb); have n1_ := aM (below_step (zs GE481.out) hb); have n2_ := aM (hbox); have n3_ := aM ((zf GE481.out : w.heap.size ≤ gb482)); have n4_ := aM ((zf GE481.out : w.heap.size ≤ gb482)); have n5_ := aM ((zl BK481.out : gb481 ≠ gb482)); have n6_ := aM ((zn BK481.out : gb482 ≠ gb481)); clear BK481 HB; have BK481 := n0_; have HB := n1_; have BK482 := n2_; have GW482 := n3_; have GE482 := n4_; have NB481_482 := n5_; have NB482_481 := n6_; clear n0_ n1_ n2_ n3_ n4_ n5_ n6_ hb hbox hg; have hnb7 := NB481_482.out; have hnc7 := NB482_481.out; have hcz8_0 : w6.cell? ⟨gb481, 0, none⟩ = some (.int .i64 a0_0) := (blk_cell BK481.out 0).trans rfl; have hcz8_1 : w6.cell? ⟨gb481, 1, none⟩ = some (.int .i64 a0_1) := (blk_cell BK481.out 1).trans rfl; have hfz8_0 := blk_frozen BK481.out 0; have hfz8_1 := blk_frozen BK481.out 1; have hcz9_0 : w6.cell? ⟨gb482, 0, none⟩ = some (.int .i64 a1_0) := (blk_cell BK482.out 0).trans rfl; have hcz9_1 : w6.cell? ⟨gb482, 1, none⟩ = some (.int .i64 a1_1) := (blk_cell BK482.out 1).trans rfl; have hfz9_0 := blk_frozen BK482.out 0; have hfz9_1 := blk_frozen BK482.out 1))
 go_ret
 exact ⟨zw, zt GE481.out GE482.out⟩
def laws_eqCellS.l0 : Nat → List (S58) → List (S58) → Int → Option (Bool)
 | 0, _, _, _ => none
 | k + 1, x0, x1, x5 => if x5 < (x0.length : Int) then (if 0 ≤ x5 then (if x5 < (x1.length : Int) then ((laws_eqCell.f ((rd_T58 x0 x5).f0) ((rd_T58 x0 x5).f1) ((rd_T58 x1 x5).f0) ((rd_T58 x1 x5).f1)).bind fun t485 => (if t485 = true then (laws_eqCellS.l0 k x0 x1 (wrap64 (x5 + 1))) else (some false))) else (none)) else (none)) else (some true)
def laws_eqCellS.f (k : Nat) (l0 : List (S58)) (l1 : List (S58)) : Option (Bool) := if (l0.length : Int) = (l1.length : Int) then (laws_eqCellS.l0 k l0 l1 0) else (some false)
def laws_eqCellS.T6 : Bool × List (List Nat × List Nat) := (true, [([], []), ([], []), ([0, 1], [0, 1]), ([2], [2]), ([], []), ([], []), ([4, 5], [4, 5]), ([6], [6]), ([3, 7], [3, 7]), ([8], [8])])
def laws_eqCellS.B6 : List Nat := [0, 0, 3, 7, 0, 0, 48, 112, 255, 511]
theorem laws_eqCellS.tab6 : rtab .any (opsOf Tryz.f26 6) = laws_eqCellS.T6 := by kernel_rfl
theorem laws_eqCellS.bits6 : waitsOk laws_eqCellS.T6.2 laws_eqCellS.B6 = true := by kernel_rfl
theorem laws_eqCellS.calls (k : Nat) (A0 : Option Addr) (c0 : Nat) (l0 : List (S58)) (A1 : Option Addr) (c1 : Nat) (l1 : List (S58)) (r : Bool) (w : World) (hr0 : Kd.C k58 w A0 l0.length l0) (hc0 : l0.length ≤ c0) (hr1 : Kd.C k58 w A1 l1.length l1) (hc1 : l1.length ≤ c1) (h : laws_eqCellS.f k l0 l1 = some r) :
  Calls Tryz.prog 26 #[.slice A0 l0.length c0, .slice A1 l1.length c1] w fun e w' => e = .returned (.bool r) ∧ Below w.heap.size w w' := by
 have hu58 := Tryz.underlying58
 have HR0 := aM hr0
 have HC0 := aM hc0
 clear hr0 hc0
 have HR1 := aM hr1
 have HC1 := aM hc1
 clear hr1 hc1
 have HB := aM (Below.refl w.heap.size w)
 have H : (if (l0.length : Int) = (l1.length : Int) then (laws_eqCellS.l0 k l0 l1 0) else (some false)) = some r := h
 clear h
 by_cases c3 : (l0.length : Int) = (l1.length : Int)
 rotate_left
 ·rw [if_neg c3] at H
  have c3b0 : ((l0.length : Int) == (l1.length : Int)) = false := beq_eq_false_iff_ne.mpr c3
  have c3b1 : ((l0.length : Int) != (l1.length : Int)) = true := bne_iff_ne.mpr c3
  have c3b2 : (l0.length == l1.length) = false := by first | simpa using c3 | (simp at c3 ⊢; omega)
  obtain rfl := Option.some.inj H
  go_enter Tryz.func26, Tryz.ntmps26
  go_wp2
  go_ret
  exact ⟨zw, zb⟩
 rw [if_pos c3] at H
 have c3b0 : ((l0.length : Int) == (l1.length : Int)) = true := beq_iff_eq.mpr c3
 have c3b1 : ((l0.length : Int) != (l1.length : Int)) = false := bne_eq_false_iff_eq.mpr c3
 have c3b2 : (l0.length == l1.length) = true := by first | simpa using c3 | (simp at c3 ⊢; omega)
 clear c3
 have H' := aM H
 clear H
 go_enter Tryz.func26, Tryz.ntmps26
 go_wp2
 go_loopg [5] k (fun kq v5 w' => ∃ (x5_1 : Int), v5 = .int .i64 x5_1 ∧ Aside0 (laws_eqCellS.l0 kq l0 l1 x5_1 = some r) ∧ Aside0 (kq ≤ k) ∧ Aside0 (Below w.heap.size w w'))
 case atStart => exact ⟨(0), zr, H', ⟨Nat.le_refl _⟩, ⟨zb⟩⟩
 case round =>
  clear H'
  try clear c1
  try clear c2
  try clear p2
  try clear c3
  try clear c3b0
  try clear c3b1
  try clear c3b2
  obtain ⟨x5_1, rfl, HA, HK1, HB⟩ := hrel
  cases gk with
  | zero => exact absurd HA.out (by simp [laws_eqCellS.l0])
  | succ k1 =>
   have H := HA.out
   clear HA
   simp only [laws_eqCellS.l0] at H
   by_cases c4 : x5_1 < (l0.length : Int)
   rotate_left
   ·rw [if_neg c4] at H
    have c4b0 : decide (x5_1 < (l0.length : Int)) = false := decide_eq_false c4
    clear c4
    obtain rfl := Option.some.inj H
    go_wp2
    go_ret
    exact ⟨zw, zb⟩
   rw [if_pos c4] at H
   have c4b0 : decide (x5_1 < (l0.length : Int)) = true := decide_eq_true c4
   clear c4
   by_cases c5 : 0 ≤ x5_1
   rotate_left
   ·rw [if_neg c5] at H
    exact absurd H (by simp)
   rw [if_pos c5] at H
   have c5b0 : decide (0 ≤ x5_1) = true := decide_eq_true c5
   clear c5
   by_cases c6 : x5_1 < (l1.length : Int)
   rotate_left
   ·rw [if_neg c6] at H
    exact absurd H (by simp)
   rw [if_pos c6] at H
   have c6b0 : decide (x5_1 < (l1.length : Int)) = true := decide_eq_true c6
   clear c6
   replace H := Option.bind_eq_some_iff.mp H
   obtain ⟨t485, A70, H⟩ := H
   replace H : (if t485 = true then (laws_eqCellS.l0 k1 l0 l1 (wrap64 (x5_1 + 1))) else (some false)) = some r := H
   have A7 := aM A70
   clear A70
   by_cases c8 : t485 = true
   rotate_left
   ·replace c8 := Bool.eq_false_iff.mpr c8
    subst c8
    have H1 : (some false) = some r := by rw [if_neg (show ¬ (false = true) by decide)] at H; exact H
    clear H
    have H := H1
    clear H1
    obtain rfl := Option.some.inj H
    try go_wp2
    have n0_ := aM (below_drew1 HB.out)
    clear HB
    have HB := n0_
    clear n0_
    have p483 : 0 ≤ (x5_1 : Int) := of_decide_eq_true za
    have q483 : x5_1 < (l0.length : Int) := of_decide_eq_true za
    obtain ⟨ad483, e483, hx483_0, hx483_1⟩ := at_T58 HR0.out x5_1 p483 q483
    have hw483_1 := hx483_1
    have hw483_0 := hx483_0
    cases e483
    replace hx483_0 := zk HB.out hx483_0
    replace hx483_1 := zk HB.out hx483_1
    replace p483 := eq_true p483
    replace q483 := eq_true q483
    have p484 : 0 ≤ (x5_1 : Int) := of_decide_eq_true za
    have q484 : x5_1 < (l1.length : Int) := of_decide_eq_true za
    obtain ⟨ad484, e484, hx484_0, hx484_1⟩ := at_T58 HR1.out x5_1 p484 q484
    have hw484_1 := hx484_1
    have hw484_0 := hx484_0
    cases e484
    replace hx484_0 := zk HB.out hx484_0
    replace hx484_1 := zk HB.out hx484_1
    replace p484 := eq_true p484
    replace q484 := eq_true q484
    refine start_ (n := 10) (S := fun w' => w'.cell? (ad483.add ((x5_1).toNat * 2)) = some (.int .i64 ((rd_T58 l0 x5_1).f0)) ∧ w'.cell? ⟨(ad483.add ((x5_1).toNat * 2)).block, (ad483.add ((x5_1).toNat * 2)).off + 1, none⟩ = some (.int .i64 ((rd_T58 l0 x5_1).f1)) ∧ w'.cell? (ad484.add ((x5_1).toNat * 2)) = some (.int .i64 ((rd_T58 l1 x5_1).f0)) ∧ w'.cell? ⟨(ad484.add ((x5_1).toNat * 2)).block, (ad484.add ((x5_1).toNat * 2)).off + 1, none⟩ = some (.int .i64 ((rd_T58 l1 x5_1).f1))) (ds := []) zA52 (by kernel_rfl) rfl rfl ⟨(zk HB.out hw483_0), (zk HB.out hw483_1), (zk HB.out hw484_0), (zk HB.out hw484_1)⟩ (fun hHeld => ?_); refine with_tabW laws_eqCellS.tab6 laws_eqCellS.bits6 (fun HT_ HW_ => ?_)
    generalize wr.drew = w11 at HB hx483_0 hx483_1 hx484_0 hx484_1 hHeld ⊢
    refine zp 0 (some 17) ?_ zA53 rfl rfl (Or.inl ⟨by rfl, ?_⟩) ?_ ?_ ?_
    rotate_left
    ·intro w'
     go_simp
     with_reducible rfl
    rotate_left
    ·simp only [Act.put, xA, xB, xC, i64_w, i32_w]
     rfl
    refine zp 1 (some 18) ?_ zA54 rfl rfl (Or.inl ⟨by rfl, ?_⟩) ?_ ?_ ?_
    rotate_left
    ·intro w'
     go_simp
     with_reducible rfl
    rotate_left
    ·simp only [Act.put, xA, xB, xC, i64_w, i32_w]
     rfl
    refine zp 2 (some 19) ?_ zA55 rfl rfl (Or.inl ⟨by rfl, ?_⟩) ?_ ?_ ?_
    rotate_left
    ·intro w'
     go_simp
     with_reducible rfl
    rotate_left
    ·simp only [Act.put, xA, xB, xC, i64_w, i32_w]
     rfl
    refine zp 4 (some 21) ?_ zA63 rfl rfl (Or.inl ⟨by rfl, ?_⟩) ?_ ?_ ?_
    rotate_left
    ·intro w'
     go_simp
     with_reducible rfl
    rotate_left
    ·simp only [Act.put, xA, xB, xC, i64_w, i32_w]
     rfl
    refine zp 5 (some 22) ?_ zA64 rfl rfl (Or.inl ⟨by rfl, ?_⟩) ?_ ?_ ?_
    rotate_left
    ·intro w'
     go_simp
     with_reducible rfl
    rotate_left
    ·simp only [Act.put, xA, xB, xC, i64_w, i32_w]
     rfl
    refine zp 6 (some 23) ?_ zA65 rfl rfl (Or.inl ⟨by rfl, ?_⟩) ?_ ?_ ?_
    rotate_left
    ·intro w'
     go_simp
     with_reducible rfl
    rotate_left
    ·simp only [Act.put, xA, xB, xC, i64_w, i32_w]
     rfl
    refine zu 3 (some 20) ?_ zA59 rfl rfl (Or.inl ⟨by rfl, ?_⟩) hHeld ?_ ?_ ?_
    rotate_left
    ·rintro w' ⟨s0, s1, s2, s3⟩
     go_simp
     with_reducible rfl
    rotate_left
    ·simp only [Act.put, xA, xB, xC, i64_w, i32_w]
     rfl
    refine zu 7 (some 24) ?_ zA60 rfl rfl (Or.inl ⟨by rfl, ?_⟩) hHeld ?_ ?_ ?_
    rotate_left
    ·rintro w' ⟨s0, s1, s2, s3⟩
     go_simp
     with_reducible rfl
    rotate_left
    ·simp only [Act.put, xA, xB, xC, i64_w, i32_w]
     rfl
    refine one_ (i := 8) (N := some 25) zA61 rfl rfl (one_of HT_.out (by kernel_rfl)) (by decide) (fun K hK => ?_)
    refine goes_ Tryz.func50 (by kernel_rfl) rfl #[.agg #[.int .i64 ((rd_T58 l0 x5_1).f0), .int .i64 ((rd_T58 l0 x5_1).f1)], .agg #[.int .i64 ((rd_T58 l1 x5_1).f0), .int .i64 ((rd_T58 l1 x5_1).f1)]] (by rfl) rfl rfl zm ?_
    with_reducible refine (laws_eqCell.calls ((rd_T58 l0 x5_1).f0) ((rd_T58 l0 x5_1).f1) ((rd_T58 l1 x5_1).f0) ((rd_T58 l1 x5_1).f1) false _ A7.out).mono ?_
    rintro e w12 ⟨rfl, hb⟩
    refine ⟨_, rfl, ?_⟩
    have n0_ := aM (below_step zb hb)
    clear HB
    have HB := n0_
    clear n0_
    (try clear hb)
    (try clear hb2)
    (try clear hk)
    (try clear hi)
    refine hK.out _ _ ⟨(zk HB.out hw483_0), (zk HB.out hw483_1), (zk HB.out hw484_0), (zk HB.out hw484_1)⟩ (fun hHeld => ?_)
    clear hK K
    refine norm_ (a' := ?_) ?_ ?_
    rotate_left
    ·show Act.put _ (some 25) _ = _
     simp only [Act.put, xA, xB, xC, i64_w, i32_w]
     rfl
    refine zp 9 (some 26) ?_ zA62 rfl rfl (Or.inl ⟨by rfl, ?_⟩) ?_ ?_ ?_
    rotate_left
    ·intro w'
     go_simp
     with_reducible rfl
    rotate_left
    ·simp only [Act.put, xA, xB, xC, i64_w, i32_w]
     rfl
    refine done_ (done_of HT_.out (by kernel_rfl)) ?_
    try go_wp2
    go_ret
    exact ⟨zw, zb⟩
   subst c8
   have H1 : (laws_eqCellS.l0 k1 l0 l1 (wrap64 (x5_1 + 1))) = some r := by rw [if_pos rfl] at H; exact H
   clear H
   have H := H1
   clear H1
   have H' := aM H
   clear H
   try go_wp2
   have n0_ := aM (below_drew1 HB.out)
   clear HB
   have HB := n0_
   clear n0_
   have p483 : 0 ≤ (x5_1 : Int) := of_decide_eq_true za
   have q483 : x5_1 < (l0.length : Int) := of_decide_eq_true za
   obtain ⟨ad483, e483, hx483_0, hx483_1⟩ := at_T58 HR0.out x5_1 p483 q483
   have hw483_1 := hx483_1
   have hw483_0 := hx483_0
   cases e483
   replace hx483_0 := zk HB.out hx483_0
   replace hx483_1 := zk HB.out hx483_1
   replace p483 := eq_true p483
   replace q483 := eq_true q483
   have p484 : 0 ≤ (x5_1 : Int) := of_decide_eq_true za
   have q484 : x5_1 < (l1.length : Int) := of_decide_eq_true za
   obtain ⟨ad484, e484, hx484_0, hx484_1⟩ := at_T58 HR1.out x5_1 p484 q484
   have hw484_1 := hx484_1
   have hw484_0 := hx484_0
   cases e484
   replace hx484_0 := zk HB.out hx484_0
   replace hx484_1 := zk HB.out hx484_1
   replace p484 := eq_true p484
   replace q484 := eq_true q484
   refine start_ (n := 10) (S := fun w' => w'.cell? (ad483.add ((x5_1).toNat * 2)) = some (.int .i64 ((rd_T58 l0 x5_1).f0)) ∧ w'.cell? ⟨(ad483.add ((x5_1).toNat * 2)).block, (ad483.add ((x5_1).toNat * 2)).off + 1, none⟩ = some (.int .i64 ((rd_T58 l0 x5_1).f1)) ∧ w'.cell? (ad484.add ((x5_1).toNat * 2)) = some (.int .i64 ((rd_T58 l1 x5_1).f0)) ∧ w'.cell? ⟨(ad484.add ((x5_1).toNat * 2)).block, (ad484.add ((x5_1).toNat * 2)).off + 1, none⟩ = some (.int .i64 ((rd_T58 l1 x5_1).f1))) (ds := []) zA52 (by kernel_rfl) rfl rfl ⟨(zk HB.out hw483_0), (zk HB.out hw483_1), (zk HB.out hw484_0), (zk HB.out hw484_1)⟩ (fun hHeld => ?_); refine with_tabW laws_eqCellS.tab6 laws_eqCellS.bits6 (fun HT_ HW_ => ?_)
   generalize wr.drew = w9 at HB hx483_0 hx483_1 hx484_0 hx484_1 hHeld ⊢
   refine zp 0 (some 17) ?_ zA53 rfl rfl (Or.inl ⟨by rfl, ?_⟩) ?_ ?_ ?_
   rotate_left
   ·intro w'
    go_simp
    with_reducible rfl
   rotate_left
   ·simp only [Act.put, xA, xB, xC, i64_w, i32_w]
    rfl
   refine zp 1 (some 18) ?_ zA54 rfl rfl (Or.inl ⟨by rfl, ?_⟩) ?_ ?_ ?_
   rotate_left
   ·intro w'
    go_simp
    with_reducible rfl
   rotate_left
   ·simp only [Act.put, xA, xB, xC, i64_w, i32_w]
    rfl
   refine zp 2 (some 19) ?_ zA55 rfl rfl (Or.inl ⟨by rfl, ?_⟩) ?_ ?_ ?_
   rotate_left
   ·intro w'
    go_simp
    with_reducible rfl
   rotate_left
   ·simp only [Act.put, xA, xB, xC, i64_w, i32_w]
    rfl
   refine zp 4 (some 21) ?_ zA63 rfl rfl (Or.inl ⟨by rfl, ?_⟩) ?_ ?_ ?_
   rotate_left
   ·intro w'
    go_simp
    with_reducible rfl
   rotate_left
   ·simp only [Act.put, xA, xB, xC, i64_w, i32_w]
    rfl
   refine zp 5 (some 22) ?_ zA64 rfl rfl (Or.inl ⟨by rfl, ?_⟩) ?_ ?_ ?_
   rotate_left
   ·intro w'
    go_simp
    with_reducible rfl
   rotate_left
   ·simp only [Act.put, xA, xB, xC, i64_w, i32_w]
    rfl
   refine zp 6 (some 23) ?_ zA65 rfl rfl (Or.inl ⟨by rfl, ?_⟩) ?_ ?_ ?_
   rotate_left
   ·intro w'
    go_simp
    with_reducible rfl
   rotate_left
   ·simp only [Act.put, xA, xB, xC, i64_w, i32_w]
    rfl
   refine zu 3 (some 20) ?_ zA59 rfl rfl (Or.inl ⟨by rfl, ?_⟩) hHeld ?_ ?_ ?_
   rotate_left
   ·rintro w' ⟨s0, s1, s2, s3⟩
    go_simp
    with_reducible rfl
   rotate_left
   ·simp only [Act.put, xA, xB, xC, i64_w, i32_w]
    rfl
   refine zu 7 (some 24) ?_ zA60 rfl rfl (Or.inl ⟨by rfl, ?_⟩) hHeld ?_ ?_ ?_
   rotate_left
   ·rintro w' ⟨s0, s1, s2, s3⟩
    go_simp
    with_reducible rfl
   rotate_left
   ·simp only [Act.put, xA, xB, xC, i64_w, i32_w]
    rfl
   refine one_ (i := 8) (N := some 25) zA61 rfl rfl (one_of HT_.out (by kernel_rfl)) (by decide) (fun K hK => ?_)
   refine goes_ Tryz.func50 (by kernel_rfl) rfl #[.agg #[.int .i64 ((rd_T58 l0 x5_1).f0), .int .i64 ((rd_T58 l0 x5_1).f1)], .agg #[.int .i64 ((rd_T58 l1 x5_1).f0), .int .i64 ((rd_T58 l1 x5_1).f1)]] (by rfl) rfl rfl zm ?_
   with_reducible refine (laws_eqCell.calls ((rd_T58 l0 x5_1).f0) ((rd_T58 l0 x5_1).f1) ((rd_T58 l1 x5_1).f0) ((rd_T58 l1 x5_1).f1) true _ A7.out).mono ?_
   rintro e w10 ⟨rfl, hb⟩
   refine ⟨_, rfl, ?_⟩
   have n0_ := aM (below_step zb hb)
   clear HB
   have HB := n0_
   clear n0_
   (try clear hb)
   (try clear hb2)
   (try clear hk)
   (try clear hi)
   refine hK.out _ _ ⟨(zk HB.out hw483_0), (zk HB.out hw483_1), (zk HB.out hw484_0), (zk HB.out hw484_1)⟩ (fun hHeld => ?_)
   clear hK K
   refine norm_ (a' := ?_) ?_ ?_
   rotate_left
   ·show Act.put _ (some 25) _ = _
    simp only [Act.put, xA, xB, xC, i64_w, i32_w]
    rfl
   refine zp 9 (some 26) ?_ zA62 rfl rfl (Or.inl ⟨by rfl, ?_⟩) ?_ ?_ ?_
   rotate_left
   ·intro w'
    go_simp
    with_reducible rfl
   rotate_left
   ·simp only [Act.put, xA, xB, xC, i64_w, i32_w]
    rfl
   refine done_ (done_of HT_.out (by kernel_rfl)) ?_
   try go_wp2
   go_roundg k1
   case measure => have := HK1.out; omega
   case rel => exact ⟨(wrap64 (x5_1 + 1)), zr, H', ⟨by have := HK1.out; omega⟩, ⟨zb⟩⟩
def laws_eqPiece.f (k : Nat) (l0_0 : List (S58)) (a0_1 : Int) (a0_2 : Bool) (l1_0 : List (S58)) (a1_1 : Int) (a1_2 : Bool) : Option (Bool) := (laws_eqCellS.f k l0_0 l1_0).bind fun t488 => (if t488 = true then (if a0_1 = a1_1 then (if (a0_2 != a1_2) = true then (some false) else (some true)) else (some false)) else (some false))
theorem laws_eqPiece.calls (k : Nat) (A0_0 : Option Addr) (c0_0 : Nat) (l0_0 : List (S58)) (a0_1 : Int) (a0_2 : Bool) (A1_0 : Option Addr) (c1_0 : Nat) (l1_0 : List (S58)) (a1_1 : Int) (a1_2 : Bool) (r : Bool) (w : World) (hr0_0 : Kd.C k58 w A0_0 l0_0.length l0_0) (hc0_0 : l0_0.length ≤ c0_0) (hr1_0 : Kd.C k58 w A1_0 l1_0.length l1_0) (hc1_0 : l1_0.length ≤ c1_0) (h : laws_eqPiece.f k l0_0 a0_1 a0_2 l1_0 a1_1 a1_2 = some r) :
  Calls Tryz.prog 51 #[.agg #[.slice A0_0 l0_0.length c0_0, .int .i64 a0_1, .bool a0_2], .agg #[.slice A1_0 l1_0.length c1_0, .int .i64 a1_1, .bool a1_2]] w fun e w' => e = .returned (.bool r) ∧ Below w.heap.size w w' := by
 have hu43 := Tryz.underlying43
 have HR0_0 := aM hr0_0
 have HC0_0 := aM hc0_0
 clear hr0_0 hc0_0
 have HR1_0 := aM hr1_0
 have HC1_0 := aM hc1_0
 clear hr1_0 hc1_0
 have HB := aM (Below.refl w.heap.size w)
 have H : ((laws_eqCellS.f k l0_0 l1_0).bind fun t488 => (if t488 = true then (if a0_1 = a1_1 then (if (a0_2 != a1_2) = true then (some false) else (some true)) else (some false)) else (some false))) = some r := h
 clear h
 replace H := Option.bind_eq_some_iff.mp H
 obtain ⟨t488, A30, H⟩ := H
 replace H : (if t488 = true then (if a0_1 = a1_1 then (if (a0_2 != a1_2) = true then (some false) else (some true)) else (some false)) else (some false)) = some r := H
 have A3 := aM A30
 clear A30
 by_cases c4 : t488 = true
 rotate_left
 ·replace c4 := Bool.eq_false_iff.mpr c4
  subst c4
  have H1 : (some false) = some r := by rw [if_neg (show ¬ (false = true) by decide)] at H; exact H
  clear H
  have H := H1
  clear H1
  obtain rfl := Option.some.inj H
  go_enter Tryz.func51, Tryz.ntmps51
  go_wp2_with (first | ((with_reducible refine gate_dst (N := 2) rfl ?_); refine zx 2 #[.slice A0_0 l0_0.length c0_0, .int .i64 a0_1, .bool a0_2] 43 ?_; intro gb486 hg w31 hbox hb; have n0_ := aM (below_step zb hb); have n1_ := aM (hbox); have n2_ := aM ((ze : w.heap.size ≤ gb486)); have n3_ := aM ((ze : w.heap.size ≤ gb486)); clear HB; have HB := n0_; have BK486 := n1_; have GW486 := n2_; have GE486 := n3_; clear n0_ n1_ n2_ n3_; clear hb hbox hg) | ((with_reducible refine gate_dst (N := 3) rfl ?_); refine zx 3 #[.slice A1_0 l1_0.length c1_0, .int .i64 a1_1, .bool a1_2] 43 ?_; intro gb487 hg w32 hbox hb; have n0_ := aM (blk_below (g := gb486) (o := .cells #[.slice A0_0 l0_0.length c0_0, .int .i64 a0_1, .bool a0_2] 43 (0, 0)) (mB_ BK486.out) hb); have n1_ := aM (below_step (zs GE486.out) hb); have n2_ := aM (hbox); have n3_ := aM ((zf GE486.out : w.heap.size ≤ gb487)); have n4_ := aM ((zf GE486.out : w.heap.size ≤ gb487)); have n5_ := aM ((zl BK486.out : gb486 ≠ gb487)); have n6_ := aM ((zn BK486.out : gb487 ≠ gb486)); clear BK486 HB; have BK486 := n0_; have HB := n1_; have BK487 := n2_; have GW487 := n3_; have GE487 := n4_; have NB486_487 := n5_; have NB487_486 := n6_; clear n0_ n1_ n2_ n3_ n4_ n5_ n6_ hb hbox hg; have hnb33 := NB486_487.out; have hnc33 := NB487_486.out; have hcz34_0 : w32.cell? ⟨gb486, 0, none⟩ = some (.slice A0_0 l0_0.length c0_0) := (blk_cell BK486.out 0).trans rfl; have hcz34_1 : w32.cell? ⟨gb486, 1, none⟩ = some (.int .i64 a0_1) := (blk_cell BK486.out 1).trans rfl; have hcz34_2 : w32.cell? ⟨gb486, 2, none⟩ = some (.bool a0_2) := (blk_cell BK486.out 2).trans rfl; have hfz34_0 := blk_frozen BK486.out 0; have hfz34_1 := blk_frozen BK486.out 1; have hfz34_2 := blk_frozen BK486.out 2; have hcz35_0 : w32.cell? ⟨gb487, 0, none⟩ = some (.slice A1_0 l1_0.length c1_0) := (blk_cell BK487.out 0).trans rfl; have hcz35_1 : w32.cell? ⟨gb487, 1, none⟩ = some (.int .i64 a1_1) := (blk_cell BK487.out 1).trans rfl; have hcz35_2 : w32.cell? ⟨gb487, 2, none⟩ = some (.bool a1_2) := (blk_cell BK487.out 2).trans rfl; have hfz35_0 := blk_frozen BK487.out 0; have hfz35_1 := blk_frozen BK487.out 1; have hfz35_2 := blk_frozen BK487.out 2) | ((with_reducible refine gate_callee (f := 26) rfl ?_); refine goesL_ (some 9) rfl rfl Tryz.func26 (by kernel_rfl) rfl #[.slice A0_0 l0_0.length c0_0, .slice A1_0 l1_0.length c1_0] rfl zm ?_; (with_reducible refine (laws_eqCellS.calls k _ _ l0_0 _ _ l1_0 false _ ?side1 ?side2 ?side3 ?side4 A3.out).mono ?_); (case side1 => repeat (first | exact (Kd.C_below HR0_0.out HB.out) | (with_reducible refine Kd.C_alloc ?_ _) | (with_reducible refine Kd.C_drewN ?_ _) | (with_reducible refine Kd.C_drew ?_))); (case side2 => exact HC0_0.out); (case side3 => repeat (first | exact (Kd.C_below HR1_0.out HB.out) | (with_reducible refine Kd.C_alloc ?_ _) | (with_reducible refine Kd.C_drewN ?_ _) | (with_reducible refine Kd.C_drew ?_))); (case side4 => exact HC1_0.out); rintro e w36 ⟨rfl, hb⟩; refine ⟨_, rfl, ?_⟩; have n0_ := aM (blk_below (g := gb486) (o := .cells #[.slice A0_0 l0_0.length c0_0, .int .i64 a0_1, .bool a0_2] 43 (0, 0)) (mB_ BK486.out) hb); have n1_ := aM (blk_below (g := gb487) (o := .cells #[.slice A1_0 l1_0.length c1_0, .int .i64 a1_1, .bool a1_2] 43 (0, 0)) (mB_ BK487.out) hb); have n2_ := aM (below_step (zt GE486.out GE487.out) hb); clear BK486 BK487 HB; have BK486 := n0_; have BK487 := n1_; have HB := n2_; clear n0_ n1_ n2_; (try clear hb); (try clear hb2); (try clear hk); (try clear hi)))
  go_ret
  exact ⟨zw, zt GE486.out GE487.out⟩
 subst c4
 have H1 : (if a0_1 = a1_1 then (if (a0_2 != a1_2) = true then (some false) else (some true)) else (some false)) = some r := by rw [if_pos rfl] at H; exact H
 clear H
 have H := H1
 clear H1
 by_cases c5 : a0_1 = a1_1
 rotate_left
 ·rw [if_neg c5] at H
  have c5b0 : (a0_1 == a1_1) = false := beq_eq_false_iff_ne.mpr c5
  have c5b1 : (a0_1 != a1_1) = true := bne_iff_ne.mpr c5
  obtain rfl := Option.some.inj H
  go_enter Tryz.func51, Tryz.ntmps51
  go_wp2_with (first | ((with_reducible refine gate_dst (N := 2) rfl ?_); refine zx 2 #[.slice A0_0 l0_0.length c0_0, .int .i64 a0_1, .bool a0_2] 43 ?_; intro gb486 hg w23 hbox hb; have n0_ := aM (below_step zb hb); have n1_ := aM (hbox); have n2_ := aM ((ze : w.heap.size ≤ gb486)); have n3_ := aM ((ze : w.heap.size ≤ gb486)); clear HB; have HB := n0_; have BK486 := n1_; have GW486 := n2_; have GE486 := n3_; clear n0_ n1_ n2_ n3_; clear hb hbox hg) | ((with_reducible refine gate_dst (N := 3) rfl ?_); refine zx 3 #[.slice A1_0 l1_0.length c1_0, .int .i64 a1_1, .bool a1_2] 43 ?_; intro gb487 hg w24 hbox hb; have n0_ := aM (blk_below (g := gb486) (o := .cells #[.slice A0_0 l0_0.length c0_0, .int .i64 a0_1, .bool a0_2] 43 (0, 0)) (mB_ BK486.out) hb); have n1_ := aM (below_step (zs GE486.out) hb); have n2_ := aM (hbox); have n3_ := aM ((zf GE486.out : w.heap.size ≤ gb487)); have n4_ := aM ((zf GE486.out : w.heap.size ≤ gb487)); have n5_ := aM ((zl BK486.out : gb486 ≠ gb487)); have n6_ := aM ((zn BK486.out : gb487 ≠ gb486)); clear BK486 HB; have BK486 := n0_; have HB := n1_; have BK487 := n2_; have GW487 := n3_; have GE487 := n4_; have NB486_487 := n5_; have NB487_486 := n6_; clear n0_ n1_ n2_ n3_ n4_ n5_ n6_ hb hbox hg; have hnb25 := NB486_487.out; have hnc25 := NB487_486.out; have hcz26_0 : w24.cell? ⟨gb486, 0, none⟩ = some (.slice A0_0 l0_0.length c0_0) := (blk_cell BK486.out 0).trans rfl; have hcz26_1 : w24.cell? ⟨gb486, 1, none⟩ = some (.int .i64 a0_1) := (blk_cell BK486.out 1).trans rfl; have hcz26_2 : w24.cell? ⟨gb486, 2, none⟩ = some (.bool a0_2) := (blk_cell BK486.out 2).trans rfl; have hfz26_0 := blk_frozen BK486.out 0; have hfz26_1 := blk_frozen BK486.out 1; have hfz26_2 := blk_frozen BK486.out 2; have hcz27_0 : w24.cell? ⟨gb487, 0, none⟩ = some (.slice A1_0 l1_0.length c1_0) := (blk_cell BK487.out 0).trans rfl; have hcz27_1 : w24.cell? ⟨gb487, 1, none⟩ = some (.int .i64 a1_1) := (blk_cell BK487.out 1).trans rfl; have hcz27_2 : w24.cell? ⟨gb487, 2, none⟩ = some (.bool a1_2) := (blk_cell BK487.out 2).trans rfl; have hfz27_0 := blk_frozen BK487.out 0; have hfz27_1 := blk_frozen BK487.out 1; have hfz27_2 := blk_frozen BK487.out 2) | ((with_reducible refine gate_callee (f := 26) rfl ?_); refine goesL_ (some 9) rfl rfl Tryz.func26 (by kernel_rfl) rfl #[.slice A0_0 l0_0.length c0_0, .slice A1_0 l1_0.length c1_0] rfl zm ?_; (with_reducible refine (laws_eqCellS.calls k _ _ l0_0 _ _ l1_0 true _ ?side1 ?side2 ?side3 ?side4 A3.out).mono ?_); (case side1 => repeat (first | exact (Kd.C_below HR0_0.out HB.out) | (with_reducible refine Kd.C_alloc ?_ _) | (with_reducible refine Kd.C_drewN ?_ _) | (with_reducible refine Kd.C_drew ?_))); (case side2 => exact HC0_0.out); (case side3 => repeat (first | exact (Kd.C_below HR1_0.out HB.out) | (with_reducible refine Kd.C_alloc ?_ _) | (with_reducible refine Kd.C_drewN ?_ _) | (with_reducible refine Kd.C_drew ?_))); (case side4 => exact HC1_0.out); rintro e w28 ⟨rfl, hb⟩; refine ⟨_, rfl, ?_⟩; have n0_ := aM (blk_below (g := gb486) (o := .cells #[.slice A0_0 l0_0.length c0_0, .int .i64 a0_1, .bool a0_2] 43 (0, 0)) (mB_ BK486.out) hb); have n1_ := aM (blk_below (g := gb487) (o := .cells #[.slice A1_0 l1_0.length c1_0, .int .i64 a1_1, .bool a1_2] 43 (0, 0)) (mB_ BK487.out) hb); have n2_ := aM (below_step (zt GE486.out GE487.out) hb); clear BK486 BK487 HB; have BK486 := n0_; have BK487 := n1_; have HB := n2_; clear n0_ n1_ n2_; (try clear hb); (try clear hb2); (try clear hk); (try clear hi); have hcz29_0 : w28.cell? ⟨gb486, 0, none⟩ = some (.slice A0_0 l0_0.length c0_0) := (blk_cell BK486.out 0).trans rfl; have hcz29_1 : w28.cell? ⟨gb486, 1, none⟩ = some (.int .i64 a0_1) := (blk_cell BK486.out 1).trans rfl; have hcz29_2 : w28.cell? ⟨gb486, 2, none⟩ = some (.bool a0_2) := (blk_cell BK486.out 2).trans rfl; have hfz29_0 := blk_frozen BK486.out 0; have hfz29_1 := blk_frozen BK486.out 1; have hfz29_2 := blk_frozen BK486.out 2; have hcz30_0 : w28.cell? ⟨gb487, 0, none⟩ = some (.slice A1_0 l1_0.length c1_0) := (blk_cell BK487.out 0).trans rfl; have hcz30_1 : w28.cell? ⟨gb487, 1, none⟩ = some (.int .i64 a1_1) := (blk_cell BK487.out 1).trans rfl; have hcz30_2 : w28.cell? ⟨gb487, 2, none⟩ = some (.bool a1_2) := (blk_cell BK487.out 2).trans rfl; have hfz30_0 := blk_frozen BK487.out 0; have hfz30_1 := blk_frozen BK487.out 1; have hfz30_2 := blk_frozen BK487.out 2))
  go_ret
  exact ⟨zw, zt GE486.out GE487.out⟩
 rw [if_pos c5] at H
 have c5b0 : (a0_1 == a1_1) = true := beq_iff_eq.mpr c5
 have c5b1 : (a0_1 != a1_1) = false := bne_eq_false_iff_eq.mpr c5
 clear c5
 by_cases c6 : (a0_2 != a1_2) = true
 rotate_left
 ·rw [if_neg c6] at H
  have c6b0 : (a0_2 != a1_2) = false := by simpa using c6
  (try (have c6b1 : decide (a0_2 = a1_2) = true := by simpa using c6))
  (try (have c6b2 : (a0_2 == a1_2) = true := by simpa using c6))
  clear c6
  obtain rfl := Option.some.inj H
  go_enter Tryz.func51, Tryz.ntmps51
  go_wp2_with (first | ((with_reducible refine gate_dst (N := 2) rfl ?_); refine zx 2 #[.slice A0_0 l0_0.length c0_0, .int .i64 a0_1, .bool a0_2] 43 ?_; intro gb486 hg w15 hbox hb; have n0_ := aM (below_step zb hb); have n1_ := aM (hbox); have n2_ := aM ((ze : w.heap.size ≤ gb486)); have n3_ := aM ((ze : w.heap.size ≤ gb486)); clear HB; have HB := n0_; have BK486 := n1_; have GW486 := n2_; have GE486 := n3_; clear n0_ n1_ n2_ n3_; clear hb hbox hg) | ((with_reducible refine gate_dst (N := 3) rfl ?_); refine zx 3 #[.slice A1_0 l1_0.length c1_0, .int .i64 a1_1, .bool a1_2] 43 ?_; intro gb487 hg w16 hbox hb; have n0_ := aM (blk_below (g := gb486) (o := .cells #[.slice A0_0 l0_0.length c0_0, .int .i64 a0_1, .bool a0_2] 43 (0, 0)) (mB_ BK486.out) hb); have n1_ := aM (below_step (zs GE486.out) hb); have n2_ := aM (hbox); have n3_ := aM ((zf GE486.out : w.heap.size ≤ gb487)); have n4_ := aM ((zf GE486.out : w.heap.size ≤ gb487)); have n5_ := aM ((zl BK486.out : gb486 ≠ gb487)); have n6_ := aM ((zn BK486.out : gb487 ≠ gb486)); clear BK486 HB; have BK486 := n0_; have HB := n1_; have BK487 := n2_; have GW487 := n3_; have GE487 := n4_; have NB486_487 := n5_; have NB487_486 := n6_; clear n0_ n1_ n2_ n3_ n4_ n5_ n6_ hb hbox hg; have hnb17 := NB486_487.out; have hnc17 := NB487_486.out; have hcz18_0 : w16.cell? ⟨gb486, 0, none⟩ = some (.slice A0_0 l0_0.length c0_0) := (blk_cell BK486.out 0).trans rfl; have hcz18_1 : w16.cell? ⟨gb486, 1, none⟩ = some (.int .i64 a0_1) := (blk_cell BK486.out 1).trans rfl; have hcz18_2 : w16.cell? ⟨gb486, 2, none⟩ = some (.bool a0_2) := (blk_cell BK486.out 2).trans rfl; have hfz18_0 := blk_frozen BK486.out 0; have hfz18_1 := blk_frozen BK486.out 1; have hfz18_2 := blk_frozen BK486.out 2; have hcz19_0 : w16.cell? ⟨gb487, 0, none⟩ = some (.slice A1_0 l1_0.length c1_0) := (blk_cell BK487.out 0).trans rfl; have hcz19_1 : w16.cell? ⟨gb487, 1, none⟩ = some (.int .i64 a1_1) := (blk_cell BK487.out 1).trans rfl; have hcz19_2 : w16.cell? ⟨gb487, 2, none⟩ = some (.bool a1_2) := (blk_cell BK487.out 2).trans rfl; have hfz19_0 := blk_frozen BK487.out 0; have hfz19_1 := blk_frozen BK487.out 1; have hfz19_2 := blk_frozen BK487.out 2) | ((with_reducible refine gate_callee (f := 26) rfl ?_); refine goesL_ (some 9) rfl rfl Tryz.func26 (by kernel_rfl) rfl #[.slice A0_0 l0_0.length c0_0, .slice A1_0 l1_0.length c1_0] rfl zm ?_; (with_reducible refine (laws_eqCellS.calls k _ _ l0_0 _ _ l1_0 true _ ?side1 ?side2 ?side3 ?side4 A3.out).mono ?_); (case side1 => repeat (first | exact (Kd.C_below HR0_0.out HB.out) | (with_reducible refine Kd.C_alloc ?_ _) | (with_reducible refine Kd.C_drewN ?_ _) | (with_reducible refine Kd.C_drew ?_))); (case side2 => exact HC0_0.out); (case side3 => repeat (first | exact (Kd.C_below HR1_0.out HB.out) | (with_reducible refine Kd.C_alloc ?_ _) | (with_reducible refine Kd.C_drewN ?_ _) | (with_reducible refine Kd.C_drew ?_))); (case side4 => exact HC1_0.out); rintro e w20 ⟨rfl, hb⟩; refine ⟨_, rfl, ?_⟩; have n0_ := aM (blk_below (g := gb486) (o := .cells #[.slice A0_0 l0_0.length c0_0, .int .i64 a0_1, .bool a0_2] 43 (0, 0)) (mB_ BK486.out) hb); have n1_ := aM (blk_below (g := gb487) (o := .cells #[.slice A1_0 l1_0.length c1_0, .int .i64 a1_1, .bool a1_2] 43 (0, 0)) (mB_ BK487.out) hb); have n2_ := aM (below_step (zt GE486.out GE487.out) hb); clear BK486 BK487 HB; have BK486 := n0_; have BK487 := n1_; have HB := n2_; clear n0_ n1_ n2_; (try clear hb); (try clear hb2); (try clear hk); (try clear hi); have hcz21_0 : w20.cell? ⟨gb486, 0, none⟩ = some (.slice A0_0 l0_0.length c0_0) := (blk_cell BK486.out 0).trans rfl; have hcz21_1 : w20.cell? ⟨gb486, 1, none⟩ = some (.int .i64 a0_1) := (blk_cell BK486.out 1).trans rfl; have hcz21_2 : w20.cell? ⟨gb486, 2, none⟩ = some (.bool a0_2) := (blk_cell BK486.out 2).trans rfl; have hfz21_0 := blk_frozen BK486.out 0; have hfz21_1 := blk_frozen BK486.out 1; have hfz21_2 := blk_frozen BK486.out 2; have hcz22_0 : w20.cell? ⟨gb487, 0, none⟩ = some (.slice A1_0 l1_0.length c1_0) := (blk_cell BK487.out 0).trans rfl; have hcz22_1 : w20.cell? ⟨gb487, 1, none⟩ = some (.int .i64 a1_1) := (blk_cell BK487.out 1).trans rfl; have hcz22_2 : w20.cell? ⟨gb487, 2, none⟩ = some (.bool a1_2) := (blk_cell BK487.out 2).trans rfl; have hfz22_0 := blk_frozen BK487.out 0; have hfz22_1 := blk_frozen BK487.out 1; have hfz22_2 := blk_frozen BK487.out 2))
  go_ret
  exact ⟨zw, zt GE486.out GE487.out⟩
 rw [if_pos c6] at H
 have c6b0 : (a0_2 != a1_2) = true := c6
 (try (have c6b1 : decide (a0_2 = a1_2) = false := by simpa using c6))
 (try (have c6b2 : (a0_2 == a1_2) = false := by simpa using c6))
 (try (have c6b3 : ¬ (a0_2 = a1_2) := by simpa using c6))
 clear c6
 obtain rfl := Option.some.inj H
 go_enter Tryz.func51, Tryz.ntmps51
 go_wp2_with (first | ((with_reducible refine gate_dst (N := 2) rfl ?_); refine zx 2 #[.slice A0_0 l0_0.length c0_0, .int .i64 a0_1, .bool a0_2] 43 ?_; intro gb486 hg w7 hbox hb; have n0_ := aM (below_step zb hb); have n1_ := aM (hbox); have n2_ := aM ((ze : w.heap.size ≤ gb486)); have n3_ := aM ((ze : w.heap.size ≤ gb486)); clear HB; have HB := n0_; have BK486 := n1_; have GW486 := n2_; have GE486 := n3_; clear n0_ n1_ n2_ n3_; clear hb hbox hg) | ((with_reducible refine gate_dst (N := 3) rfl ?_); refine zx 3 #[.slice A1_0 l1_0.length c1_0, .int .i64 a1_1, .bool a1_2] 43 ?_; intro gb487 hg w8 hbox hb; have n0_ := aM (blk_below (g := gb486) (o := .cells #[.slice A0_0 l0_0.length c0_0, .int .i64 a0_1, .bool a0_2] 43 (0, 0)) (mB_ BK486.out) hb); have n1_ := aM (below_step (zs GE486.out) hb); have n2_ := aM (hbox); have n3_ := aM ((zf GE486.out : w.heap.size ≤ gb487)); have n4_ := aM ((zf GE486.out : w.heap.size ≤ gb487)); have n5_ := aM ((zl BK486.out : gb486 ≠ gb487)); have n6_ := aM ((zn BK486.out : gb487 ≠ gb486)); clear BK486 HB; have BK486 := n0_; have HB := n1_; have BK487 := n2_; have GW487 := n3_; have GE487 := n4_; have NB486_487 := n5_; have NB487_486 := n6_; clear n0_ n1_ n2_ n3_ n4_ n5_ n6_ hb hbox hg; have hnb9 := NB486_487.out; have hnc9 := NB487_486.out; have hcz10_0 : w8.cell? ⟨gb486, 0, none⟩ = some (.slice A0_0 l0_0.length c0_0) := (blk_cell BK486.out 0).trans rfl; have hcz10_1 : w8.cell? ⟨gb486, 1, none⟩ = some (.int .i64 a0_1) := (blk_cell BK486.out 1).trans rfl; have hcz10_2 : w8.cell? ⟨gb486, 2, none⟩ = some (.bool a0_2) := (blk_cell BK486.out 2).trans rfl; have hfz10_0 := blk_frozen BK486.out 0; have hfz10_1 := blk_frozen BK486.out 1; have hfz10_2 := blk_frozen BK486.out 2; have hcz11_0 : w8.cell? ⟨gb487, 0, none⟩ = some (.slice A1_0 l1_0.length c1_0) := (blk_cell BK487.out 0).trans rfl; have hcz11_1 : w8.cell? ⟨gb487, 1, none⟩ = some (.int .i64 a1_1) := (blk_cell BK487.out 1).trans rfl; have hcz11_2 : w8.cell? ⟨gb487, 2, none⟩ = some (.bool a1_2) := (blk_cell BK487.out 2).trans rfl; have hfz11_0 := blk_frozen BK487.out 0; have hfz11_1 := blk_frozen BK487.out 1; have hfz11_2 := blk_frozen BK487.out 2) | ((with_reducible refine gate_callee (f := 26) rfl ?_); refine goesL_ (some 9) rfl rfl Tryz.func26 (by kernel_rfl) rfl #[.slice A0_0 l0_0.length c0_0, .slice A1_0 l1_0.length c1_0] rfl zm ?_; (with_reducible refine (laws_eqCellS.calls k _ _ l0_0 _ _ l1_0 true _ ?side1 ?side2 ?side3 ?side4 A3.out).mono ?_); (case side1 => repeat (first | exact (Kd.C_below HR0_0.out HB.out) | (with_reducible refine Kd.C_alloc ?_ _) | (with_reducible refine Kd.C_drewN ?_ _) | (with_reducible refine Kd.C_drew ?_))); (case side2 => exact HC0_0.out); (case side3 => repeat (first | exact (Kd.C_below HR1_0.out HB.out) | (with_reducible refine Kd.C_alloc ?_ _) | (with_reducible refine Kd.C_drewN ?_ _) | (with_reducible refine Kd.C_drew ?_))); (case side4 => exact HC1_0.out); rintro e w12 ⟨rfl, hb⟩; refine ⟨_, rfl, ?_⟩; have n0_ := aM (blk_below (g := gb486) (o := .cells #[.slice A0_0 l0_0.length c0_0, .int .i64 a0_1, .bool a0_2] 43 (0, 0)) (mB_ BK486.out) hb); have n1_ := aM (blk_below (g := gb487) (o := .cells #[.slice A1_0 l1_0.length c1_0, .int .i64 a1_1, .bool a1_2] 43 (0, 0)) (mB_ BK487.out) hb); have n2_ := aM (below_step (zt GE486.out GE487.out) hb); clear BK486 BK487 HB; have BK486 := n0_; have BK487 := n1_; have HB := n2_; clear n0_ n1_ n2_; (try clear hb); (try clear hb2); (try clear hk); (try clear hi); have hcz13_0 : w12.cell? ⟨gb486, 0, none⟩ = some (.slice A0_0 l0_0.length c0_0) := (blk_cell BK486.out 0).trans rfl; have hcz13_1 : w12.cell? ⟨gb486, 1, none⟩ = some (.int .i64 a0_1) := (blk_cell BK486.out 1).trans rfl; have hcz13_2 : w12.cell? ⟨gb486, 2, none⟩ = some (.bool a0_2) := (blk_cell BK486.out 2).trans rfl; have hfz13_0 := blk_frozen BK486.out 0; have hfz13_1 := blk_frozen BK486.out 1; have hfz13_2 := blk_frozen BK486.out 2; have hcz14_0 : w12.cell? ⟨gb487, 0, none⟩ = some (.slice A1_0 l1_0.length c1_0) := (blk_cell BK487.out 0).trans rfl; have hcz14_1 : w12.cell? ⟨gb487, 1, none⟩ = some (.int .i64 a1_1) := (blk_cell BK487.out 1).trans rfl; have hcz14_2 : w12.cell? ⟨gb487, 2, none⟩ = some (.bool a1_2) := (blk_cell BK487.out 2).trans rfl; have hfz14_0 := blk_frozen BK487.out 0; have hfz14_1 := blk_frozen BK487.out 1; have hfz14_2 := blk_frozen BK487.out 2))
 go_ret
 exact ⟨zw, zt GE486.out GE487.out⟩
def laws_eqPieceS.l0 : Nat → List (S43) → List (S43) → Int → Option (Bool)
 | 0, _, _, _ => none
 | k + 1, x0, x1, x5 => if x5 < (x0.length : Int) then (if 0 ≤ x5 then (if x5 < (x1.length : Int) then ((laws_eqPiece.f k ((rd_T43 x0 x5).f0) ((rd_T43 x0 x5).f1) ((rd_T43 x0 x5).f2) ((rd_T43 x1 x5).f0) ((rd_T43 x1 x5).f1) ((rd_T43 x1 x5).f2)).bind fun t491 => (if t491 = true then (laws_eqPieceS.l0 k x0 x1 (wrap64 (x5 + 1))) else (some false))) else (none)) else (none)) else (some true)
def laws_eqPieceS.f (k : Nat) (l0 : List (S43)) (l1 : List (S43)) : Option (Bool) := if (l0.length : Int) = (l1.length : Int) then (laws_eqPieceS.l0 k l0 l1 0) else (some false)
def laws_eqPieceS.T6 : Bool × List (List Nat × List Nat) := (true, [([], []), ([], []), ([0, 1], [0, 1]), ([2], [2]), ([], []), ([], []), ([4, 5], [4, 5]), ([6], [6]), ([3, 7], [3, 7]), ([8], [8])])
def laws_eqPieceS.B6 : List Nat := [0, 0, 3, 7, 0, 0, 48, 112, 255, 511]
theorem laws_eqPieceS.tab6 : rtab .any (opsOf Tryz.f27 6) = laws_eqPieceS.T6 := by kernel_rfl
theorem laws_eqPieceS.bits6 : waitsOk laws_eqPieceS.T6.2 laws_eqPieceS.B6 = true := by kernel_rfl
theorem laws_eqPieceS.calls (k : Nat) (A0 : Option Addr) (c0 : Nat) (l0 : List (S43)) (A1 : Option Addr) (c1 : Nat) (l1 : List (S43)) (r : Bool) (w : World) (hr0 : Kd.C k43 w A0 l0.length l0) (hc0 : l0.length ≤ c0) (hr1 : Kd.C k43 w A1 l1.length l1) (hc1 : l1.length ≤ c1) (h : laws_eqPieceS.f k l0 l1 = some r) :
  Calls Tryz.prog 27 #[.slice A0 l0.length c0, .slice A1 l1.length c1] w fun e w' => e = .returned (.bool r) ∧ Below w.heap.size w w' := by
 have hu43 := Tryz.underlying43
 have HR0 := aM hr0
 have HC0 := aM hc0
 clear hr0 hc0
 have HR1 := aM hr1
 have HC1 := aM hc1
 clear hr1 hc1
 have HB := aM (Below.refl w.heap.size w)
 have H : (if (l0.length : Int) = (l1.length : Int) then (laws_eqPieceS.l0 k l0 l1 0) else (some false)) = some r := h
 clear h
 by_cases c3 : (l0.length : Int) = (l1.length : Int)
 rotate_left
 ·rw [if_neg c3] at H
  have c3b0 : ((l0.length : Int) == (l1.length : Int)) = false := beq_eq_false_iff_ne.mpr c3
  have c3b1 : ((l0.length : Int) != (l1.length : Int)) = true := bne_iff_ne.mpr c3
  have c3b2 : (l0.length == l1.length) = false := by first | simpa using c3 | (simp at c3 ⊢; omega)
  obtain rfl := Option.some.inj H
  go_enter Tryz.func27, Tryz.ntmps27
  go_wp2
  go_ret
  exact ⟨zw, zb⟩
 rw [if_pos c3] at H
 have c3b0 : ((l0.length : Int) == (l1.length : Int)) = true := beq_iff_eq.mpr c3
 have c3b1 : ((l0.length : Int) != (l1.length : Int)) = false := bne_eq_false_iff_eq.mpr c3
 have c3b2 : (l0.length == l1.length) = true := by first | simpa using c3 | (simp at c3 ⊢; omega)
 clear c3
 have H' := aM H
 clear H
 go_enter Tryz.func27, Tryz.ntmps27
 go_wp2
 go_loopg [5] k (fun kq v5 w' => ∃ (x5_1 : Int), v5 = .int .i64 x5_1 ∧ Aside0 (laws_eqPieceS.l0 kq l0 l1 x5_1 = some r) ∧ Aside0 (kq ≤ k) ∧ Aside0 (Below w.heap.size w w'))
 case atStart => exact ⟨(0), zr, H', ⟨Nat.le_refl _⟩, ⟨zb⟩⟩
 case round =>
  clear H'
  try clear c1
  try clear c2
  try clear p2
  try clear c3
  try clear c3b0
  try clear c3b1
  try clear c3b2
  obtain ⟨x5_1, rfl, HA, HK1, HB⟩ := hrel
  cases gk with
  | zero => exact absurd HA.out (by simp [laws_eqPieceS.l0])
  | succ k1 =>
   have H := HA.out
   clear HA
   simp only [laws_eqPieceS.l0] at H
   by_cases c4 : x5_1 < (l0.length : Int)
   rotate_left
   ·rw [if_neg c4] at H
    have c4b0 : decide (x5_1 < (l0.length : Int)) = false := decide_eq_false c4
    clear c4
    obtain rfl := Option.some.inj H
    go_wp2
    go_ret
    exact ⟨zw, zb⟩
   rw [if_pos c4] at H
   have c4b0 : decide (x5_1 < (l0.length : Int)) = true := decide_eq_true c4
   clear c4
   by_cases c5 : 0 ≤ x5_1
   rotate_left
   ·rw [if_neg c5] at H
    exact absurd H (by simp)
   rw [if_pos c5] at H
   have c5b0 : decide (0 ≤ x5_1) = true := decide_eq_true c5
   clear c5
   by_cases c6 : x5_1 < (l1.length : Int)
   rotate_left
   ·rw [if_neg c6] at H
    exact absurd H (by simp)
   rw [if_pos c6] at H
   have c6b0 : decide (x5_1 < (l1.length : Int)) = true := decide_eq_true c6
   clear c6
   replace H := Option.bind_eq_some_iff.mp H
   obtain ⟨t491, A70, H⟩ := H
   replace H : (if t491 = true then (laws_eqPieceS.l0 k1 l0 l1 (wrap64 (x5_1 + 1))) else (some false)) = some r := H
   have A7 := aM A70
   clear A70
   by_cases c8 : t491 = true
   rotate_left
   ·replace c8 := Bool.eq_false_iff.mpr c8
    subst c8
    have H1 : (some false) = some r := by rw [if_neg (show ¬ (false = true) by decide)] at H; exact H
    clear H
    have H := H1
    clear H1
    obtain rfl := Option.some.inj H
    try go_wp2
    have n0_ := aM (below_drew1 HB.out)
    clear HB
    have HB := n0_
    clear n0_
    have p489 : 0 ≤ (x5_1 : Int) := of_decide_eq_true za
    have q489 : x5_1 < (l0.length : Int) := of_decide_eq_true za
    obtain ⟨ad489, A489_0, c489_0, e489, hx489_0, hx489_1, hx489_2, hl489_0, hi489_0⟩ := at_T43 HR0.out x5_1 p489 q489
    have hw489_2 := hx489_2
    have hw489_1 := hx489_1
    have hw489_0 := hx489_0
    cases e489
    replace hx489_0 := zk HB.out hx489_0
    replace hx489_1 := zk HB.out hx489_1
    replace hx489_2 := zk HB.out hx489_2
    have HR489_0 := aM hi489_0
    have HC489_0 := aM hl489_0
    clear hi489_0 hl489_0
    replace p489 := eq_true p489
    replace q489 := eq_true q489
    have p490 : 0 ≤ (x5_1 : Int) := of_decide_eq_true za
    have q490 : x5_1 < (l1.length : Int) := of_decide_eq_true za
    obtain ⟨ad490, A490_0, c490_0, e490, hx490_0, hx490_1, hx490_2, hl490_0, hi490_0⟩ := at_T43 HR1.out x5_1 p490 q490
    have hw490_2 := hx490_2
    have hw490_1 := hx490_1
    have hw490_0 := hx490_0
    cases e490
    replace hx490_0 := zk HB.out hx490_0
    replace hx490_1 := zk HB.out hx490_1
    replace hx490_2 := zk HB.out hx490_2
    have HR490_0 := aM hi490_0
    have HC490_0 := aM hl490_0
    clear hi490_0 hl490_0
    replace p490 := eq_true p490
    replace q490 := eq_true q490
    refine start_ (n := 10) (S := fun w' => w'.cell? (ad489.add ((x5_1).toNat * 3)) = some (.slice A489_0 ((rd_T43 l0 x5_1).f0).length c489_0) ∧ w'.cell? ⟨(ad489.add ((x5_1).toNat * 3)).block, (ad489.add ((x5_1).toNat * 3)).off + 1, none⟩ = some (.int .i64 ((rd_T43 l0 x5_1).f1)) ∧ w'.cell? ⟨(ad489.add ((x5_1).toNat * 3)).block, (ad489.add ((x5_1).toNat * 3)).off + 2, none⟩ = some (.bool ((rd_T43 l0 x5_1).f2)) ∧ w'.cell? (ad490.add ((x5_1).toNat * 3)) = some (.slice A490_0 ((rd_T43 l1 x5_1).f0).length c490_0) ∧ w'.cell? ⟨(ad490.add ((x5_1).toNat * 3)).block, (ad490.add ((x5_1).toNat * 3)).off + 1, none⟩ = some (.int .i64 ((rd_T43 l1 x5_1).f1)) ∧ w'.cell? ⟨(ad490.add ((x5_1).toNat * 3)).block, (ad490.add ((x5_1).toNat * 3)).off + 2, none⟩ = some (.bool ((rd_T43 l1 x5_1).f2))) (ds := []) zA52 (by kernel_rfl) rfl rfl ⟨(zk HB.out hw489_0), (zk HB.out hw489_1), (zk HB.out hw489_2), (zk HB.out hw490_0), (zk HB.out hw490_1), (zk HB.out hw490_2)⟩ (fun hHeld => ?_); refine with_tabW laws_eqPieceS.tab6 laws_eqPieceS.bits6 (fun HT_ HW_ => ?_)
    generalize wr.drew = w11 at HB HR489_0 HR490_0 hx489_0 hx489_1 hx489_2 hx490_0 hx490_1 hx490_2 hHeld ⊢
    refine zp 0 (some 17) ?_ zA53 rfl rfl (Or.inl ⟨by rfl, ?_⟩) ?_ ?_ ?_
    rotate_left
    ·intro w'
     go_simp
     with_reducible rfl
    rotate_left
    ·simp only [Act.put, xA, xB, xC, i64_w, i32_w]
     rfl
    refine zp 1 (some 18) ?_ zA54 rfl rfl (Or.inl ⟨by rfl, ?_⟩) ?_ ?_ ?_
    rotate_left
    ·intro w'
     go_simp
     with_reducible rfl
    rotate_left
    ·simp only [Act.put, xA, xB, xC, i64_w, i32_w]
     rfl
    refine zp 2 (some 19) ?_ zA55 rfl rfl (Or.inl ⟨by rfl, ?_⟩) ?_ ?_ ?_
    rotate_left
    ·intro w'
     go_simp
     with_reducible rfl
    rotate_left
    ·simp only [Act.put, xA, xB, xC, i64_w, i32_w]
     rfl
    refine zp 4 (some 21) ?_ zA63 rfl rfl (Or.inl ⟨by rfl, ?_⟩) ?_ ?_ ?_
    rotate_left
    ·intro w'
     go_simp
     with_reducible rfl
    rotate_left
    ·simp only [Act.put, xA, xB, xC, i64_w, i32_w]
     rfl
    refine zp 5 (some 22) ?_ zA64 rfl rfl (Or.inl ⟨by rfl, ?_⟩) ?_ ?_ ?_
    rotate_left
    ·intro w'
     go_simp
     with_reducible rfl
    rotate_left
    ·simp only [Act.put, xA, xB, xC, i64_w, i32_w]
     rfl
    refine zp 6 (some 23) ?_ zA65 rfl rfl (Or.inl ⟨by rfl, ?_⟩) ?_ ?_ ?_
    rotate_left
    ·intro w'
     go_simp
     with_reducible rfl
    rotate_left
    ·simp only [Act.put, xA, xB, xC, i64_w, i32_w]
     rfl
    refine zu 3 (some 20) ?_ zA59 rfl rfl (Or.inl ⟨by rfl, ?_⟩) hHeld ?_ ?_ ?_
    rotate_left
    ·rintro w' ⟨s0, s1, s2, s3, s4, s5⟩
     go_simp
     with_reducible rfl
    rotate_left
    ·simp only [Act.put, xA, xB, xC, i64_w, i32_w]
     rfl
    refine zu 7 (some 24) ?_ zA60 rfl rfl (Or.inl ⟨by rfl, ?_⟩) hHeld ?_ ?_ ?_
    rotate_left
    ·rintro w' ⟨s0, s1, s2, s3, s4, s5⟩
     go_simp
     with_reducible rfl
    rotate_left
    ·simp only [Act.put, xA, xB, xC, i64_w, i32_w]
     rfl
    refine one_ (i := 8) (N := some 25) zA61 rfl rfl (one_of HT_.out (by kernel_rfl)) (by decide) (fun K hK => ?_)
    refine goes_ Tryz.func51 (by kernel_rfl) rfl #[.agg #[.slice A489_0 ((rd_T43 l0 x5_1).f0).length c489_0, .int .i64 ((rd_T43 l0 x5_1).f1), .bool ((rd_T43 l0 x5_1).f2)], .agg #[.slice A490_0 ((rd_T43 l1 x5_1).f0).length c490_0, .int .i64 ((rd_T43 l1 x5_1).f1), .bool ((rd_T43 l1 x5_1).f2)]] (by rfl) rfl rfl zm ?_
    with_reducible refine (laws_eqPiece.calls k1 _ _ ((rd_T43 l0 x5_1).f0) ((rd_T43 l0 x5_1).f1) ((rd_T43 l0 x5_1).f2) _ _ ((rd_T43 l1 x5_1).f0) ((rd_T43 l1 x5_1).f1) ((rd_T43 l1 x5_1).f2) false _ ?side1 ?side2 ?side3 ?side4 A7.out).mono ?_
    (case side1 => repeat (first | exact (Kd.C_below HR489_0.out HB.out) | (with_reducible refine Kd.C_alloc ?_ _) | (with_reducible refine Kd.C_drewN ?_ _) | (with_reducible refine Kd.C_drew ?_)))
    (case side2 => exact HC489_0.out)
    (case side3 => repeat (first | exact (Kd.C_below HR490_0.out HB.out) | (with_reducible refine Kd.C_alloc ?_ _) | (with_reducible refine Kd.C_drewN ?_ _) | (with_reducible refine Kd.C_drew ?_)))
    (case side4 => exact HC490_0.out)
    rintro e w12 ⟨rfl, hb⟩
    refine ⟨_, rfl, ?_⟩
    have n0_ := aM (below_step zb hb)
    clear HB
    have HB := n0_
    clear n0_
    (try clear hb)
    (try clear hb2)
    (try clear hk)
    (try clear hi)
    refine hK.out _ _ ⟨(zk HB.out hw489_0), (zk HB.out hw489_1), (zk HB.out hw489_2), (zk HB.out hw490_0), (zk HB.out hw490_1), (zk HB.out hw490_2)⟩ (fun hHeld => ?_)
    clear hK K
    refine norm_ (a' := ?_) ?_ ?_
    rotate_left
    ·show Act.put _ (some 25) _ = _
     simp only [Act.put, xA, xB, xC, i64_w, i32_w]
     rfl
    refine zp 9 (some 26) ?_ zA62 rfl rfl (Or.inl ⟨by rfl, ?_⟩) ?_ ?_ ?_
    rotate_left
    ·intro w'
     go_simp
     with_reducible rfl
    rotate_left
    ·simp only [Act.put, xA, xB, xC, i64_w, i32_w]
     rfl
    refine done_ (done_of HT_.out (by kernel_rfl)) ?_
    try go_wp2
    go_ret
    exact ⟨zw, zb⟩
   subst c8
   have H1 : (laws_eqPieceS.l0 k1 l0 l1 (wrap64 (x5_1 + 1))) = some r := by rw [if_pos rfl] at H; exact H
   clear H
   have H := H1
   clear H1
   have H' := aM H
   clear H
   try go_wp2
   have n0_ := aM (below_drew1 HB.out)
   clear HB
   have HB := n0_
   clear n0_
   have p489 : 0 ≤ (x5_1 : Int) := of_decide_eq_true za
   have q489 : x5_1 < (l0.length : Int) := of_decide_eq_true za
   obtain ⟨ad489, A489_0, c489_0, e489, hx489_0, hx489_1, hx489_2, hl489_0, hi489_0⟩ := at_T43 HR0.out x5_1 p489 q489
   have hw489_2 := hx489_2
   have hw489_1 := hx489_1
   have hw489_0 := hx489_0
   cases e489
   replace hx489_0 := zk HB.out hx489_0
   replace hx489_1 := zk HB.out hx489_1
   replace hx489_2 := zk HB.out hx489_2
   have HR489_0 := aM hi489_0
   have HC489_0 := aM hl489_0
   clear hi489_0 hl489_0
   replace p489 := eq_true p489
   replace q489 := eq_true q489
   have p490 : 0 ≤ (x5_1 : Int) := of_decide_eq_true za
   have q490 : x5_1 < (l1.length : Int) := of_decide_eq_true za
   obtain ⟨ad490, A490_0, c490_0, e490, hx490_0, hx490_1, hx490_2, hl490_0, hi490_0⟩ := at_T43 HR1.out x5_1 p490 q490
   have hw490_2 := hx490_2
   have hw490_1 := hx490_1
   have hw490_0 := hx490_0
   cases e490
   replace hx490_0 := zk HB.out hx490_0
   replace hx490_1 := zk HB.out hx490_1
   replace hx490_2 := zk HB.out hx490_2
   have HR490_0 := aM hi490_0
   have HC490_0 := aM hl490_0
   clear hi490_0 hl490_0
   replace p490 := eq_true p490
   replace q490 := eq_true q490
   refine start_ (n := 10) (S := fun w' => w'.cell? (ad489.add ((x5_1).toNat * 3)) = some (.slice A489_0 ((rd_T43 l0 x5_1).f0).length c489_0) ∧ w'.cell? ⟨(ad489.add ((x5_1).toNat * 3)).block, (ad489.add ((x5_1).toNat * 3)).off + 1, none⟩ = some (.int .i64 ((rd_T43 l0 x5_1).f1)) ∧ w'.cell? ⟨(ad489.add ((x5_1).toNat * 3)).block, (ad489.add ((x5_1).toNat * 3)).off + 2, none⟩ = some (.bool ((rd_T43 l0 x5_1).f2)) ∧ w'.cell? (ad490.add ((x5_1).toNat * 3)) = some (.slice A490_0 ((rd_T43 l1 x5_1).f0).length c490_0) ∧ w'.cell? ⟨(ad490.add ((x5_1).toNat * 3)).block, (ad490.add ((x5_1).toNat * 3)).off + 1, none⟩ = some (.int .i64 ((rd_T43 l1 x5_1).f1)) ∧ w'.cell? ⟨(ad490.add ((x5_1).toNat * 3)).block, (ad490.add ((x5_1).toNat * 3)).off + 2, none⟩ = some (.bool ((rd_T43 l1 x5_1).f2))) (ds := []) zA52 (by kernel_rfl) rfl rfl ⟨(zk HB.out hw489_0), (zk HB.out hw489_1), (zk HB.out hw489_2), (zk HB.out hw490_0), (zk HB.out hw490_1), (zk HB.out hw490_2)⟩ (fun hHeld => ?_); refine with_tabW laws_eqPieceS.tab6 laws_eqPieceS.bits6 (fun HT_ HW_ => ?_)
   generalize wr.drew = w9 at HB HR489_0 HR490_0 hx489_0 hx489_1 hx489_2 hx490_0 hx490_1 hx490_2 hHeld ⊢
   refine zp 0 (some 17) ?_ zA53 rfl rfl (Or.inl ⟨by rfl, ?_⟩) ?_ ?_ ?_
   rotate_left
   ·intro w'
    go_simp
    with_reducible rfl
   rotate_left
   ·simp only [Act.put, xA, xB, xC, i64_w, i32_w]
    rfl
   refine zp 1 (some 18) ?_ zA54 rfl rfl (Or.inl ⟨by rfl, ?_⟩) ?_ ?_ ?_
   rotate_left
   ·intro w'
    go_simp
    with_reducible rfl
   rotate_left
   ·simp only [Act.put, xA, xB, xC, i64_w, i32_w]
    rfl
   refine zp 2 (some 19) ?_ zA55 rfl rfl (Or.inl ⟨by rfl, ?_⟩) ?_ ?_ ?_
   rotate_left
   ·intro w'
    go_simp
    with_reducible rfl
   rotate_left
   ·simp only [Act.put, xA, xB, xC, i64_w, i32_w]
    rfl
   refine zp 4 (some 21) ?_ zA63 rfl rfl (Or.inl ⟨by rfl, ?_⟩) ?_ ?_ ?_
   rotate_left
   ·intro w'
    go_simp
    with_reducible rfl
   rotate_left
   ·simp only [Act.put, xA, xB, xC, i64_w, i32_w]
    rfl
   refine zp 5 (some 22) ?_ zA64 rfl rfl (Or.inl ⟨by rfl, ?_⟩) ?_ ?_ ?_
   rotate_left
   ·intro w'
    go_simp
    with_reducible rfl
   rotate_left
   ·simp only [Act.put, xA, xB, xC, i64_w, i32_w]
    rfl
   refine zp 6 (some 23) ?_ zA65 rfl rfl (Or.inl ⟨by rfl, ?_⟩) ?_ ?_ ?_
   rotate_left
   ·intro w'
    go_simp
    with_reducible rfl
   rotate_left
   ·simp only [Act.put, xA, xB, xC, i64_w, i32_w]
    rfl
   refine zu 3 (some 20) ?_ zA59 rfl rfl (Or.inl ⟨by rfl, ?_⟩) hHeld ?_ ?_ ?_
   rotate_left
   ·rintro w' ⟨s0, s1, s2, s3, s4, s5⟩
    go_simp
    with_reducible rfl
   rotate_left
   ·simp only [Act.put, xA, xB, xC, i64_w, i32_w]
    rfl
   refine zu 7 (some 24) ?_ zA60 rfl rfl (Or.inl ⟨by rfl, ?_⟩) hHeld ?_ ?_ ?_
   rotate_left
   ·rintro w' ⟨s0, s1, s2, s3, s4, s5⟩
    go_simp
    with_reducible rfl
   rotate_left
   ·simp only [Act.put, xA, xB, xC, i64_w, i32_w]
    rfl
   refine one_ (i := 8) (N := some 25) zA61 rfl rfl (one_of HT_.out (by kernel_rfl)) (by decide) (fun K hK => ?_)
   refine goes_ Tryz.func51 (by kernel_rfl) rfl #[.agg #[.slice A489_0 ((rd_T43 l0 x5_1).f0).length c489_0, .int .i64 ((rd_T43 l0 x5_1).f1), .bool ((rd_T43 l0 x5_1).f2)], .agg #[.slice A490_0 ((rd_T43 l1 x5_1).f0).length c490_0, .int .i64 ((rd_T43 l1 x5_1).f1), .bool ((rd_T43 l1 x5_1).f2)]] (by rfl) rfl rfl zm ?_
   with_reducible refine (laws_eqPiece.calls k1 _ _ ((rd_T43 l0 x5_1).f0) ((rd_T43 l0 x5_1).f1) ((rd_T43 l0 x5_1).f2) _ _ ((rd_T43 l1 x5_1).f0) ((rd_T43 l1 x5_1).f1) ((rd_T43 l1 x5_1).f2) true _ ?side1 ?side2 ?side3 ?side4 A7.out).mono ?_
   (case side1 => repeat (first | exact (Kd.C_below HR489_0.out HB.out) | (with_reducible refine Kd.C_alloc ?_ _) | (with_reducible refine Kd.C_drewN ?_ _) | (with_reducible refine Kd.C_drew ?_)))
   (case side2 => exact HC489_0.out)
   (case side3 => repeat (first | exact (Kd.C_below HR490_0.out HB.out) | (with_reducible refine Kd.C_alloc ?_ _) | (with_reducible refine Kd.C_drewN ?_ _) | (with_reducible refine Kd.C_drew ?_)))
   (case side4 => exact HC490_0.out)
   rintro e w10 ⟨rfl, hb⟩
   refine ⟨_, rfl, ?_⟩
   have n0_ := aM (below_step zb hb)
   clear HB
   have HB := n0_
   clear n0_
   (try clear hb)
   (try clear hb2)
   (try clear hk)
   (try clear hi)
   refine hK.out _ _ ⟨(zk HB.out hw489_0), (zk HB.out hw489_1), (zk HB.out hw489_2), (zk HB.out hw490_0), (zk HB.out hw490_1), (zk HB.out hw490_2)⟩ (fun hHeld => ?_)
   clear hK K
   refine norm_ (a' := ?_) ?_ ?_
   rotate_left
   ·show Act.put _ (some 25) _ = _
    simp only [Act.put, xA, xB, xC, i64_w, i32_w]
    rfl
   refine zp 9 (some 26) ?_ zA62 rfl rfl (Or.inl ⟨by rfl, ?_⟩) ?_ ?_ ?_
   rotate_left
   ·intro w'
    go_simp
    with_reducible rfl
   rotate_left
   ·simp only [Act.put, xA, xB, xC, i64_w, i32_w]
    rfl
   refine done_ (done_of HT_.out (by kernel_rfl)) ?_
   try go_wp2
   go_roundg k1
   case measure => have := HK1.out; omega
   case rel => exact ⟨(wrap64 (x5_1 + 1)), zr, H', ⟨by have := HK1.out; omega⟩, ⟨zb⟩⟩
def laws_eqPuzzle.f (k : Nat) (l0_0 : List (S58)) (l0_1 : List (S43)) (l1_0 : List (S58)) (l1_1 : List (S43)) : Option (Bool) := (laws_eqCellS.f k l0_0 l1_0).bind fun t494 => (if t494 = true then ((laws_eqPieceS.f k l0_1 l1_1).bind fun t495 => (if t495 = true then (some true) else (some false))) else (some false))
theorem laws_eqPuzzle.calls (k : Nat) (A0_0 : Option Addr) (c0_0 : Nat) (l0_0 : List (S58)) (A0_1 : Option Addr) (c0_1 : Nat) (l0_1 : List (S43)) (A1_0 : Option Addr) (c1_0 : Nat) (l1_0 : List (S58)) (A1_1 : Option Addr) (c1_1 : Nat) (l1_1 : List (S43)) (r : Bool) (w : World) (hr0_0 : Kd.C k58 w A0_0 l0_0.length l0_0) (hc0_0 : l0_0.length ≤ c0_0) (hr0_1 : Kd.C k43 w A0_1 l0_1.length l0_1) (hc0_1 : l0_1.length ≤ c0_1) (hr1_0 : Kd.C k58 w A1_0 l1_0.length l1_0) (hc1_0 : l1_0.length ≤ c1_0) (hr1_1 : Kd.C k43 w A1_1 l1_1.length l1_1) (hc1_1 : l1_1.length ≤ c1_1) (h : laws_eqPuzzle.f k l0_0 l0_1 l1_0 l1_1 = some r) :
  Calls Tryz.prog 10 #[.agg #[.slice A0_0 l0_0.length c0_0, .slice A0_1 l0_1.length c0_1], .agg #[.slice A1_0 l1_0.length c1_0, .slice A1_1 l1_1.length c1_1]] w fun e w' => e = .returned (.bool r) ∧ Below w.heap.size w w' := by
 have hu31 := Tryz.underlying31
 have HR0_0 := aM hr0_0
 have HC0_0 := aM hc0_0
 clear hr0_0 hc0_0
 have HR0_1 := aM hr0_1
 have HC0_1 := aM hc0_1
 clear hr0_1 hc0_1
 have HR1_0 := aM hr1_0
 have HC1_0 := aM hc1_0
 clear hr1_0 hc1_0
 have HR1_1 := aM hr1_1
 have HC1_1 := aM hc1_1
 clear hr1_1 hc1_1
 have HB := aM (Below.refl w.heap.size w)
 have H : ((laws_eqCellS.f k l0_0 l1_0).bind fun t494 => (if t494 = true then ((laws_eqPieceS.f k l0_1 l1_1).bind fun t495 => (if t495 = true then (some true) else (some false))) else (some false))) = some r := h
 clear h
 replace H := Option.bind_eq_some_iff.mp H
 obtain ⟨t494, A30, H⟩ := H
 replace H : (if t494 = true then ((laws_eqPieceS.f k l0_1 l1_1).bind fun t495 => (if t495 = true then (some true) else (some false))) else (some false)) = some r := H
 have A3 := aM A30
 clear A30
 by_cases c4 : t494 = true
 rotate_left
 ·replace c4 := Bool.eq_false_iff.mpr c4
  subst c4
  have H1 : (some false) = some r := by rw [if_neg (show ¬ (false = true) by decide)] at H; exact H
  clear H
  have H := H1
  clear H1
  obtain rfl := Option.some.inj H
  go_enter Tryz.func10, Tryz.ntmps10
  go_wp2_with (first | ((with_reducible refine gate_dst (N := 2) rfl ?_); refine zx 2 #[.slice A0_0 l0_0.length c0_0, .slice A0_1 l0_1.length c0_1] 31 ?_; intro gb492 hg w25 hbox hb; have n0_ := aM (below_step zb hb); have n1_ := aM (hbox); have n2_ := aM ((ze : w.heap.size ≤ gb492)); have n3_ := aM ((ze : w.heap.size ≤ gb492)); clear HB; have HB := n0_; have BK492 := n1_; have GW492 := n2_; have GE492 := n3_; clear n0_ n1_ n2_ n3_; clear hb hbox hg) | ((with_reducible refine gate_dst (N := 3) rfl ?_); refine zx 3 #[.slice A1_0 l1_0.length c1_0, .slice A1_1 l1_1.length c1_1] 31 ?_; intro gb493 hg w26 hbox hb; have n0_ := aM (blk_below (g := gb492) (o := .cells #[.slice A0_0 l0_0.length c0_0, .slice A0_1 l0_1.length c0_1] 31 (0, 0)) (mB_ BK492.out) hb); have n1_ := aM (below_step (zs GE492.out) hb); have n2_ := aM (hbox); have n3_ := aM ((zf GE492.out : w.heap.size ≤ gb493)); have n4_ := aM ((zf GE492.out : w.heap.size ≤ gb493)); have n5_ := aM ((zl BK492.out : gb492 ≠ gb493)); have n6_ := aM ((zn BK492.out : gb493 ≠ gb492)); clear BK492 HB; have BK492 := n0_; have HB := n1_; have BK493 := n2_; have GW493 := n3_; have GE493 := n4_; have NB492_493 := n5_; have NB493_492 := n6_; clear n0_ n1_ n2_ n3_ n4_ n5_ n6_ hb hbox hg; have hnb27 := NB492_493.out; have hnc27 := NB493_492.out; have hcz28_0 : w26.cell? ⟨gb492, 0, none⟩ = some (.slice A0_0 l0_0.length c0_0) := (blk_cell BK492.out 0).trans rfl; have hcz28_1 : w26.cell? ⟨gb492, 1, none⟩ = some (.slice A0_1 l0_1.length c0_1) := (blk_cell BK492.out 1).trans rfl; have hfz28_0 := blk_frozen BK492.out 0; have hfz28_1 := blk_frozen BK492.out 1; have hcz29_0 : w26.cell? ⟨gb493, 0, none⟩ = some (.slice A1_0 l1_0.length c1_0) := (blk_cell BK493.out 0).trans rfl; have hcz29_1 : w26.cell? ⟨gb493, 1, none⟩ = some (.slice A1_1 l1_1.length c1_1) := (blk_cell BK493.out 1).trans rfl; have hfz29_0 := blk_frozen BK493.out 0; have hfz29_1 := blk_frozen BK493.out 1) | ((with_reducible refine gate_callee (f := 26) rfl ?_); refine goesL_ (some 9) rfl rfl Tryz.func26 (by kernel_rfl) rfl #[.slice A0_0 l0_0.length c0_0, .slice A1_0 l1_0.length c1_0] rfl zm ?_; (with_reducible refine (laws_eqCellS.calls k _ _ l0_0 _ _ l1_0 false _ ?side1 ?side2 ?side3 ?side4 A3.out).mono ?_); (case side1 => repeat (first | exact (Kd.C_below HR0_0.out HB.out) | (with_reducible refine Kd.C_alloc ?_ _) | (with_reducible refine Kd.C_drewN ?_ _) | (with_reducible refine Kd.C_drew ?_))); (case side2 => exact HC0_0.out); (case side3 => repeat (first | exact (Kd.C_below HR1_0.out HB.out) | (with_reducible refine Kd.C_alloc ?_ _) | (with_reducible refine Kd.C_drewN ?_ _) | (with_reducible refine Kd.C_drew ?_))); (case side4 => exact HC1_0.out); rintro e w30 ⟨rfl, hb⟩; refine ⟨_, rfl, ?_⟩; have n0_ := aM (blk_below (g := gb492) (o := .cells #[.slice A0_0 l0_0.length c0_0, .slice A0_1 l0_1.length c0_1] 31 (0, 0)) (mB_ BK492.out) hb); have n1_ := aM (blk_below (g := gb493) (o := .cells #[.slice A1_0 l1_0.length c1_0, .slice A1_1 l1_1.length c1_1] 31 (0, 0)) (mB_ BK493.out) hb); have n2_ := aM (below_step (zt GE492.out GE493.out) hb); clear BK492 BK493 HB; have BK492 := n0_; have BK493 := n1_; have HB := n2_; clear n0_ n1_ n2_; (try clear hb); (try clear hb2); (try clear hk); (try clear hi)))
  go_ret
  exact ⟨zw, zt GE492.out GE493.out⟩
 subst c4
 have H1 : ((laws_eqPieceS.f k l0_1 l1_1).bind fun t495 => (if t495 = true then (some true) else (some false))) = some r := by rw [if_pos rfl] at H; exact H
 clear H
 have H := H1
 clear H1
 replace H := Option.bind_eq_some_iff.mp H
 obtain ⟨t495, A50, H⟩ := H
 replace H : (if t495 = true then (some true) else (some false)) = some r := H
 have A5 := aM A50
 clear A50
 by_cases c6 : t495 = true
 ·subst c6
  have H1 : (some true) = some r := by rw [if_pos rfl] at H; exact H
  clear H
  have H := H1
  clear H1
  obtain rfl := Option.some.inj H
  go_enter Tryz.func10, Tryz.ntmps10
  go_wp2_with (first | ((with_reducible refine gate_dst (N := 2) rfl ?_); refine zx 2 #[.slice A0_0 l0_0.length c0_0, .slice A0_1 l0_1.length c0_1] 31 ?_; intro gb492 hg w7 hbox hb; have n0_ := aM (below_step zb hb); have n1_ := aM (hbox); have n2_ := aM ((ze : w.heap.size ≤ gb492)); have n3_ := aM ((ze : w.heap.size ≤ gb492)); clear HB; have HB := n0_; have BK492 := n1_; have GW492 := n2_; have GE492 := n3_; clear n0_ n1_ n2_ n3_; clear hb hbox hg) | ((with_reducible refine gate_dst (N := 3) rfl ?_); refine zx 3 #[.slice A1_0 l1_0.length c1_0, .slice A1_1 l1_1.length c1_1] 31 ?_; intro gb493 hg w8 hbox hb; have n0_ := aM (blk_below (g := gb492) (o := .cells #[.slice A0_0 l0_0.length c0_0, .slice A0_1 l0_1.length c0_1] 31 (0, 0)) (mB_ BK492.out) hb); have n1_ := aM (below_step (zs GE492.out) hb); have n2_ := aM (hbox); have n3_ := aM ((zf GE492.out : w.heap.size ≤ gb493)); have n4_ := aM ((zf GE492.out : w.heap.size ≤ gb493)); have n5_ := aM ((zl BK492.out : gb492 ≠ gb493)); have n6_ := aM ((zn BK492.out : gb493 ≠ gb492)); clear BK492 HB; have BK492 := n0_; have HB := n1_; have BK493 := n2_; have GW493 := n3_; have GE493 := n4_; have NB492_493 := n5_; have NB493_492 := n6_; clear n0_ n1_ n2_ n3_ n4_ n5_ n6_ hb hbox hg; have hnb9 := NB492_493.out; have hnc9 := NB493_492.out; have hcz10_0 : w8.cell? ⟨gb492, 0, none⟩ = some (.slice A0_0 l0_0.length c0_0) := (blk_cell BK492.out 0).trans rfl; have hcz10_1 : w8.cell? ⟨gb492, 1, none⟩ = some (.slice A0_1 l0_1.length c0_1) := (blk_cell BK492.out 1).trans rfl; have hfz10_0 := blk_frozen BK492.out 0; have hfz10_1 := blk_frozen BK492.out 1; have hcz11_0 : w8.cell? ⟨gb493, 0, none⟩ = some (.slice A1_0 l1_0.length c1_0) := (blk_cell BK493.out 0).trans rfl; have hcz11_1 : w8.cell? ⟨gb493, 1, none⟩ = some (.slice A1_1 l1_1.length c1_1) := (blk_cell BK493.out 1).trans rfl; have hfz11_0 := blk_frozen BK493.out 0; have hfz11_1 := blk_frozen BK493.out 1) | ((with_reducible refine gate_callee (f := 26) rfl ?_); refine goesL_ (some 9) rfl rfl Tryz.func26 (by kernel_rfl) rfl #[.slice A0_0 l0_0.length c0_0, .slice A1_0 l1_0.length c1_0] rfl zm ?_; (with_reducible refine (laws_eqCellS.calls k _ _ l0_0 _ _ l1_0 true _ ?side1 ?side2 ?side3 ?side4 A3.out).mono ?_); (case side1 => repeat (first | exact (Kd.C_below HR0_0.out HB.out) | (with_reducible refine Kd.C_alloc ?_ _) | (with_reducible refine Kd.C_drewN ?_ _) | (with_reducible refine Kd.C_drew ?_))); (case side2 => exact HC0_0.out); (case side3 => repeat (first | exact (Kd.C_below HR1_0.out HB.out) | (with_reducible refine Kd.C_alloc ?_ _) | (with_reducible refine Kd.C_drewN ?_ _) | (with_reducible refine Kd.C_drew ?_))); (case side4 => exact HC1_0.out); rintro e w12 ⟨rfl, hb⟩; refine ⟨_, rfl, ?_⟩; have n0_ := aM (blk_below (g := gb492) (o := .cells #[.slice A0_0 l0_0.length c0_0, .slice A0_1 l0_1.length c0_1] 31 (0, 0)) (mB_ BK492.out) hb); have n1_ := aM (blk_below (g := gb493) (o := .cells #[.slice A1_0 l1_0.length c1_0, .slice A1_1 l1_1.length c1_1] 31 (0, 0)) (mB_ BK493.out) hb); have n2_ := aM (below_step (zt GE492.out GE493.out) hb); clear BK492 BK493 HB; have BK492 := n0_; have BK493 := n1_; have HB := n2_; clear n0_ n1_ n2_; (try clear hb); (try clear hb2); (try clear hk); (try clear hi); have hcz13_0 : w12.cell? ⟨gb492, 0, none⟩ = some (.slice A0_0 l0_0.length c0_0) := (blk_cell BK492.out 0).trans rfl; have hcz13_1 : w12.cell? ⟨gb492, 1, none⟩ = some (.slice A0_1 l0_1.length c0_1) := (blk_cell BK492.out 1).trans rfl; have hfz13_0 := blk_frozen BK492.out 0; have hfz13_1 := blk_frozen BK492.out 1; have hcz14_0 : w12.cell? ⟨gb493, 0, none⟩ = some (.slice A1_0 l1_0.length c1_0) := (blk_cell BK493.out 0).trans rfl; have hcz14_1 : w12.cell? ⟨gb493, 1, none⟩ = some (.slice A1_1 l1_1.length c1_1) := (blk_cell BK493.out 1).trans rfl; have hfz14_0 := blk_frozen BK493.out 0; have hfz14_1 := blk_frozen BK493.out 1) | ((with_reducible refine gate_callee (f := 27) rfl ?_); refine goesL_ (some 15) rfl rfl Tryz.func27 (by kernel_rfl) rfl #[.slice A0_1 l0_1.length c0_1, .slice A1_1 l1_1.length c1_1] rfl zm ?_; (with_reducible refine (laws_eqPieceS.calls k _ _ l0_1 _ _ l1_1 true _ ?side1 ?side2 ?side3 ?side4 A5.out).mono ?_); (case side1 => repeat (first | exact (Kd.C_below HR0_1.out HB.out) | (with_reducible refine Kd.C_alloc ?_ _) | (with_reducible refine Kd.C_drewN ?_ _) | (with_reducible refine Kd.C_drew ?_))); (case side2 => exact HC0_1.out); (case side3 => repeat (first | exact (Kd.C_below HR1_1.out HB.out) | (with_reducible refine Kd.C_alloc ?_ _) | (with_reducible refine Kd.C_drewN ?_ _) | (with_reducible refine Kd.C_drew ?_))); (case side4 => exact HC1_1.out); rintro e w15 ⟨rfl, hb⟩; refine ⟨_, rfl, ?_⟩; have n0_ := aM (blk_below (g := gb492) (o := .cells #[.slice A0_0 l0_0.length c0_0, .slice A0_1 l0_1.length c0_1] 31 (0, 0)) (mB_ BK492.out) hb); have n1_ := aM (blk_below (g := gb493) (o := .cells #[.slice A1_0 l1_0.length c1_0, .slice A1_1 l1_1.length c1_1] 31 (0, 0)) (mB_ BK493.out) hb); have n2_ := aM (below_step (zt GE492.out GE493.out) hb); clear BK492 BK493 HB; have BK492 := n0_; have BK493 := n1_; have HB := n2_; clear n0_ n1_ n2_; (try clear hb); (try clear hb2); (try clear hk); (try clear hi)))
  go_ret
  exact ⟨zw, zt GE492.out GE493.out⟩
 replace c6 := Bool.eq_false_iff.mpr c6
 subst c6
 have H1 : (some false) = some r := by rw [if_neg (show ¬ (false = true) by decide)] at H; exact H
 clear H
 have H := H1
 clear H1
 obtain rfl := Option.some.inj H
 go_enter Tryz.func10, Tryz.ntmps10
 go_wp2_with (first | ((with_reducible refine gate_dst (N := 2) rfl ?_); refine zx 2 #[.slice A0_0 l0_0.length c0_0, .slice A0_1 l0_1.length c0_1] 31 ?_; intro gb492 hg w16 hbox hb; have n0_ := aM (below_step zb hb); have n1_ := aM (hbox); have n2_ := aM ((ze : w.heap.size ≤ gb492)); have n3_ := aM ((ze : w.heap.size ≤ gb492)); clear HB; have HB := n0_; have BK492 := n1_; have GW492 := n2_; have GE492 := n3_; clear n0_ n1_ n2_ n3_; clear hb hbox hg) | ((with_reducible refine gate_dst (N := 3) rfl ?_); refine zx 3 #[.slice A1_0 l1_0.length c1_0, .slice A1_1 l1_1.length c1_1] 31 ?_; intro gb493 hg w17 hbox hb; have n0_ := aM (blk_below (g := gb492) (o := .cells #[.slice A0_0 l0_0.length c0_0, .slice A0_1 l0_1.length c0_1] 31 (0, 0)) (mB_ BK492.out) hb); have n1_ := aM (below_step (zs GE492.out) hb); have n2_ := aM (hbox); have n3_ := aM ((zf GE492.out : w.heap.size ≤ gb493)); have n4_ := aM ((zf GE492.out : w.heap.size ≤ gb493)); have n5_ := aM ((zl BK492.out : gb492 ≠ gb493)); have n6_ := aM ((zn BK492.out : gb493 ≠ gb492)); clear BK492 HB; have BK492 := n0_; have HB := n1_; have BK493 := n2_; have GW493 := n3_; have GE493 := n4_; have NB492_493 := n5_; have NB493_492 := n6_; clear n0_ n1_ n2_ n3_ n4_ n5_ n6_ hb hbox hg; have hnb18 := NB492_493.out; have hnc18 := NB493_492.out; have hcz19_0 : w17.cell? ⟨gb492, 0, none⟩ = some (.slice A0_0 l0_0.length c0_0) := (blk_cell BK492.out 0).trans rfl; have hcz19_1 : w17.cell? ⟨gb492, 1, none⟩ = some (.slice A0_1 l0_1.length c0_1) := (blk_cell BK492.out 1).trans rfl; have hfz19_0 := blk_frozen BK492.out 0; have hfz19_1 := blk_frozen BK492.out 1; have hcz20_0 : w17.cell? ⟨gb493, 0, none⟩ = some (.slice A1_0 l1_0.length c1_0) := (blk_cell BK493.out 0).trans rfl; have hcz20_1 : w17.cell? ⟨gb493, 1, none⟩ = some (.slice A1_1 l1_1.length c1_1) := (blk_cell BK493.out 1).trans rfl; have hfz20_0 := blk_frozen BK493.out 0; have hfz20_1 := blk_frozen BK493.out 1) | ((with_reducible refine gate_callee (f := 26) rfl ?_); refine goesL_ (some 9) rfl rfl Tryz.func26 (by kernel_rfl) rfl #[.slice A0_0 l0_0.length c0_0, .slice A1_0 l1_0.length c1_0] rfl zm ?_; (with_reducible refine (laws_eqCellS.calls k _ _ l0_0 _ _ l1_0 true _ ?side1 ?side2 ?side3 ?side4 A3.out).mono ?_); (case side1 => repeat (first | exact (Kd.C_below HR0_0.out HB.out) | (with_reducible refine Kd.C_alloc ?_ _) | (with_reducible refine Kd.C_drewN ?_ _) | (with_reducible refine Kd.C_drew ?_))); (case side2 => exact HC0_0.out); (case side3 => repeat (first | exact (Kd.C_below HR1_0.out HB.out) | (with_reducible refine Kd.C_alloc ?_ _) | (with_reducible refine Kd.C_drewN ?_ _) | (with_reducible refine Kd.C_drew ?_))); (case side4 => exact HC1_0.out); rintro e w21 ⟨rfl, hb⟩; refine ⟨_, rfl, ?_⟩; have n0_ := aM (blk_below (g := gb492) (o := .cells #[.slice A0_0 l0_0.length c0_0, .slice A0_1 l0_1.length c0_1] 31 (0, 0)) (mB_ BK492.out) hb); have n1_ := aM (blk_below (g := gb493) (o := .cells #[.slice A1_0 l1_0.length c1_0, .slice A1_1 l1_1.length c1_1] 31 (0, 0)) (mB_ BK493.out) hb); have n2_ := aM (below_step (zt GE492.out GE493.out) hb); clear BK492 BK493 HB; have BK492 := n0_; have BK493 := n1_; have HB := n2_; clear n0_ n1_ n2_; (try clear hb); (try clear hb2); (try clear hk); (try clear hi); have hcz22_0 : w21.cell? ⟨gb492, 0, none⟩ = some (.slice A0_0 l0_0.length c0_0) := (blk_cell BK492.out 0).trans rfl; have hcz22_1 : w21.cell? ⟨gb492, 1, none⟩ = some (.slice A0_1 l0_1.length c0_1) := (blk_cell BK492.out 1).trans rfl; have hfz22_0 := blk_frozen BK492.out 0; have hfz22_1 := blk_frozen BK492.out 1; have hcz23_0 : w21.cell? ⟨gb493, 0, none⟩ = some (.slice A1_0 l1_0.length c1_0) := (blk_cell BK493.out 0).trans rfl; have hcz23_1 : w21.cell? ⟨gb493, 1, none⟩ = some (.slice A1_1 l1_1.length c1_1) := (blk_cell BK493.out 1).trans rfl; have hfz23_0 := blk_frozen BK493.out 0; have hfz23_1 := blk_frozen BK493.out 1) | ((with_reducible refine gate_callee (f := 27) rfl ?_); refine goesL_ (some 15) rfl rfl Tryz.func27 (by kernel_rfl) rfl #[.slice A0_1 l0_1.length c0_1, .slice A1_1 l1_1.length c1_1] rfl zm ?_; (with_reducible refine (laws_eqPieceS.calls k _ _ l0_1 _ _ l1_1 false _ ?side1 ?side2 ?side3 ?side4 A5.out).mono ?_); (case side1 => repeat (first | exact (Kd.C_below HR0_1.out HB.out) | (with_reducible refine Kd.C_alloc ?_ _) | (with_reducible refine Kd.C_drewN ?_ _) | (with_reducible refine Kd.C_drew ?_))); (case side2 => exact HC0_1.out); (case side3 => repeat (first | exact (Kd.C_below HR1_1.out HB.out) | (with_reducible refine Kd.C_alloc ?_ _) | (with_reducible refine Kd.C_drewN ?_ _) | (with_reducible refine Kd.C_drew ?_))); (case side4 => exact HC1_1.out); rintro e w24 ⟨rfl, hb⟩; refine ⟨_, rfl, ?_⟩; have n0_ := aM (blk_below (g := gb492) (o := .cells #[.slice A0_0 l0_0.length c0_0, .slice A0_1 l0_1.length c0_1] 31 (0, 0)) (mB_ BK492.out) hb); have n1_ := aM (blk_below (g := gb493) (o := .cells #[.slice A1_0 l1_0.length c1_0, .slice A1_1 l1_1.length c1_1] 31 (0, 0)) (mB_ BK493.out) hb); have n2_ := aM (below_step (zt GE492.out GE493.out) hb); clear BK492 BK493 HB; have BK492 := n0_; have BK493 := n1_; have HB := n2_; clear n0_ n1_ n2_; (try clear hb); (try clear hb2); (try clear hk); (try clear hi)))
 go_ret
 exact ⟨zw, zt GE492.out GE493.out⟩
def spec_l11Area.l0 : Nat → Int → Int → List (S58) → List (S43) → Option (Int)
 | 0, _, _, _, _ => none
 | k + 1, x3, x4, x521000, x521001 => if x4 < (x521001.length : Int) then (if 0 ≤ x4 then (spec_l11Area.l0 k (wrap64 (x3 + (wrap64 (((rd_T43 x521001 x4).f1) * (((rd_T43 x521001 x4).f0).length : Int))))) (wrap64 (x4 + 1)) x521000 x521001) else (none)) else (some x3)
def spec_l11Area.f (k : Nat) (l0_0 : List (S58)) (l0_1 : List (S43)) : Option (Int) := spec_l11Area.l0 k 0 0 l0_0 l0_1
theorem spec_l11Area.calls (k : Nat) (A0_0 : Option Addr) (c0_0 : Nat) (l0_0 : List (S58)) (A0_1 : Option Addr) (c0_1 : Nat) (l0_1 : List (S43)) (r : Int) (w : World) (hr0_0 : Kd.C k58 w A0_0 l0_0.length l0_0) (hc0_0 : l0_0.length ≤ c0_0) (hr0_1 : Kd.C k43 w A0_1 l0_1.length l0_1) (hc0_1 : l0_1.length ≤ c0_1) (h : spec_l11Area.f k l0_0 l0_1 = some r) :
  Calls Tryz.prog 28 #[.agg #[.slice A0_0 l0_0.length c0_0, .slice A0_1 l0_1.length c0_1]] w fun e w' => e = .returned (.int .i64 r) ∧ Below w.heap.size w w' := by
 have hu31 := Tryz.underlying31
 have HR0_0 := aM hr0_0
 have HC0_0 := aM hc0_0
 clear hr0_0 hc0_0
 have HR0_1 := aM hr0_1
 have HC0_1 := aM hc0_1
 clear hr0_1 hc0_1
 have HB := aM (Below.refl w.heap.size w)
 have H : (spec_l11Area.l0 k 0 0 l0_0 l0_1) = some r := h
 clear h
 have H' := aM H
 clear H
 go_enter Tryz.func28, Tryz.ntmps28
 go_wp2_with (first | ((with_reducible refine gate_dst (N := 1) rfl ?_); refine zx 1 #[.slice A0_0 l0_0.length c0_0, .slice A0_1 l0_1.length c0_1] 31 ?_; intro gb520 hg w2 hbox hb; have n0_ := aM (below_step zb hb); have n1_ := aM (hbox); have n2_ := aM ((ze : w.heap.size ≤ gb520)); have n3_ := aM ((ze : w.heap.size ≤ gb520)); clear HB; have HB := n0_; have BK520 := n1_; have GW520 := n2_; have GE520 := n3_; clear n0_ n1_ n2_ n3_; clear hb hbox hg))
 repeat (go_quiet (first | ((with_reducible refine gate_dst (N := 1) rfl ?_); refine zx 1 #[.slice A0_0 l0_0.length c0_0, .slice A0_1 l0_1.length c0_1] 31 ?_; intro gb520 hg w2 hbox hb; have n0_ := aM (below_step zb hb); have n1_ := aM (hbox); have n2_ := aM ((ze : w.heap.size ≤ gb520)); have n3_ := aM ((ze : w.heap.size ≤ gb520)); clear HB; have HB := n0_; have BK520 := n1_; have GW520 := n2_; have GE520 := n3_; clear n0_ n1_ n2_ n3_; clear hb hbox hg)); try go_wp2_with (first | ((with_reducible refine gate_dst (N := 1) rfl ?_); refine zx 1 #[.slice A0_0 l0_0.length c0_0, .slice A0_1 l0_1.length c0_1] 31 ?_; intro gb520 hg w2 hbox hb; have n0_ := aM (below_step zb hb); have n1_ := aM (hbox); have n2_ := aM ((ze : w.heap.size ≤ gb520)); have n3_ := aM ((ze : w.heap.size ≤ gb520)); clear HB; have HB := n0_; have BK520 := n1_; have GW520 := n2_; have GE520 := n3_; clear n0_ n1_ n2_ n3_; clear hb hbox hg)))
 go_loopg [3, 4] k (fun kq v3 v4 w' => ∃ (x3_1 : Int) (x4_1 : Int), v3 = .int .i64 x3_1 ∧ v4 = .int .i64 x4_1 ∧ Aside0 (spec_l11Area.l0 kq x3_1 x4_1 l0_0 l0_1 = some r) ∧ Aside0 (kq ≤ k) ∧ Aside0 (w'.heap[gb520]? = some (.cells #[(.slice A0_0 l0_0.length c0_0), (.slice A0_1 l0_1.length c0_1)] 31 (0, 0))) ∧ Aside0 (Below w.heap.size w w'))
 case atStart => exact ⟨(0), (0), zr, zr, H', ⟨Nat.le_refl _⟩, ⟨mB_ BK520.out⟩, ⟨zs GE520.out⟩⟩
 case round =>
  clear H'
  try clear c2
  try clear p2
  obtain ⟨x3_1, x4_1, rfl, rfl, HA, HK1, BK520, HB⟩ := hrel
  cases gk with
  | zero => exact absurd HA.out (by simp [spec_l11Area.l0])
  | succ k1 =>
   have H := HA.out
   clear HA
   simp only [spec_l11Area.l0] at H
   by_cases c3 : x4_1 < (l0_1.length : Int)
   rotate_left
   ·rw [if_neg c3] at H
    have c3b0 : decide (x4_1 < (l0_1.length : Int)) = false := decide_eq_false c3
    clear c3
    obtain rfl := Option.some.inj H
    have hcz6_0 : wr.cell? ⟨gb520, 0, none⟩ = some (.slice A0_0 l0_0.length c0_0) := (blk_cell BK520.out 0).trans rfl
    have hcz6_1 : wr.cell? ⟨gb520, 1, none⟩ = some (.slice A0_1 l0_1.length c0_1) := (blk_cell BK520.out 1).trans rfl
    have hfz6_0 := blk_frozen BK520.out 0
    have hfz6_1 := blk_frozen BK520.out 1
    go_wp2
    repeat (go_quiet (fail); try go_wp2)
    go_ret
    exact ⟨zw, zs GE520.out⟩
   rw [if_pos c3] at H
   have c3b0 : decide (x4_1 < (l0_1.length : Int)) = true := decide_eq_true c3
   clear c3
   by_cases c4 : 0 ≤ x4_1
   rotate_left
   ·rw [if_neg c4] at H
    exact absurd H (by simp)
   rw [if_pos c4] at H
   have c4b0 : decide (0 ≤ x4_1) = true := decide_eq_true c4
   clear c4
   have H' := aM H
   clear H
   have hcz5_0 : wr.cell? ⟨gb520, 0, none⟩ = some (.slice A0_0 l0_0.length c0_0) := (blk_cell BK520.out 0).trans rfl
   have hcz5_1 : wr.cell? ⟨gb520, 1, none⟩ = some (.slice A0_1 l0_1.length c0_1) := (blk_cell BK520.out 1).trans rfl
   have hfz5_0 := blk_frozen BK520.out 0
   have hfz5_1 := blk_frozen BK520.out 1
   have p521 : 0 ≤ (x4_1 : Int) := of_decide_eq_true za
   have q521 : x4_1 < (l0_1.length : Int) := of_decide_eq_true za
   obtain ⟨ad521, A521_0, c521_0, e521, hx521_0, hx521_1, hx521_2, hl521_0, hi521_0⟩ := at_T43 HR0_1.out x4_1 p521 q521
   cases e521
   replace hx521_0 := zk HB.out hx521_0
   replace hx521_1 := zk HB.out hx521_1
   replace hx521_2 := zk HB.out hx521_2
   have HR521_0 := aM hi521_0
   have HC521_0 := aM hl521_0
   clear hi521_0 hl521_0
   replace p521 := eq_true p521
   replace q521 := eq_true q521
   have p522 : 0 ≤ (x4_1 : Int) := of_decide_eq_true za
   have q522 : x4_1 < (l0_1.length : Int) := of_decide_eq_true za
   obtain ⟨ad522, A522_0, c522_0, e522, hx522_0, hx522_1, hx522_2, hl522_0, hi522_0⟩ := at_T43 HR0_1.out x4_1 p522 q522
   obtain rfl : ad521 = ad522 := (by injection e522)
   replace hx522_0 := zk HB.out hx522_0
   replace hx522_1 := zk HB.out hx522_1
   replace hx522_2 := zk HB.out hx522_2
   have HR522_0 := aM hi522_0
   have HC522_0 := aM hl522_0
   clear hi522_0 hl522_0
   replace p522 := eq_true p522
   replace q522 := eq_true q522
   have ea_ := Option.some.inj (hx521_0.symm.trans hx522_0)
   injection ea_ with ea_ en_ ec_
   subst ea_
   subst ec_
   clear en_
   go_wp2
   repeat (go_quiet (fail); try go_wp2)
   go_roundg k1
   case measure => have := HK1.out; omega
   case rel => exact ⟨(wrap64 (x3_1 + (wrap64 (((rd_T43 l0_1 x4_1).f1) * (((rd_T43 l0_1 x4_1).f0).length : Int))))), (wrap64 (x4_1 + 1)), zr, zr, H', ⟨by have := HK1.out; omega⟩, ⟨mB_ BK520.out⟩, ⟨zs GE520.out⟩⟩
def impl_pieceArea.l0 : Nat → Int → List (S43) → Int → Int → Option (Int)
 | 0, _, _, _, _ => none
 | k + 1, x3, x7, x8, x9 => if x9 < x8 then (if 0 ≤ x9 then (if x9 < (x7.length : Int) then (impl_pieceArea.l0 k (wrap64 (x3 + (wrap64 (((rd_T43 x7 x9).f1) * (((rd_T43 x7 x9).f0).length : Int))))) x7 x8 (wrap64 (x9 + 1))) else (none)) else (none)) else (some x3)
def impl_pieceArea.f (k : Nat) (l0_0 : List (S58)) (l0_1 : List (S43)) : Option (Int) := impl_pieceArea.l0 k 0 l0_1 (l0_1.length : Int) 0
theorem impl_pieceArea.calls (k : Nat) (A0_0 : Option Addr) (c0_0 : Nat) (l0_0 : List (S58)) (A0_1 : Option Addr) (c0_1 : Nat) (l0_1 : List (S43)) (r : Int) (w : World) (hr0_0 : Kd.C k58 w A0_0 l0_0.length l0_0) (hc0_0 : l0_0.length ≤ c0_0) (hr0_1 : Kd.C k43 w A0_1 l0_1.length l0_1) (hc0_1 : l0_1.length ≤ c0_1) (h : impl_pieceArea.f k l0_0 l0_1 = some r) :
  Calls Tryz.prog 29 #[.agg #[.slice A0_0 l0_0.length c0_0, .slice A0_1 l0_1.length c0_1]] w fun e w' => e = .returned (.int .i64 r) ∧ Below w.heap.size w w' := by
 have hu31 := Tryz.underlying31
 have hu43 := Tryz.underlying43
 have HR0_0 := aM hr0_0
 have HC0_0 := aM hc0_0
 clear hr0_0 hc0_0
 have HR0_1 := aM hr0_1
 have HC0_1 := aM hc0_1
 clear hr0_1 hc0_1
 have HB := aM (Below.refl w.heap.size w)
 have H : (impl_pieceArea.l0 k 0 l0_1 (l0_1.length : Int) 0) = some r := h
 clear h
 have H' := aM H
 clear H
 go_enter Tryz.func29, Tryz.ntmps29
 go_wp2_with (first | ((with_reducible refine gate_dst (N := 1) rfl ?_); refine zx 1 #[.slice A0_0 l0_0.length c0_0, .slice A0_1 l0_1.length c0_1] 31 ?_; intro gb526 hg w2 hbox hb; have n0_ := aM (below_step zb hb); have n1_ := aM (hbox); have n2_ := aM ((ze : w.heap.size ≤ gb526)); have n3_ := aM ((ze : w.heap.size ≤ gb526)); clear HB; have HB := n0_; have BK526 := n1_; have GW526 := n2_; have GE526 := n3_; clear n0_ n1_ n2_ n3_ hb hbox hg; have hcz3_0 : w2.cell? ⟨gb526, 0, none⟩ = some (.slice A0_0 l0_0.length c0_0) := (blk_cell BK526.out 0).trans rfl; have hcz3_1 : w2.cell? ⟨gb526, 1, none⟩ = some (.slice A0_1 l0_1.length c0_1) := (blk_cell BK526.out 1).trans rfl; have hfz3_0 := blk_frozen BK526.out 0; have hfz3_1 := blk_frozen BK526.out 1))
 go_loopg [3, 9] k (fun kq v3 v9 w' => ∃ (x3_1 : Int) (x9_1 : Int), v3 = .int .i64 x3_1 ∧ v9 = .int .i64 x9_1 ∧ Aside0 (impl_pieceArea.l0 kq x3_1 l0_1 (l0_1.length : Int) x9_1 = some r) ∧ Aside0 (kq ≤ k) ∧ Aside0 (w'.heap[gb526]? = some (.cells #[(.slice A0_0 l0_0.length c0_0), (.slice A0_1 l0_1.length c0_1)] 31 (0, 0))) ∧ Aside0 (Below w.heap.size w w'))
 case atStart => exact ⟨(0), (0), zr, zr, H', ⟨Nat.le_refl _⟩, ⟨mB_ BK526.out⟩, ⟨zs GE526.out⟩⟩
 case round =>
  clear H'
  try clear c2
  try clear p2
  try clear hcz3_0
  try clear hcz3_1
  try clear hfz3_0
  try clear hfz3_1
  obtain ⟨x3_1, x9_1, rfl, rfl, HA, HK1, BK526, HB⟩ := hrel
  cases gk with
  | zero => exact absurd HA.out (by simp [impl_pieceArea.l0])
  | succ k1 =>
   have H := HA.out
   clear HA
   simp only [impl_pieceArea.l0] at H
   by_cases c4 : x9_1 < (l0_1.length : Int)
   rotate_left
   ·rw [if_neg c4] at H
    have c4b0 : decide (x9_1 < (l0_1.length : Int)) = false := decide_eq_false c4
    clear c4
    obtain rfl := Option.some.inj H
    go_wp2
    go_ret
    exact ⟨zw, zs GE526.out⟩
   rw [if_pos c4] at H
   have c4b0 : decide (x9_1 < (l0_1.length : Int)) = true := decide_eq_true c4
   clear c4
   by_cases c5 : 0 ≤ x9_1
   rotate_left
   ·rw [if_neg c5] at H
    exact absurd H (by simp)
   rw [if_pos c5] at H
   have c5b0 : decide (0 ≤ x9_1) = true := decide_eq_true c5
   clear c5
   by_cases c6 : x9_1 < (l0_1.length : Int)
   rotate_left
   ·rw [if_neg c6] at H
    exact absurd H (by simp)
   rw [if_pos c6] at H
   have c6b0 : decide (x9_1 < (l0_1.length : Int)) = true := decide_eq_true c6
   clear c6
   have H' := aM H
   clear H
   have p527 : 0 ≤ (x9_1 : Int) := of_decide_eq_true za
   have q527 : x9_1 < (l0_1.length : Int) := of_decide_eq_true za
   obtain ⟨ad527, A527_0, c527_0, e527, hx527_0, hx527_1, hx527_2, hl527_0, hi527_0⟩ := at_T43 HR0_1.out x9_1 p527 q527
   cases e527
   replace hx527_0 := zk HB.out hx527_0
   replace hx527_1 := zk HB.out hx527_1
   replace hx527_2 := zk HB.out hx527_2
   have HR527_0 := aM hi527_0
   have HC527_0 := aM hl527_0
   clear hi527_0 hl527_0
   replace p527 := eq_true p527
   replace q527 := eq_true q527
   go_wp2_with (first | ((with_reducible refine gate_dst (N := 5) rfl ?_); refine zx 5 #[.slice none 0 0, .int .i64 0, .bool false] 43 ?_; intro gb528 hg w7 hbox hb; have n0_ := aM (blk_below (g := gb526) (o := .cells #[.slice A0_0 l0_0.length c0_0, .slice (some ad527) l0_1.length c0_1] 31 (0, 0)) (mB_ BK526.out) hb); have n1_ := aM (below_step (zs GE526.out) hb); have n2_ := aM (hbox); have n3_ := aM ((zf GE526.out : w.heap.size ≤ gb528)); have n4_ := aM ((zf GE526.out : w.heap.size ≤ gb528)); have n5_ := aM ((zl BK526.out : gb526 ≠ gb528)); have n6_ := aM ((zn BK526.out : gb528 ≠ gb526)); clear BK526 HB; have BK526 := n0_; have HB := n1_; have BK528 := n2_; have GW528 := n3_; have GE528 := n4_; have NB526_528 := n5_; have NB528_526 := n6_; clear n0_ n1_ n2_ n3_ n4_ n5_ n6_ hb hbox hg; have hnb8 := NB528_526.out; have hnc8 := NB526_528.out; have hcz9_0 : w7.cell? ⟨gb528, 0, none⟩ = some (.slice none 0 0) := (blk_cell BK528.out 0).trans rfl; have hcz9_1 : w7.cell? ⟨gb528, 1, none⟩ = some (.int .i64 0) := (blk_cell BK528.out 1).trans rfl; have hcz9_2 : w7.cell? ⟨gb528, 2, none⟩ = some (.bool false) := (blk_cell BK528.out 2).trans rfl; have hfz9_0 := blk_frozen BK528.out 0; have hfz9_1 := blk_frozen BK528.out 1; have hfz9_2 := blk_frozen BK528.out 2))
   go_roundg k1
   case measure => have := HK1.out; omega
   case rel => exact ⟨(wrap64 (x3_1 + (wrap64 (((rd_T43 l0_1 x9_1).f1) * (((rd_T43 l0_1 x9_1).f0).length : Int))))), (wrap64 (x9_1 + 1)), zr, zr, H', ⟨by have := HK1.out; omega⟩, ⟨by (with_reducible repeat (first | refine blk_drewN ?_ _ | refine blk_drew ?_ | refine blk_alloc ?_ _)); refine blk_far ?_ NB526_528.out _; (with_reducible repeat (first | refine blk_drewN ?_ _ | refine blk_drew ?_ | refine blk_alloc ?_ _)); refine blk_far ?_ NB526_528.out _; (with_reducible repeat (first | refine blk_drewN ?_ _ | refine blk_drew ?_ | refine blk_alloc ?_ _)); refine blk_far ?_ NB526_528.out _; (with_reducible repeat (first | refine blk_drewN ?_ _ | refine blk_drew ?_ | refine blk_alloc ?_ _)); exact BK526.out⟩, ⟨zt GE526.out GE528.out⟩⟩
end Go.Proofs.YtfdfdifjkaaeoaaGreat.F
end
section
namespace Go.Proofs.YtfdfdifjkaaeoaaGreat.F
open Go.RowKit Go.Proofs.YtfdfdifjkaaeoaaGreatW.PrintWords Go.Proofs.YtfdfdifjkaaeoaaGreatW.PrintLast Go.Proofs.YtfdfdifjkaaeoaaGreatW.PrintMore
attribute [local go_sem] max2_int min2_int max_two min_two max_three min_three max_four min_four
set_option linter.unusedVariables false
set_option linter.unusedSimpArgs false
def spec_DoesFit.f (k : Nat) (l0_0 : List (S58)) (l0_1 : List (S43)) : Option (Bool) := (spec_IsPuzzle.f k l0_0 l0_1).bind fun t524 => (if t524 = true then ((spec_l11Area.f k l0_0 l0_1).bind fun t525 => (some (t525 == (l0_0.length : Int)))) else (some false))
def spec_DoesFit.T1 : Bool × List (List Nat × List Nat) := (true, [([], []), ([0], [0]), ([1, 1], [1]), ([2], [2]), ([3, 2, 2], [2, 3]), ([2], [2]), ([5, 2], [2, 5]), ([6, 2], [2, 6]), ([4, 7, 2], [2, 4, 7]), ([2, 8], [2, 8]), ([9, 4, 0, 1, 2, 3, 4, 5, 6, 7, 8, 9], [9])])
def spec_DoesFit.B1 : List Nat := [0, 1, 3, 7, 15, 7, 39, 103, 255, 511, 1023]
theorem spec_DoesFit.tab1 : rtab .any (opsOf Tryz.f11 1) = spec_DoesFit.T1 := by kernel_rfl
theorem spec_DoesFit.bits1 : waitsOk spec_DoesFit.T1.2 spec_DoesFit.B1 = true := by kernel_rfl
end Go.Proofs.YtfdfdifjkaaeoaaGreat.F
end
