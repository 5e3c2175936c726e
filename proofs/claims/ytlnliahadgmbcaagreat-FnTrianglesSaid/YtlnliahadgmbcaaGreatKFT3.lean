/- The row of FnTriangles, with what it needs: text 4 of 13. -/
import Derived.Test.YtlnliahadgmbcaaGreatKFT2
set_option maxHeartbeats 8000000
set_option maxRecDepth 100000
section
namespace Go.Proofs.YtlnliahadgmbcaaGreat.F
open Go.RowKit Go.Proofs.YtlnliahadgmbcaaGreatW.PrintWords Go.Proofs.YtlnliahadgmbcaaGreatW.PrintLast Go.Proofs.YtlnliahadgmbcaaGreatW.PrintMore
attribute [local go_sem] max2_int min2_int max_two min_two max_three min_three max_four min_four
set_option linter.unusedVariables false
set_option linter.unusedSimpArgs false
open Go.Sort
theorem spec_l01In.calls (a0 : Int) (a1 : Int) (a2 : Int) (r : Bool) (w : World) (h : spec_l01In.f a0 a1 a2 = some r) :
  Calls Tryz.prog 22 #[.int .i64 a0, .int .i64 a1, .int .i64 a2] w fun e w' => e = .returned (.bool r) ∧ Drawn0 w w' := by
 have H : (if a0 ≥ a1 then (some (decide (a0 ≤ a2))) else (some false)) = some r := h
 clear h
 by_cases c4 : a0 ≥ a1
 ·rw [if_pos c4] at H
  have c4b0 : decide (a1 ≤ a0) = true := decide_eq_true c4
  clear c4
  obtain rfl := Option.some.inj H
  go_enter Tryz.func22, Tryz.ntmps22
  go_wp2
  go_ret
  exact ⟨by first | rfl | (simp; done) | (simp [*]; done), by repeat (first | exact Drawn0.refl _ | apply Drawn0.step)⟩
 rw [if_neg c4] at H
 have c4b0 : decide (a1 ≤ a0) = false := decide_eq_false c4
 clear c4
 obtain rfl := Option.some.inj H
 go_enter Tryz.func22, Tryz.ntmps22
 go_wp2
 go_ret
 exact ⟨by first | rfl | (simp; done) | (simp [*]; done), by repeat (first | exact Drawn0.refl _ | apply Drawn0.step)⟩
def spec_l02Cell.f (a0_0 : Int) (a0_1 : Int) : Option (Bool) := (spec_l01In.f a0_0 (-100) 100).bind fun t166 => (if t166 = true then ((spec_l01In.f a0_1 (-100) 100).bind fun t167 => (some t167)) else (some false))
theorem spec_l02Cell.calls (a0_0 : Int) (a0_1 : Int) (r : Bool) (w : World) (h : spec_l02Cell.f a0_0 a0_1 = some r) :
  Calls Tryz.prog 31 #[.agg #[.int .i64 a0_0, .int .i64 a0_1]] w fun e w' => e = .returned (.bool r) ∧ Below w.heap.size w w' := by
 have hu25 := Tryz.underlying25
 have HB := aM (Below.refl w.heap.size w)
 have H : ((spec_l01In.f a0_0 (-100) 100).bind fun t166 => (if t166 = true then ((spec_l01In.f a0_1 (-100) 100).bind fun t167 => (some t167)) else (some false))) = some r := h
 clear h
 replace H := Option.bind_eq_some_iff.mp H
 obtain ⟨t166, A20, H⟩ := H
 replace H : (if t166 = true then ((spec_l01In.f a0_1 (-100) 100).bind fun t167 => (some t167)) else (some false)) = some r := H
 have A2 := aM A20
 clear A20
 by_cases c3 : t166 = true
 rotate_left
 ·replace c3 := Bool.eq_false_iff.mpr c3
  subst c3
  have H1 : (some false) = some r := by rw [if_neg (show ¬ (false = true) by decide)] at H; exact H
  clear H
  have H := H1
  clear H1
  obtain rfl := Option.some.inj H
  go_enter Tryz.func31, Tryz.ntmps31
  go_wp2_with (first | ((with_reducible refine gate_dst (N := 1) rfl ?_); refine box_event ?hg (N := 1) ?hd (cs := #[.int .i64 a0_0, .int .i64 a0_1]) (t := 25) ?hr ?_; (case hd => rfl); (case hg => rfl); (case hr => first | (go_simp; done) | (go_simp; rfl)); intro gb165 hg w7 hbox hb; have n0_ := aM (below_step zb hb); have n1_ := aM (hbox); have n2_ := aM ((ze : w.heap.size ≤ gb165)); have n3_ := aM ((ze : w.heap.size ≤ gb165)); clear HB; have HB := n0_; have BK165 := n1_; have GW165 := n2_; have GE165 := n3_; clear n0_ n1_ n2_ n3_; clear hb hbox hg; have hcz8_0 : w7.cell? ⟨gb165, 0, none⟩ = some (.int .i64 a0_0) := (blk_cell BK165.out 0).trans rfl; have hcz8_1 : w7.cell? ⟨gb165, 1, none⟩ = some (.int .i64 a0_1) := (blk_cell BK165.out 1).trans rfl; have hfz8_0 := blk_frozen BK165.out 0; have hfz8_1 := blk_frozen BK165.out 1) | ((with_reducible refine gate_callee (f := 22) rfl ?_); refine goesL_ (some 5) rfl rfl Tryz.func22 (by kernel_rfl) rfl #[.int .i64 a0_0, .int .i64 (-100), .int .i64 100] rfl zm ?_; (with_reducible refine (spec_l01In.calls a0_0 (-100) 100 false _ A2.out).mono ?_); rintro e w' ⟨rfl, ⟨nd, rfl⟩⟩; refine ⟨_, rfl, ?_⟩))
  go_ret
  exact ⟨zw, zs GE165.out⟩
 subst c3
 have H1 : ((spec_l01In.f a0_1 (-100) 100).bind fun t167 => (some t167)) = some r := by rw [if_pos rfl] at H; exact H
 clear H
 have H := H1
 clear H1
 replace H := Option.bind_eq_some_iff.mp H
 obtain ⟨t167, A40, H⟩ := H
 replace H : (some t167) = some r := H
 have A4 := aM A40
 clear A40
 obtain rfl := Option.some.inj H
 go_enter Tryz.func31, Tryz.ntmps31
 go_wp2_with (first | ((with_reducible refine gate_dst (N := 1) rfl ?_); refine box_event ?hg (N := 1) ?hd (cs := #[.int .i64 a0_0, .int .i64 a0_1]) (t := 25) ?hr ?_; (case hd => rfl); (case hg => rfl); (case hr => first | (go_simp; done) | (go_simp; rfl)); intro gb165 hg w5 hbox hb; have n0_ := aM (below_step zb hb); have n1_ := aM (hbox); have n2_ := aM ((ze : w.heap.size ≤ gb165)); have n3_ := aM ((ze : w.heap.size ≤ gb165)); clear HB; have HB := n0_; have BK165 := n1_; have GW165 := n2_; have GE165 := n3_; clear n0_ n1_ n2_ n3_; clear hb hbox hg; have hcz6_0 : w5.cell? ⟨gb165, 0, none⟩ = some (.int .i64 a0_0) := (blk_cell BK165.out 0).trans rfl; have hcz6_1 : w5.cell? ⟨gb165, 1, none⟩ = some (.int .i64 a0_1) := (blk_cell BK165.out 1).trans rfl; have hfz6_0 := blk_frozen BK165.out 0; have hfz6_1 := blk_frozen BK165.out 1) | ((with_reducible refine gate_callee (f := 22) rfl ?_); refine goesL_ (some 5) rfl rfl Tryz.func22 (by kernel_rfl) rfl #[.int .i64 a0_0, .int .i64 (-100), .int .i64 100] rfl zm ?_; (with_reducible refine (spec_l01In.calls a0_0 (-100) 100 true _ A2.out).mono ?_); rintro e w' ⟨rfl, ⟨nd, rfl⟩⟩; refine ⟨_, rfl, ?_⟩) | (go_at_call 22; (with_reducible refine (spec_l01In.calls a0_1 (-100) 100 t167 _ A4.out).mono ?_); rintro e w' ⟨rfl, ⟨nd, rfl⟩⟩))
 go_ret
 exact ⟨zw, zs GE165.out⟩
def spec_l01Mod.f (a0 : Int) (a1 : Int) : Option (Int) := if a1 = 0 then (none) else (some (Int.tmod (wrap64 ((Int.tmod a0 a1) + a1)) a1))
theorem spec_l01Mod.calls (a0 : Int) (a1 : Int) (r : Int) (w : World) (h : spec_l01Mod.f a0 a1 = some r) :
  Calls Tryz.prog 33 #[.int .i64 a0, .int .i64 a1] w fun e w' => e = .returned (.int .i64 r) ∧ Drawn0 w w' := by
 have H : (if a1 = 0 then (none) else (some (Int.tmod (wrap64 ((Int.tmod a0 a1) + a1)) a1))) = some r := h
 clear h
 by_cases c3 : a1 = 0
 ·rw [if_pos c3] at H
  exact absurd H (by simp)
 rw [if_neg c3] at H
 have c3b0 : (a1 == 0) = false := beq_eq_false_iff_ne.mpr c3
 have c3b1 : (a1 != 0) = true := bne_iff_ne.mpr c3
 obtain rfl := Option.some.inj H
 go_enter Tryz.func33, Tryz.ntmps33
 go_wp2
 go_ret
 exact ⟨by first | rfl | (simp; done) | (simp [*]; done), by repeat (first | exact Drawn0.refl _ | apply Drawn0.step)⟩
def spec_l07Is.f (a0 : Int) (a1_0 : Int) (a1_1 : Int) : Option (Bool) := if a0 = 1 then (some true) else ((spec_l01Mod.f a1_0 3).bind fun t169 => ((spec_l01Mod.f a1_1 3).bind fun t170 => (if t169 = t170 then ((spec_l01Mod.f a1_0 3).bind fun t171 => (some (t171 != 0))) else (some false))))
theorem spec_l07Is.calls (a0 : Int) (a1_0 : Int) (a1_1 : Int) (r : Bool) (w : World) (h : spec_l07Is.f a0 a1_0 a1_1 = some r) :
  Calls Tryz.prog 32 #[.int .i64 a0, .agg #[.int .i64 a1_0, .int .i64 a1_1]] w fun e w' => e = .returned (.bool r) ∧ Below w.heap.size w w' := by
 have hu25 := Tryz.underlying25
 have HB := aM (Below.refl w.heap.size w)
 have H : (if a0 = 1 then (some true) else ((spec_l01Mod.f a1_0 3).bind fun t169 => ((spec_l01Mod.f a1_1 3).bind fun t170 => (if t169 = t170 then ((spec_l01Mod.f a1_0 3).bind fun t171 => (some (t171 != 0))) else (some false))))) = some r := h
 clear h
 by_cases c3 : a0 = 1
 ·rw [if_pos c3] at H
  have c3b0 : (a0 == 1) = true := beq_iff_eq.mpr c3
  have c3b1 : (a0 != 1) = false := bne_eq_false_iff_eq.mpr c3
  clear c3
  obtain rfl := Option.some.inj H
  go_enter Tryz.func32, Tryz.ntmps32
  go_wp2_with (first | ((with_reducible refine gate_dst (N := 3) rfl ?_); refine box_event ?hg (N := 3) ?hd (cs := #[.int .i64 a1_0, .int .i64 a1_1]) (t := 25) ?hr ?_; (case hd => rfl); (case hg => rfl); (case hr => first | (go_simp; done) | (go_simp; rfl)); intro gb168 hg w4 hbox hb; have n0_ := aM (below_step zb hb); have n1_ := aM (hbox); have n2_ := aM ((ze : w.heap.size ≤ gb168)); have n3_ := aM ((ze : w.heap.size ≤ gb168)); clear HB; have HB := n0_; have BK168 := n1_; have GW168 := n2_; have GE168 := n3_; clear n0_ n1_ n2_ n3_; clear hb hbox hg))
  repeat (go_quiet (first | ((with_reducible refine gate_dst (N := 3) rfl ?_); refine box_event ?hg (N := 3) ?hd (cs := #[.int .i64 a1_0, .int .i64 a1_1]) (t := 25) ?hr ?_; (case hd => rfl); (case hg => rfl); (case hr => first | (go_simp; done) | (go_simp; rfl)); intro gb168 hg w4 hbox hb; have n0_ := aM (below_step zb hb); have n1_ := aM (hbox); have n2_ := aM ((ze : w.heap.size ≤ gb168)); have n3_ := aM ((ze : w.heap.size ≤ gb168)); clear HB; have HB := n0_; have BK168 := n1_; have GW168 := n2_; have GE168 := n3_; clear n0_ n1_ n2_ n3_; clear hb hbox hg)); try go_wp2_with (first | ((with_reducible refine gate_dst (N := 3) rfl ?_); refine box_event ?hg (N := 3) ?hd (cs := #[.int .i64 a1_0, .int .i64 a1_1]) (t := 25) ?hr ?_; (case hd => rfl); (case hg => rfl); (case hr => first | (go_simp; done) | (go_simp; rfl)); intro gb168 hg w4 hbox hb; have n0_ := aM (below_step zb hb); have n1_ := aM (hbox); have n2_ := aM ((ze : w.heap.size ≤ gb168)); have n3_ := aM ((ze : w.heap.size ≤ gb168)); clear HB; have HB := n0_; have BK168 := n1_; have GW168 := n2_; have GE168 := n3_; clear n0_ n1_ n2_ n3_; clear hb hbox hg)))
  go_ret
  exact ⟨by first | rfl | (simp [errW_none, errW_some] <;> rfl) | (simp [*, errW_none, errW_some] <;> rfl) | (obtain rfl := Option.some.inj (A5.out.symm.trans A8.out); rfl), zs GE168.out⟩
 rw [if_neg c3] at H
 have c3b0 : (a0 == 1) = false := beq_eq_false_iff_ne.mpr c3
 have c3b1 : (a0 != 1) = true := bne_iff_ne.mpr c3
 replace H := Option.bind_eq_some_iff.mp H
 obtain ⟨t169, A50, H⟩ := H
 replace H : ((spec_l01Mod.f a1_1 3).bind fun t170 => (if t169 = t170 then ((spec_l01Mod.f a1_0 3).bind fun t171 => (some (t171 != 0))) else (some false))) = some r := H
 have A5 := aM A50
 clear A50
 replace H := Option.bind_eq_some_iff.mp H
 obtain ⟨t170, A60, H⟩ := H
 replace H : (if t169 = t170 then ((spec_l01Mod.f a1_0 3).bind fun t171 => (some (t171 != 0))) else (some false)) = some r := H
 have A6 := aM A60
 clear A60
 by_cases c7 : t169 = t170
 rotate_left
 ·rw [if_neg c7] at H
  have c7b0 : (t169 == t170) = false := beq_eq_false_iff_ne.mpr c7
  have c7b1 : (t169 != t170) = true := bne_iff_ne.mpr c7
  obtain rfl := Option.some.inj H
  go_enter Tryz.func32, Tryz.ntmps32
  go_wp2_with (first | ((with_reducible refine gate_dst (N := 3) rfl ?_); refine box_event ?hg (N := 3) ?hd (cs := #[.int .i64 a1_0, .int .i64 a1_1]) (t := 25) ?hr ?_; (case hd => rfl); (case hg => rfl); (case hr => first | (go_simp; done) | (go_simp; rfl)); intro gb168 hg w11 hbox hb; have n0_ := aM (below_step zb hb); have n1_ := aM (hbox); have n2_ := aM ((ze : w.heap.size ≤ gb168)); have n3_ := aM ((ze : w.heap.size ≤ gb168)); clear HB; have HB := n0_; have BK168 := n1_; have GW168 := n2_; have GE168 := n3_; clear n0_ n1_ n2_ n3_; clear hb hbox hg; have hcz12_0 : w11.cell? ⟨gb168, 0, none⟩ = some (.int .i64 a1_0) := (blk_cell BK168.out 0).trans rfl; have hcz12_1 : w11.cell? ⟨gb168, 1, none⟩ = some (.int .i64 a1_1) := (blk_cell BK168.out 1).trans rfl; have hfz12_0 := blk_frozen BK168.out 0; have hfz12_1 := blk_frozen BK168.out 1) | (go_at_call 33; (with_reducible refine (spec_l01Mod.calls a1_0 3 t169 _ A5.out).mono ?_); rintro e w' ⟨rfl, ⟨nd, rfl⟩⟩; (try first | exact ⟨rfl, _, World.drewN_drewN _ _ _⟩ | exact ⟨rfl, _, Eq.trans (World.drewN_drewN _ _ _) (congrArg (World.drewN _) (Nat.add_assoc _ _ _))⟩)) | (go_at_call 33; (with_reducible refine (spec_l01Mod.calls a1_1 3 t170 _ A6.out).mono ?_); rintro e w' ⟨rfl, ⟨nd, rfl⟩⟩; (try first | exact ⟨rfl, _, World.drewN_drewN _ _ _⟩ | exact ⟨rfl, _, Eq.trans (World.drewN_drewN _ _ _) (congrArg (World.drewN _) (Nat.add_assoc _ _ _))⟩)))
  repeat (go_quiet (first | ((with_reducible refine gate_dst (N := 3) rfl ?_); refine box_event ?hg (N := 3) ?hd (cs := #[.int .i64 a1_0, .int .i64 a1_1]) (t := 25) ?hr ?_; (case hd => rfl); (case hg => rfl); (case hr => first | (go_simp; done) | (go_simp; rfl)); intro gb168 hg w11 hbox hb; have n0_ := aM (below_step zb hb); have n1_ := aM (hbox); have n2_ := aM ((ze : w.heap.size ≤ gb168)); have n3_ := aM ((ze : w.heap.size ≤ gb168)); clear HB; have HB := n0_; have BK168 := n1_; have GW168 := n2_; have GE168 := n3_; clear n0_ n1_ n2_ n3_; clear hb hbox hg; have hcz12_0 : w11.cell? ⟨gb168, 0, none⟩ = some (.int .i64 a1_0) := (blk_cell BK168.out 0).trans rfl; have hcz12_1 : w11.cell? ⟨gb168, 1, none⟩ = some (.int .i64 a1_1) := (blk_cell BK168.out 1).trans rfl; have hfz12_0 := blk_frozen BK168.out 0; have hfz12_1 := blk_frozen BK168.out 1) | (go_at_call 33; (try simp only [i64_w]); (with_reducible refine (spec_l01Mod.calls a1_0 3 t169 _ A5.out).mono ?_); rintro e w' ⟨rfl, ⟨nd, rfl⟩⟩; (try first | exact ⟨rfl, _, World.drewN_drewN _ _ _⟩ | exact ⟨rfl, _, Eq.trans (World.drewN_drewN _ _ _) (congrArg (World.drewN _) (Nat.add_assoc _ _ _))⟩)) | (go_at_call 33; (try simp only [i64_w]); (with_reducible refine (spec_l01Mod.calls a1_1 3 t170 _ A6.out).mono ?_); rintro e w' ⟨rfl, ⟨nd, rfl⟩⟩; (try first | exact ⟨rfl, _, World.drewN_drewN _ _ _⟩ | exact ⟨rfl, _, Eq.trans (World.drewN_drewN _ _ _) (congrArg (World.drewN _) (Nat.add_assoc _ _ _))⟩))); try go_wp2_with (first | ((with_reducible refine gate_dst (N := 3) rfl ?_); refine box_event ?hg (N := 3) ?hd (cs := #[.int .i64 a1_0, .int .i64 a1_1]) (t := 25) ?hr ?_; (case hd => rfl); (case hg => rfl); (case hr => first | (go_simp; done) | (go_simp; rfl)); intro gb168 hg w11 hbox hb; have n0_ := aM (below_step zb hb); have n1_ := aM (hbox); have n2_ := aM ((ze : w.heap.size ≤ gb168)); have n3_ := aM ((ze : w.heap.size ≤ gb168)); clear HB; have HB := n0_; have BK168 := n1_; have GW168 := n2_; have GE168 := n3_; clear n0_ n1_ n2_ n3_; clear hb hbox hg; have hcz12_0 : w11.cell? ⟨gb168, 0, none⟩ = some (.int .i64 a1_0) := (blk_cell BK168.out 0).trans rfl; have hcz12_1 : w11.cell? ⟨gb168, 1, none⟩ = some (.int .i64 a1_1) := (blk_cell BK168.out 1).trans rfl; have hfz12_0 := blk_frozen BK168.out 0; have hfz12_1 := blk_frozen BK168.out 1) | (go_at_call 33; (try simp only [i64_w]); (with_reducible refine (spec_l01Mod.calls a1_0 3 t169 _ A5.out).mono ?_); rintro e w' ⟨rfl, ⟨nd, rfl⟩⟩; (try first | exact ⟨rfl, _, World.drewN_drewN _ _ _⟩ | exact ⟨rfl, _, Eq.trans (World.drewN_drewN _ _ _) (congrArg (World.drewN _) (Nat.add_assoc _ _ _))⟩)) | (go_at_call 33; (try simp only [i64_w]); (with_reducible refine (spec_l01Mod.calls a1_1 3 t170 _ A6.out).mono ?_); rintro e w' ⟨rfl, ⟨nd, rfl⟩⟩; (try first | exact ⟨rfl, _, World.drewN_drewN _ _ _⟩ | exact ⟨rfl, _, Eq.trans (World.drewN_drewN _ _ _) (congrArg (World.drewN _) (Nat.add_assoc _ _ _))⟩))))
  go_ret
  exact ⟨by first | rfl | (simp [errW_none, errW_some] <;> rfl) | (simp [*, errW_none, errW_some] <;> rfl) | (obtain rfl := Option.some.inj (A5.out.symm.trans A8.out); rfl), zs GE168.out⟩
 rw [if_pos c7] at H
 have c7b0 : (t169 == t170) = true := beq_iff_eq.mpr c7
 have c7b1 : (t169 != t170) = false := bne_eq_false_iff_eq.mpr c7
 clear c7
 replace H := Option.bind_eq_some_iff.mp H
 obtain ⟨t171, A80, H⟩ := H
 replace H : (some (t171 != 0)) = some r := H
 have A8 := aM A80
 clear A80
 obtain rfl := Option.some.inj H
 go_enter Tryz.func32, Tryz.ntmps32
 go_wp2_with (first | ((with_reducible refine gate_dst (N := 3) rfl ?_); refine box_event ?hg (N := 3) ?hd (cs := #[.int .i64 a1_0, .int .i64 a1_1]) (t := 25) ?hr ?_; (case hd => rfl); (case hg => rfl); (case hr => first | (go_simp; done) | (go_simp; rfl)); intro gb168 hg w9 hbox hb; have n0_ := aM (below_step zb hb); have n1_ := aM (hbox); have n2_ := aM ((ze : w.heap.size ≤ gb168)); have n3_ := aM ((ze : w.heap.size ≤ gb168)); clear HB; have HB := n0_; have BK168 := n1_; have GW168 := n2_; have GE168 := n3_; clear n0_ n1_ n2_ n3_; clear hb hbox hg; have hcz10_0 : w9.cell? ⟨gb168, 0, none⟩ = some (.int .i64 a1_0) := (blk_cell BK168.out 0).trans rfl; have hcz10_1 : w9.cell? ⟨gb168, 1, none⟩ = some (.int .i64 a1_1) := (blk_cell BK168.out 1).trans rfl; have hfz10_0 := blk_frozen BK168.out 0; have hfz10_1 := blk_frozen BK168.out 1) | (go_at_call 33; (with_reducible refine (spec_l01Mod.calls a1_0 3 t169 _ A5.out).mono ?_); rintro e w' ⟨rfl, ⟨nd, rfl⟩⟩; (try first | exact ⟨rfl, _, World.drewN_drewN _ _ _⟩ | exact ⟨rfl, _, Eq.trans (World.drewN_drewN _ _ _) (congrArg (World.drewN _) (Nat.add_assoc _ _ _))⟩)) | (go_at_call 33; (with_reducible refine (spec_l01Mod.calls a1_1 3 t170 _ A6.out).mono ?_); rintro e w' ⟨rfl, ⟨nd, rfl⟩⟩; (try first | exact ⟨rfl, _, World.drewN_drewN _ _ _⟩ | exact ⟨rfl, _, Eq.trans (World.drewN_drewN _ _ _) (congrArg (World.drewN _) (Nat.add_assoc _ _ _))⟩)) | (go_at_call 33; (with_reducible refine (spec_l01Mod.calls a1_0 3 t171 _ A8.out).mono ?_); rintro e w' ⟨rfl, ⟨nd, rfl⟩⟩; (try first | exact ⟨rfl, _, World.drewN_drewN _ _ _⟩ | exact ⟨rfl, _, Eq.trans (World.drewN_drewN _ _ _) (congrArg (World.drewN _) (Nat.add_assoc _ _ _))⟩)))
 repeat (go_quiet (first | ((with_reducible refine gate_dst (N := 3) rfl ?_); refine box_event ?hg (N := 3) ?hd (cs := #[.int .i64 a1_0, .int .i64 a1_1]) (t := 25) ?hr ?_; (case hd => rfl); (case hg => rfl); (case hr => first | (go_simp; done) | (go_simp; rfl)); intro gb168 hg w9 hbox hb; have n0_ := aM (below_step zb hb); have n1_ := aM (hbox); have n2_ := aM ((ze : w.heap.size ≤ gb168)); have n3_ := aM ((ze : w.heap.size ≤ gb168)); clear HB; have HB := n0_; have BK168 := n1_; have GW168 := n2_; have GE168 := n3_; clear n0_ n1_ n2_ n3_; clear hb hbox hg; have hcz10_0 : w9.cell? ⟨gb168, 0, none⟩ = some (.int .i64 a1_0) := (blk_cell BK168.out 0).trans rfl; have hcz10_1 : w9.cell? ⟨gb168, 1, none⟩ = some (.int .i64 a1_1) := (blk_cell BK168.out 1).trans rfl; have hfz10_0 := blk_frozen BK168.out 0; have hfz10_1 := blk_frozen BK168.out 1) | (go_at_call 33; (try simp only [i64_w]); (with_reducible refine (spec_l01Mod.calls a1_0 3 t169 _ A5.out).mono ?_); rintro e w' ⟨rfl, ⟨nd, rfl⟩⟩; (try first | exact ⟨rfl, _, World.drewN_drewN _ _ _⟩ | exact ⟨rfl, _, Eq.trans (World.drewN_drewN _ _ _) (congrArg (World.drewN _) (Nat.add_assoc _ _ _))⟩)) | (go_at_call 33; (try simp only [i64_w]); (with_reducible refine (spec_l01Mod.calls a1_1 3 t170 _ A6.out).mono ?_); rintro e w' ⟨rfl, ⟨nd, rfl⟩⟩; (try first | exact ⟨rfl, _, World.drewN_drewN _ _ _⟩ | exact ⟨rfl, _, Eq.trans (World.drewN_drewN _ _ _) (congrArg (World.drewN _) (Nat.add_assoc _ _ _))⟩)) | (go_at_call 33; (try simp only [i64_w]); (with_reducible refine (spec_l01Mod.calls a1_0 3 t171 _ A8.out).mono ?_); rintro e w' ⟨rfl, ⟨nd, rfl⟩⟩; (try first | exact ⟨rfl, _, World.drewN_drewN _ _ _⟩ | exact ⟨rfl, _, Eq.trans (World.drewN_drewN _ _ _) (congrArg (World.drewN _) (Nat.add_assoc _ _ _))⟩))); try go_wp2_with (first | ((with_reducible refine gate_dst (N := 3) rfl ?_); refine box_event ?hg (N := 3) ?hd (cs := #[.int .i64 a1_0, .int .i64 a1_1]) (t := 25) ?hr ?_; (case hd => rfl); (case hg => rfl); (case hr => first | (go_simp; done) | (go_simp; rfl)); intro gb168 hg w9 hbox hb; have n0_ := aM (below_step zb hb); have n1_ := aM (hbox); have n2_ := aM ((ze : w.heap.size ≤ gb168)); have n3_ := aM ((ze : w.heap.size ≤ gb168)); clear HB; have HB := n0_; have BK168 := n1_; have GW168 := n2_; have GE168 := n3_; clear n0_ n1_ n2_ n3_; clear hb hbox hg; have hcz10_0 : w9.cell? ⟨gb168, 0, none⟩ = some (.int .i64 a1_0) := (blk_cell BK168.out 0).trans rfl; have hcz10_1 : w9.cell? ⟨gb168, 1, none⟩ = some (.int .i64 a1_1) := (blk_cell BK168.out 1).trans rfl; have hfz10_0 := blk_frozen BK168.out 0; have hfz10_1 := blk_frozen BK168.out 1) | (go_at_call 33; (try simp only [i64_w]); (with_reducible refine (spec_l01Mod.calls a1_0 3 t169 _ A5.out).mono ?_); rintro e w' ⟨rfl, ⟨nd, rfl⟩⟩; (try first | exact ⟨rfl, _, World.drewN_drewN _ _ _⟩ | exact ⟨rfl, _, Eq.trans (World.drewN_drewN _ _ _) (congrArg (World.drewN _) (Nat.add_assoc _ _ _))⟩)) | (go_at_call 33; (try simp only [i64_w]); (with_reducible refine (spec_l01Mod.calls a1_1 3 t170 _ A6.out).mono ?_); rintro e w' ⟨rfl, ⟨nd, rfl⟩⟩; (try first | exact ⟨rfl, _, World.drewN_drewN _ _ _⟩ | exact ⟨rfl, _, Eq.trans (World.drewN_drewN _ _ _) (congrArg (World.drewN _) (Nat.add_assoc _ _ _))⟩)) | (go_at_call 33; (try simp only [i64_w]); (with_reducible refine (spec_l01Mod.calls a1_0 3 t171 _ A8.out).mono ?_); rintro e w' ⟨rfl, ⟨nd, rfl⟩⟩; (try first | exact ⟨rfl, _, World.drewN_drewN _ _ _⟩ | exact ⟨rfl, _, Eq.trans (World.drewN_drewN _ _ _) (congrArg (World.drewN _) (Nat.add_assoc _ _ _))⟩))))
 go_ret
 exact ⟨by first | rfl | (simp [errW_none, errW_some] <;> rfl) | (simp [*, errW_none, errW_some] <;> rfl) | (obtain rfl := Option.some.inj (A5.out.symm.trans A8.out); rfl), zs GE168.out⟩
def spec_IsTriangle.f (a0_0 : Int) (a0_1 : Int) : Option (Bool) := (spec_l02Cell.f a0_0 a0_1).bind fun t173 => (if t173 = true then ((spec_l07Is.f 0 a0_0 a0_1).bind fun t174 => (some t174)) else (some false))
theorem spec_IsTriangle.calls (a0_0 : Int) (a0_1 : Int) (r : Bool) (w : World) (h : spec_IsTriangle.f a0_0 a0_1 = some r) :
  Calls Tryz.prog 15 #[.agg #[.int .i64 a0_0, .int .i64 a0_1]] w fun e w' => e = .returned (.bool r) ∧ Below w.heap.size w w' := by
 have hu25 := Tryz.underlying25
 have HB := aM (Below.refl w.heap.size w)
 have H : ((spec_l02Cell.f a0_0 a0_1).bind fun t173 => (if t173 = true then ((spec_l07Is.f 0 a0_0 a0_1).bind fun t174 => (some t174)) else (some false))) = some r := h
 clear h
 replace H := Option.bind_eq_some_iff.mp H
 obtain ⟨t173, A20, H⟩ := H
 replace H : (if t173 = true then ((spec_l07Is.f 0 a0_0 a0_1).bind fun t174 => (some t174)) else (some false)) = some r := H
 have A2 := aM A20
 clear A20
 by_cases c3 : t173 = true
 rotate_left
 ·replace c3 := Bool.eq_false_iff.mpr c3
  subst c3
  have H1 : (some false) = some r := by rw [if_neg (show ¬ (false = true) by decide)] at H; exact H
  clear H
  have H := H1
  clear H1
  obtain rfl := Option.some.inj H
  go_enter Tryz.func15, Tryz.ntmps15
  go_wp2_with (first | ((with_reducible refine gate_dst (N := 1) rfl ?_); refine box_event ?hg (N := 1) ?hd (cs := #[.int .i64 a0_0, .int .i64 a0_1]) (t := 25) ?hr ?_; (case hd => rfl); (case hg => rfl); (case hr => first | (go_simp; done) | (go_simp; rfl)); intro gb172 hg w10 hbox hb; have n0_ := aM (below_step zb hb); have n1_ := aM (hbox); have n2_ := aM ((ze : w.heap.size ≤ gb172)); have n3_ := aM ((ze : w.heap.size ≤ gb172)); clear HB; have HB := n0_; have BK172 := n1_; have GW172 := n2_; have GE172 := n3_; clear n0_ n1_ n2_ n3_; clear hb hbox hg; have hcz11_0 : w10.cell? ⟨gb172, 0, none⟩ = some (.int .i64 a0_0) := (blk_cell BK172.out 0).trans rfl; have hcz11_1 : w10.cell? ⟨gb172, 1, none⟩ = some (.int .i64 a0_1) := (blk_cell BK172.out 1).trans rfl; have hfz11_0 := blk_frozen BK172.out 0; have hfz11_1 := blk_frozen BK172.out 1) | ((with_reducible refine gate_callee (f := 31) rfl ?_); refine goesL_ (some 4) rfl rfl Tryz.func31 (by kernel_rfl) rfl #[.agg #[.int .i64 a0_0, .int .i64 a0_1]] rfl zm ?_; (with_reducible refine (spec_l02Cell.calls a0_0 a0_1 false _ A2.out).mono ?_); rintro e w12 ⟨rfl, hb⟩; refine ⟨_, rfl, ?_⟩; have n0_ := aM (blk_below (g := gb172) (o := .cells #[.int .i64 a0_0, .int .i64 a0_1] 25 (0, 0)) (mB_ BK172.out) hb); have n1_ := aM (below_step (zs GE172.out) hb); clear BK172; clear HB; have BK172 := n0_; have HB := n1_; clear n0_ n1_; (try clear hb); (try clear hb2); (try clear hk); (try clear hi)))
  go_ret
  exact ⟨zw, zs GE172.out⟩
 subst c3
 have H1 : ((spec_l07Is.f 0 a0_0 a0_1).bind fun t174 => (some t174)) = some r := by rw [if_pos rfl] at H; exact H
 clear H
 have H := H1
 clear H1
 replace H := Option.bind_eq_some_iff.mp H
 obtain ⟨t174, A40, H⟩ := H
 replace H : (some t174) = some r := H
 have A4 := aM A40
 clear A40
 obtain rfl := Option.some.inj H
 go_enter Tryz.func15, Tryz.ntmps15
 go_wp2_with (first | ((with_reducible refine gate_dst (N := 1) rfl ?_); refine box_event ?hg (N := 1) ?hd (cs := #[.int .i64 a0_0, .int .i64 a0_1]) (t := 25) ?hr ?_; (case hd => rfl); (case hg => rfl); (case hr => first | (go_simp; done) | (go_simp; rfl)); intro gb172 hg w5 hbox hb; have n0_ := aM (below_step zb hb); have n1_ := aM (hbox); have n2_ := aM ((ze : w.heap.size ≤ gb172)); have n3_ := aM ((ze : w.heap.size ≤ gb172)); clear HB; have HB := n0_; have BK172 := n1_; have GW172 := n2_; have GE172 := n3_; clear n0_ n1_ n2_ n3_; clear hb hbox hg; have hcz6_0 : w5.cell? ⟨gb172, 0, none⟩ = some (.int .i64 a0_0) := (blk_cell BK172.out 0).trans rfl; have hcz6_1 : w5.cell? ⟨gb172, 1, none⟩ = some (.int .i64 a0_1) := (blk_cell BK172.out 1).trans rfl; have hfz6_0 := blk_frozen BK172.out 0; have hfz6_1 := blk_frozen BK172.out 1) | ((with_reducible refine gate_callee (f := 31) rfl ?_); refine goesL_ (some 4) rfl rfl Tryz.func31 (by kernel_rfl) rfl #[.agg #[.int .i64 a0_0, .int .i64 a0_1]] rfl zm ?_; (with_reducible refine (spec_l02Cell.calls a0_0 a0_1 true _ A2.out).mono ?_); rintro e w7 ⟨rfl, hb⟩; refine ⟨_, rfl, ?_⟩; have n0_ := aM (blk_below (g := gb172) (o := .cells #[.int .i64 a0_0, .int .i64 a0_1] 25 (0, 0)) (mB_ BK172.out) hb); have n1_ := aM (below_step (zs GE172.out) hb); clear BK172; clear HB; have BK172 := n0_; have HB := n1_; clear n0_ n1_; (try clear hb); (try clear hb2); (try clear hk); (try clear hi); have hcz8_0 : w7.cell? ⟨gb172, 0, none⟩ = some (.int .i64 a0_0) := (blk_cell BK172.out 0).trans rfl; have hcz8_1 : w7.cell? ⟨gb172, 1, none⟩ = some (.int .i64 a0_1) := (blk_cell BK172.out 1).trans rfl; have hfz8_0 := blk_frozen BK172.out 0; have hfz8_1 := blk_frozen BK172.out 1) | (go_at_call 32; (with_reducible refine (spec_l07Is.calls 0 a0_0 a0_1 t174 _ A4.out).mono ?_); rintro e w9 ⟨rfl, hb⟩; have n0_ := aM (blk_below (g := gb172) (o := .cells #[.int .i64 a0_0, .int .i64 a0_1] 25 (0, 0)) (mB_ BK172.out) hb); have n1_ := aM (below_step (zs GE172.out) hb); clear BK172; clear HB; have BK172 := n0_; have HB := n1_; clear n0_ n1_; (try clear hb); (try clear hb2); (try clear hk); (try clear hi)))
 go_ret
 exact ⟨zw, zs GE172.out⟩
def spec_l07Around.f (a0 : Int) (a1_0 : Int) (a1_1 : Int) : Option ((List (S25))) := if a0 = 1 then (some (([(⟨a1_0, wrap64 (a1_1 - 1)⟩ : S25), (⟨wrap64 (a1_0 + 1), wrap64 (a1_1 - 1)⟩ : S25), (⟨wrap64 (a1_0 - 1), a1_1⟩ : S25), (⟨wrap64 (a1_0 + 1), a1_1⟩ : S25), (⟨wrap64 (a1_0 - 1), wrap64 (a1_1 + 1)⟩ : S25), (⟨a1_0, wrap64 (a1_1 + 1)⟩ : S25)] : List (S25)))) else ((spec_l01Mod.f a1_0 3).bind fun t179 => (if t179 = 1 then (some (([(⟨wrap64 (a1_0 + 1), wrap64 (a1_1 - 2)⟩ : S25), (⟨wrap64 (a1_0 - 2), wrap64 (a1_1 + 1)⟩ : S25), (⟨wrap64 (a1_0 + 1), wrap64 (a1_1 + 1)⟩ : S25)] : List (S25)))) else (some (([(⟨wrap64 (a1_0 - 1), wrap64 (a1_1 - 1)⟩ : S25), (⟨wrap64 (a1_0 + 2), wrap64 (a1_1 - 1)⟩ : S25), (⟨wrap64 (a1_0 - 1), wrap64 (a1_1 + 2)⟩ : S25)] : List (S25))))))
theorem spec_l07Around.calls (a0 : Int) (a1_0 : Int) (a1_1 : Int) (r : List (S25)) (w : World) (h : spec_l07Around.f a0 a1_0 a1_1 = some r) :
  Calls Tryz.prog 16 #[.int .i64 a0, .agg #[.int .i64 a1_0, .int .i64 a1_1]] w fun e w' => ∃ v0_ : Value, e = .returned (v0_) ∧ Kd.R k25 25 w' w.heap.size (fun _ => True) v0_ r ∧ Below w.heap.size w w' := by
 have hu25 := Tryz.underlying25
 have HB := aM (Below.refl w.heap.size w)
 have H : (if a0 = 1 then (some (([(⟨a1_0, wrap64 (a1_1 - 1)⟩ : S25), (⟨wrap64 (a1_0 + 1), wrap64 (a1_1 - 1)⟩ : S25), (⟨wrap64 (a1_0 - 1), a1_1⟩ : S25), (⟨wrap64 (a1_0 + 1), a1_1⟩ : S25), (⟨wrap64 (a1_0 - 1), wrap64 (a1_1 + 1)⟩ : S25), (⟨a1_0, wrap64 (a1_1 + 1)⟩ : S25)] : List (S25)))) else ((spec_l01Mod.f a1_0 3).bind fun t179 => (if t179 = 1 then (some (([(⟨wrap64 (a1_0 + 1), wrap64 (a1_1 - 2)⟩ : S25), (⟨wrap64 (a1_0 - 2), wrap64 (a1_1 + 1)⟩ : S25), (⟨wrap64 (a1_0 + 1), wrap64 (a1_1 + 1)⟩ : S25)] : List (S25)))) else (some (([(⟨wrap64 (a1_0 - 1), wrap64 (a1_1 - 1)⟩ : S25), (⟨wrap64 (a1_0 + 2), wrap64 (a1_1 - 1)⟩ : S25), (⟨wrap64 (a1_0 - 1), wrap64 (a1_1 + 2)⟩ : S25)] : List (S25))))))) = some r := h
 clear h
 by_cases c3 : a0 = 1
 ·rw [if_pos c3] at H
  have c3b0 : (a0 == 1) = true := beq_iff_eq.mpr c3
  have c3b1 : (a0 != 1) = false := bne_eq_false_iff_eq.mpr c3
  clear c3
  obtain ⟨y176, hy176⟩ : ∃ y_ : List (S25), y_ = (([(⟨a1_0, wrap64 (a1_1 - 1)⟩ : S25), (⟨wrap64 (a1_0 + 1), wrap64 (a1_1 - 1)⟩ : S25), (⟨wrap64 (a1_0 - 1), a1_1⟩ : S25), (⟨wrap64 (a1_0 + 1), a1_1⟩ : S25), (⟨wrap64 (a1_0 - 1), wrap64 (a1_1 + 1)⟩ : S25), (⟨a1_0, wrap64 (a1_1 + 1)⟩ : S25)] : List (S25))) := ⟨_, rfl⟩
  replace H : (some y176) = some r := zy H hy176
  have Ny176 := aM hy176
  clear hy176
  obtain rfl := Option.some.inj H
  go_enter Tryz.func16, Tryz.ntmps16
  go_wp2_with (first | ((with_reducible refine gate_dst (N := 3) rfl ?_); refine box_event ?hg (N := 3) ?hd (cs := #[.int .i64 a1_0, .int .i64 a1_1]) (t := 25) ?hr ?_; (case hd => rfl); (case hg => rfl); (case hr => first | (go_simp; done) | (go_simp; rfl)); intro gb175 hg w4 hbox hb; have n0_ := aM (below_step zb hb); have n1_ := aM (hbox); have n2_ := aM ((ze : w.heap.size ≤ gb175)); have n3_ := aM ((ze : w.heap.size ≤ gb175)); clear HB; have HB := n0_; have BK175 := n1_; have GW175 := n2_; have GE175 := n3_; clear n0_ n1_ n2_ n3_; clear hb hbox hg; have hcz5_0 : w4.cell? ⟨gb175, 0, none⟩ = some (.int .i64 a1_0) := (blk_cell BK175.out 0).trans rfl; have hcz5_1 : w4.cell? ⟨gb175, 1, none⟩ = some (.int .i64 a1_1) := (blk_cell BK175.out 1).trans rfl; have hfz5_0 := blk_frozen BK175.out 0; have hfz5_1 := blk_frozen BK175.out 1) | ((with_reducible refine gate_dst (N := 45) rfl ?_); refine Kd.R_lit k25 _ 25 ?hg (N := 45) ?hd (xs := ([(⟨a1_0, wrap64 (a1_1 - 1)⟩ : S25), (⟨wrap64 (a1_0 + 1), wrap64 (a1_1 - 1)⟩ : S25), (⟨wrap64 (a1_0 - 1), a1_1⟩ : S25), (⟨wrap64 (a1_0 + 1), a1_1⟩ : S25), (⟨wrap64 (a1_0 - 1), wrap64 (a1_1 + 1)⟩ : S25), (⟨a1_0, wrap64 (a1_1 + 1)⟩ : S25)] : List (S25))) (inner := [.int .i64 a1_0, .int .i64 (wrap64 (a1_1 - 1)), .int .i64 (wrap64 (a1_0 + 1)), .int .i64 (wrap64 (a1_1 - 1)), .int .i64 (wrap64 (a1_0 - 1)), .int .i64 a1_1, .int .i64 (wrap64 (a1_0 + 1)), .int .i64 a1_1, .int .i64 (wrap64 (a1_0 - 1)), .int .i64 (wrap64 (a1_1 + 1)), .int .i64 a1_0, .int .i64 (wrap64 (a1_1 + 1))]) (ok := fun _ => True) (okp := fun _ => True) ?hr ?hp (fun _ hk => hk) trivial (Below.refl _ _) (Nat.le_refl _) (by simp) ?_; (case hd => rfl); (case hg => rfl); (case hr => first | (go_simp; done) | (go_simp; rfl)); (case hp => exact (Reps.c2 (show Kd.M k25 _ _ _ (⟨a1_0, wrap64 (a1_1 - 1)⟩ : S25) [.int .i64 a1_0, .int .i64 (wrap64 (a1_1 - 1))] from (k25_mkM _ _ _ (⟨a1_0, wrap64 (a1_1 - 1)⟩ : S25) )) (Reps.c2 (show Kd.M k25 _ _ _ (⟨wrap64 (a1_0 + 1), wrap64 (a1_1 - 1)⟩ : S25) [.int .i64 (wrap64 (a1_0 + 1)), .int .i64 (wrap64 (a1_1 - 1))] from (k25_mkM _ _ _ (⟨wrap64 (a1_0 + 1), wrap64 (a1_1 - 1)⟩ : S25) )) (Reps.c2 (show Kd.M k25 _ _ _ (⟨wrap64 (a1_0 - 1), a1_1⟩ : S25) [.int .i64 (wrap64 (a1_0 - 1)), .int .i64 a1_1] from (k25_mkM _ _ _ (⟨wrap64 (a1_0 - 1), a1_1⟩ : S25) )) (Reps.c2 (show Kd.M k25 _ _ _ (⟨wrap64 (a1_0 + 1), a1_1⟩ : S25) [.int .i64 (wrap64 (a1_0 + 1)), .int .i64 a1_1] from (k25_mkM _ _ _ (⟨wrap64 (a1_0 + 1), a1_1⟩ : S25) )) (Reps.c2 (show Kd.M k25 _ _ _ (⟨wrap64 (a1_0 - 1), wrap64 (a1_1 + 1)⟩ : S25) [.int .i64 (wrap64 (a1_0 - 1)), .int .i64 (wrap64 (a1_1 + 1))] from (k25_mkM _ _ _ (⟨wrap64 (a1_0 - 1), wrap64 (a1_1 + 1)⟩ : S25) )) (Reps.c2 (show Kd.M k25 _ _ _ (⟨a1_0, wrap64 (a1_1 + 1)⟩ : S25) [.int .i64 a1_0, .int .i64 (wrap64 (a1_1 + 1))] from (k25_mkM _ _ _ (⟨a1_0, wrap64 (a1_1 + 1)⟩ : S25) )) (Reps.none _ _)))))))); intro v177 w6 ho7 hb hg_ hnew_; clear hg_ hnew_; (first | rw [← Ny176.out] at ho7 | (simp only [Int.reduceToNat] at ho7; rw [← Ny176.out] at ho7)); have n0_ := aM (Kd.R_lower (Kd.R_newB ho7 (g := gb175) (o := .cells #[.int .i64 a1_0, .int .i64 a1_1] 25 (0, 0)) (mB_ BK175.out)) (below_size (zs GE175.out))); have n1_ := aM (blk_below (g := gb175) (o := .cells #[.int .i64 a1_0, .int .i64 a1_1] 25 (0, 0)) (mB_ BK175.out) hb); have n2_ := aM (below_step (zs GE175.out) hb); clear BK175; clear HB; have HO178 := n0_; have BK175 := n1_; have HB := n2_; clear n0_ n1_ n2_; clear hb ho7))
  go_ret
  exact ⟨_, zw, by (with_reducible repeat (first | apply Kd.R_alloc | apply Kd.R_drewN | apply Kd.R_drew)); exact Kd.R_mono HO178.out (fun _ hk => trivial), zs GE175.out⟩
 rw [if_neg c3] at H
 have c3b0 : (a0 == 1) = false := beq_eq_false_iff_ne.mpr c3
 have c3b1 : (a0 != 1) = true := bne_iff_ne.mpr c3
 replace H := Option.bind_eq_some_iff.mp H
 obtain ⟨t179, A80, H⟩ := H
 replace H : (if t179 = 1 then (some (([(⟨wrap64 (a1_0 + 1), wrap64 (a1_1 - 2)⟩ : S25), (⟨wrap64 (a1_0 - 2), wrap64 (a1_1 + 1)⟩ : S25), (⟨wrap64 (a1_0 + 1), wrap64 (a1_1 + 1)⟩ : S25)] : List (S25)))) else (some (([(⟨wrap64 (a1_0 - 1), wrap64 (a1_1 - 1)⟩ : S25), (⟨wrap64 (a1_0 + 2), wrap64 (a1_1 - 1)⟩ : S25), (⟨wrap64 (a1_0 - 1), wrap64 (a1_1 + 2)⟩ : S25)] : List (S25))))) = some r := H
 have A8 := aM A80
 clear A80
 by_cases c9 : t179 = 1
 rotate_left
 ·rw [if_neg c9] at H
  have c9b0 : (t179 == 1) = false := beq_eq_false_iff_ne.mpr c9
  have c9b1 : (t179 != 1) = true := bne_iff_ne.mpr c9
  obtain ⟨y183, hy183⟩ : ∃ y_ : List (S25), y_ = (([(⟨wrap64 (a1_0 - 1), wrap64 (a1_1 - 1)⟩ : S25), (⟨wrap64 (a1_0 + 2), wrap64 (a1_1 - 1)⟩ : S25), (⟨wrap64 (a1_0 - 1), wrap64 (a1_1 + 2)⟩ : S25)] : List (S25))) := ⟨_, rfl⟩
  replace H : (some y183) = some r := zy H hy183
  have Ny183 := aM hy183
  clear hy183
  obtain rfl := Option.some.inj H
  go_enter Tryz.func16, Tryz.ntmps16
  go_wp2_with (first | ((with_reducible refine gate_dst (N := 3) rfl ?_); refine box_event ?hg (N := 3) ?hd (cs := #[.int .i64 a1_0, .int .i64 a1_1]) (t := 25) ?hr ?_; (case hd => rfl); (case hg => rfl); (case hr => first | (go_simp; done) | (go_simp; rfl)); intro gb175 hg w14 hbox hb; have n0_ := aM (below_step zb hb); have n1_ := aM (hbox); have n2_ := aM ((ze : w.heap.size ≤ gb175)); have n3_ := aM ((ze : w.heap.size ≤ gb175)); clear HB; have HB := n0_; have BK175 := n1_; have GW175 := n2_; have GE175 := n3_; clear n0_ n1_ n2_ n3_; clear hb hbox hg; have hcz15_0 : w14.cell? ⟨gb175, 0, none⟩ = some (.int .i64 a1_0) := (blk_cell BK175.out 0).trans rfl; have hcz15_1 : w14.cell? ⟨gb175, 1, none⟩ = some (.int .i64 a1_1) := (blk_cell BK175.out 1).trans rfl; have hfz15_0 := blk_frozen BK175.out 0; have hfz15_1 := blk_frozen BK175.out 1) | ((with_reducible refine gate_callee (f := 33) rfl ?_); refine goesL_ (some 48) rfl rfl Tryz.func33 (by kernel_rfl) rfl #[.int .i64 a1_0, .int .i64 3] rfl zm ?_; (with_reducible refine (spec_l01Mod.calls a1_0 3 t179 _ A8.out).mono ?_); rintro e w' ⟨rfl, ⟨nd, rfl⟩⟩; refine ⟨_, rfl, ?_⟩) | ((with_reducible refine gate_dst (N := 93) rfl ?_); refine Kd.R_lit k25 _ 25 ?hg (N := 93) ?hd (xs := ([(⟨wrap64 (a1_0 - 1), wrap64 (a1_1 - 1)⟩ : S25), (⟨wrap64 (a1_0 + 2), wrap64 (a1_1 - 1)⟩ : S25), (⟨wrap64 (a1_0 - 1), wrap64 (a1_1 + 2)⟩ : S25)] : List (S25))) (inner := [.int .i64 (wrap64 (a1_0 - 1)), .int .i64 (wrap64 (a1_1 - 1)), .int .i64 (wrap64 (a1_0 + 2)), .int .i64 (wrap64 (a1_1 - 1)), .int .i64 (wrap64 (a1_0 - 1)), .int .i64 (wrap64 (a1_1 + 2))]) (ok := fun _ => True) (okp := fun _ => True) ?hr ?hp (fun _ hk => hk) trivial (Below.refl _ _) (Nat.le_refl _) (by simp) ?_; (case hd => rfl); (case hg => rfl); (case hr => first | (go_simp; done) | (go_simp; rfl)); (case hp => exact (Reps.c2 (show Kd.M k25 _ _ _ (⟨wrap64 (a1_0 - 1), wrap64 (a1_1 - 1)⟩ : S25) [.int .i64 (wrap64 (a1_0 - 1)), .int .i64 (wrap64 (a1_1 - 1))] from (k25_mkM _ _ _ (⟨wrap64 (a1_0 - 1), wrap64 (a1_1 - 1)⟩ : S25) )) (Reps.c2 (show Kd.M k25 _ _ _ (⟨wrap64 (a1_0 + 2), wrap64 (a1_1 - 1)⟩ : S25) [.int .i64 (wrap64 (a1_0 + 2)), .int .i64 (wrap64 (a1_1 - 1))] from (k25_mkM _ _ _ (⟨wrap64 (a1_0 + 2), wrap64 (a1_1 - 1)⟩ : S25) )) (Reps.c2 (show Kd.M k25 _ _ _ (⟨wrap64 (a1_0 - 1), wrap64 (a1_1 + 2)⟩ : S25) [.int .i64 (wrap64 (a1_0 - 1)), .int .i64 (wrap64 (a1_1 + 2))] from (k25_mkM _ _ _ (⟨wrap64 (a1_0 - 1), wrap64 (a1_1 + 2)⟩ : S25) )) (Reps.none _ _))))); intro v184 w16 ho17 hb hg_ hnew_; clear hg_ hnew_; (first | rw [← Ny183.out] at ho17 | (simp only [Int.reduceToNat] at ho17; rw [← Ny183.out] at ho17)); have n0_ := aM (Kd.R_lower (Kd.R_newB ho17 (g := gb175) (o := .cells #[.int .i64 a1_0, .int .i64 a1_1] 25 (0, 0)) (mB_ BK175.out)) (below_size (zs GE175.out))); have n1_ := aM (blk_below (g := gb175) (o := .cells #[.int .i64 a1_0, .int .i64 a1_1] 25 (0, 0)) (mB_ BK175.out) hb); have n2_ := aM (below_step (zs GE175.out) hb); clear BK175; clear HB; have HO185 := n0_; have BK175 := n1_; have HB := n2_; clear n0_ n1_ n2_; clear hb ho17))
  go_ret
  exact ⟨_, zw, by (with_reducible repeat (first | apply Kd.R_alloc | apply Kd.R_drewN | apply Kd.R_drew)); exact Kd.R_mono HO185.out (fun _ hk => trivial), zs GE175.out⟩
 rw [if_pos c9] at H
 have c9b0 : (t179 == 1) = true := beq_iff_eq.mpr c9
 have c9b1 : (t179 != 1) = false := bne_eq_false_iff_eq.mpr c9
 clear c9
 obtain ⟨y180, hy180⟩ : ∃ y_ : List (S25), y_ = (([(⟨wrap64 (a1_0 + 1), wrap64 (a1_1 - 2)⟩ : S25), (⟨wrap64 (a1_0 - 2), wrap64 (a1_1 + 1)⟩ : S25), (⟨wrap64 (a1_0 + 1), wrap64 (a1_1 + 1)⟩ : S25)] : List (S25))) := ⟨_, rfl⟩
 replace H : (some y180) = some r := zy H hy180
 have Ny180 := aM hy180
 clear hy180
 obtain rfl := Option.some.inj H
 go_enter Tryz.func16, Tryz.ntmps16
 go_wp2_with (first | ((with_reducible refine gate_dst (N := 3) rfl ?_); refine box_event ?hg (N := 3) ?hd (cs := #[.int .i64 a1_0, .int .i64 a1_1]) (t := 25) ?hr ?_; (case hd => rfl); (case hg => rfl); (case hr => first | (go_simp; done) | (go_simp; rfl)); intro gb175 hg w10 hbox hb; have n0_ := aM (below_step zb hb); have n1_ := aM (hbox); have n2_ := aM ((ze : w.heap.size ≤ gb175)); have n3_ := aM ((ze : w.heap.size ≤ gb175)); clear HB; have HB := n0_; have BK175 := n1_; have GW175 := n2_; have GE175 := n3_; clear n0_ n1_ n2_ n3_; clear hb hbox hg; have hcz11_0 : w10.cell? ⟨gb175, 0, none⟩ = some (.int .i64 a1_0) := (blk_cell BK175.out 0).trans rfl; have hcz11_1 : w10.cell? ⟨gb175, 1, none⟩ = some (.int .i64 a1_1) := (blk_cell BK175.out 1).trans rfl; have hfz11_0 := blk_frozen BK175.out 0; have hfz11_1 := blk_frozen BK175.out 1) | ((with_reducible refine gate_callee (f := 33) rfl ?_); refine goesL_ (some 48) rfl rfl Tryz.func33 (by kernel_rfl) rfl #[.int .i64 a1_0, .int .i64 3] rfl zm ?_; (with_reducible refine (spec_l01Mod.calls a1_0 3 t179 _ A8.out).mono ?_); rintro e w' ⟨rfl, ⟨nd, rfl⟩⟩; refine ⟨_, rfl, ?_⟩) | ((with_reducible refine gate_dst (N := 71) rfl ?_); refine Kd.R_lit k25 _ 25 ?hg (N := 71) ?hd (xs := ([(⟨wrap64 (a1_0 + 1), wrap64 (a1_1 - 2)⟩ : S25), (⟨wrap64 (a1_0 - 2), wrap64 (a1_1 + 1)⟩ : S25), (⟨wrap64 (a1_0 + 1), wrap64 (a1_1 + 1)⟩ : S25)] : List (S25))) (inner := [.int .i64 (wrap64 (a1_0 + 1)), .int .i64 (wrap64 (a1_1 - 2)), .int .i64 (wrap64 (a1_0 - 2)), .int .i64 (wrap64 (a1_1 + 1)), .int .i64 (wrap64 (a1_0 + 1)), .int .i64 (wrap64 (a1_1 + 1))]) (ok := fun _ => True) (okp := fun _ => True) ?hr ?hp (fun _ hk => hk) trivial (Below.refl _ _) (Nat.le_refl _) (by simp) ?_; (case hd => rfl); (case hg => rfl); (case hr => first | (go_simp; done) | (go_simp; rfl)); (case hp => exact (Reps.c2 (show Kd.M k25 _ _ _ (⟨wrap64 (a1_0 + 1), wrap64 (a1_1 - 2)⟩ : S25) [.int .i64 (wrap64 (a1_0 + 1)), .int .i64 (wrap64 (a1_1 - 2))] from (k25_mkM _ _ _ (⟨wrap64 (a1_0 + 1), wrap64 (a1_1 - 2)⟩ : S25) )) (Reps.c2 (show Kd.M k25 _ _ _ (⟨wrap64 (a1_0 - 2), wrap64 (a1_1 + 1)⟩ : S25) [.int .i64 (wrap64 (a1_0 - 2)), .int .i64 (wrap64 (a1_1 + 1))] from (k25_mkM _ _ _ (⟨wrap64 (a1_0 - 2), wrap64 (a1_1 + 1)⟩ : S25) )) (Reps.c2 (show Kd.M k25 _ _ _ (⟨wrap64 (a1_0 + 1), wrap64 (a1_1 + 1)⟩ : S25) [.int .i64 (wrap64 (a1_0 + 1)), .int .i64 (wrap64 (a1_1 + 1))] from (k25_mkM _ _ _ (⟨wrap64 (a1_0 + 1), wrap64 (a1_1 + 1)⟩ : S25) )) (Reps.none _ _))))); intro v181 w12 ho13 hb hg_ hnew_; clear hg_ hnew_; (first | rw [← Ny180.out] at ho13 | (simp only [Int.reduceToNat] at ho13; rw [← Ny180.out] at ho13)); have n0_ := aM (Kd.R_lower (Kd.R_newB ho13 (g := gb175) (o := .cells #[.int .i64 a1_0, .int .i64 a1_1] 25 (0, 0)) (mB_ BK175.out)) (below_size (zs GE175.out))); have n1_ := aM (blk_below (g := gb175) (o := .cells #[.int .i64 a1_0, .int .i64 a1_1] 25 (0, 0)) (mB_ BK175.out) hb); have n2_ := aM (below_step (zs GE175.out) hb); clear BK175; clear HB; have HO182 := n0_; have BK175 := n1_; have HB := n2_; clear n0_ n1_ n2_; clear hb ho13))
 go_ret
 exact ⟨_, zw, by (with_reducible repeat (first | apply Kd.R_alloc | apply Kd.R_drewN | apply Kd.R_drew)); exact Kd.R_mono HO182.out (fun _ hk => trivial), zs GE175.out⟩
end Go.Proofs.YtlnliahadgmbcaaGreat.F
end
section
namespace Go.Proofs.YtlnliahadgmbcaaGreat.F
open Go.RowKit Go.Proofs.YtlnliahadgmbcaaGreatW.PrintWords Go.Proofs.YtlnliahadgmbcaaGreatW.PrintLast Go.Proofs.YtlnliahadgmbcaaGreatW.PrintMore
attribute [local go_sem] max2_int min2_int max_two min_two max_three min_three max_four min_four
set_option linter.unusedVariables false
set_option linter.unusedSimpArgs false
def spec_TrianglesAround.f (a0_0 : Int) (a0_1 : Int) : Option ((List (S25)) × Int) := (spec_IsTriangle.f a0_0 a0_1).bind fun t187 => (if t187 = true then ((spec_l07Around.f 0 a0_0 a0_1).bind fun t188 => (some (t188, 0))) else (some (([] : List (S25)), 1)))
theorem spec_TrianglesAround.calls (a0_0 : Int) (a0_1 : Int) (r1 : List (S25)) (r2 : Int) (w : World) (h : spec_TrianglesAround.f a0_0 a0_1 = some (r1, r2)) :
  Calls Tryz.prog 7 #[.agg #[.int .i64 a0_0, .int .i64 a0_1]] w fun e w' => ∃ v0_ : Value, e = .returned (.tuple #[v0_, .int .i64 r2]) ∧ Kd.R k25 25 w' w.heap.size (fun _ => True) v0_ r1 ∧ Below w.heap.size w w' := by
 have hu25 := Tryz.underlying25
 have HB := aM (Below.refl w.heap.size w)
 have H : ((spec_IsTriangle.f a0_0 a0_1).bind fun t187 => (if t187 = true then ((spec_l07Around.f 0 a0_0 a0_1).bind fun t188 => (some (t188, 0))) else (some (([] : List (S25)), 1)))) = some (r1, r2) := h
 clear h
 replace H := Option.bind_eq_some_iff.mp H
 obtain ⟨t187, A20, H⟩ := H
 replace H : (if t187 = true then ((spec_l07Around.f 0 a0_0 a0_1).bind fun t188 => (some (t188, 0))) else (some (([] : List (S25)), 1))) = some (r1, r2) := H
 have A2 := aM A20
 clear A20
 by_cases c3 : t187 = true
 rotate_left
 ·replace c3 := Bool.eq_false_iff.mpr c3
  subst c3
  have H1 : (some (([] : List (S25)), 1)) = some (r1, r2) := by rw [if_neg (show ¬ (false = true) by decide)] at H; exact H
  clear H
  have H := H1
  clear H1
  simp only [Option.some.injEq, Prod.mk.injEq] at H
  obtain ⟨rfl, rfl⟩ := H
  go_enter Tryz.func7, Tryz.ntmps7
  go_wp2_with (first | ((with_reducible refine gate_dst (N := 1) rfl ?_); refine box_event ?hg (N := 1) ?hd (cs := #[.int .i64 a0_0, .int .i64 a0_1]) (t := 25) ?hr ?_; (case hd => rfl); (case hg => rfl); (case hr => first | (go_simp; done) | (go_simp; rfl)); intro gb186 hg w10 hbox hb; have n0_ := aM (below_step zb hb); have n1_ := aM (hbox); have n2_ := aM ((ze : w.heap.size ≤ gb186)); have n3_ := aM ((ze : w.heap.size ≤ gb186)); clear HB; have HB := n0_; have BK186 := n1_; have GW186 := n2_; have GE186 := n3_; clear n0_ n1_ n2_ n3_; clear hb hbox hg; have hcz11_0 : w10.cell? ⟨gb186, 0, none⟩ = some (.int .i64 a0_0) := (blk_cell BK186.out 0).trans rfl; have hcz11_1 : w10.cell? ⟨gb186, 1, none⟩ = some (.int .i64 a0_1) := (blk_cell BK186.out 1).trans rfl; have hfz11_0 := blk_frozen BK186.out 0; have hfz11_1 := blk_frozen BK186.out 1) | ((with_reducible refine gate_callee (f := 15) rfl ?_); refine goesL_ (some 5) rfl rfl Tryz.func15 (by kernel_rfl) rfl #[.agg #[.int .i64 a0_0, .int .i64 a0_1]] rfl zm ?_; (with_reducible refine (spec_IsTriangle.calls a0_0 a0_1 false _ A2.out).mono ?_); rintro e w12 ⟨rfl, hb⟩; refine ⟨_, rfl, ?_⟩; have n0_ := aM (blk_below (g := gb186) (o := .cells #[.int .i64 a0_0, .int .i64 a0_1] 25 (0, 0)) (mB_ BK186.out) hb); have n1_ := aM (below_step (zs GE186.out) hb); clear BK186; clear HB; have BK186 := n0_; have HB := n1_; clear n0_ n1_; (try clear hb); (try clear hb2); (try clear hk); (try clear hi)))
  go_ret2
  exact ⟨_, zw, by first | exact Kd.R_nil _ _ _ _ _ | exact Kd.N_nil _ _ _ _ _ | exact Kd.V_nil _ _ _ _ _ | exact Kd.Q_nil _ _ _ _ _ | exact Kd.S_nil _ _ _ _ _, zs GE186.out⟩
 subst c3
 have H1 : ((spec_l07Around.f 0 a0_0 a0_1).bind fun t188 => (some (t188, 0))) = some (r1, r2) := by rw [if_pos rfl] at H; exact H
 clear H
 have H := H1
 clear H1
 replace H := Option.bind_eq_some_iff.mp H
 obtain ⟨t188, A40, H⟩ := H
 replace H : (some (t188, 0)) = some (r1, r2) := H
 have A4 := aM A40
 clear A40
 simp only [Option.some.injEq, Prod.mk.injEq] at H
 obtain ⟨rfl, rfl⟩ := H
 go_enter Tryz.func7, Tryz.ntmps7
 go_wp2_with (first | ((with_reducible refine gate_dst (N := 1) rfl ?_); refine box_event ?hg (N := 1) ?hd (cs := #[.int .i64 a0_0, .int .i64 a0_1]) (t := 25) ?hr ?_; (case hd => rfl); (case hg => rfl); (case hr => first | (go_simp; done) | (go_simp; rfl)); intro gb186 hg w5 hbox hb; have n0_ := aM (below_step zb hb); have n1_ := aM (hbox); have n2_ := aM ((ze : w.heap.size ≤ gb186)); have n3_ := aM ((ze : w.heap.size ≤ gb186)); clear HB; have HB := n0_; have BK186 := n1_; have GW186 := n2_; have GE186 := n3_; clear n0_ n1_ n2_ n3_; clear hb hbox hg; have hcz6_0 : w5.cell? ⟨gb186, 0, none⟩ = some (.int .i64 a0_0) := (blk_cell BK186.out 0).trans rfl; have hcz6_1 : w5.cell? ⟨gb186, 1, none⟩ = some (.int .i64 a0_1) := (blk_cell BK186.out 1).trans rfl; have hfz6_0 := blk_frozen BK186.out 0; have hfz6_1 := blk_frozen BK186.out 1) | ((with_reducible refine gate_callee (f := 15) rfl ?_); refine goesL_ (some 5) rfl rfl Tryz.func15 (by kernel_rfl) rfl #[.agg #[.int .i64 a0_0, .int .i64 a0_1]] rfl zm ?_; (with_reducible refine (spec_IsTriangle.calls a0_0 a0_1 true _ A2.out).mono ?_); rintro e w7 ⟨rfl, hb⟩; refine ⟨_, rfl, ?_⟩; have n0_ := aM (blk_below (g := gb186) (o := .cells #[.int .i64 a0_0, .int .i64 a0_1] 25 (0, 0)) (mB_ BK186.out) hb); have n1_ := aM (below_step (zs GE186.out) hb); clear BK186; clear HB; have BK186 := n0_; have HB := n1_; clear n0_ n1_; (try clear hb); (try clear hb2); (try clear hk); (try clear hi); have hcz8_0 : w7.cell? ⟨gb186, 0, none⟩ = some (.int .i64 a0_0) := (blk_cell BK186.out 0).trans rfl; have hcz8_1 : w7.cell? ⟨gb186, 1, none⟩ = some (.int .i64 a0_1) := (blk_cell BK186.out 1).trans rfl; have hfz8_0 := blk_frozen BK186.out 0; have hfz8_1 := blk_frozen BK186.out 1) | ((with_reducible refine gate_callee (f := 16) rfl ?_); refine goesL_ (some 8) rfl rfl Tryz.func16 (by kernel_rfl) rfl #[.int .i64 0, .agg #[.int .i64 a0_0, .int .i64 a0_1]] rfl zm ?_; (with_reducible refine (spec_l07Around.calls 0 a0_0 a0_1 t188 _ A4.out).mono ?_); rintro e w9 ⟨v189, rfl, ho0, hb⟩; refine ⟨_, rfl, ?_⟩; have n0_ := aM (Kd.R_lower (Kd.R_newB ho0 (g := gb186) (o := .cells #[.int .i64 a0_0, .int .i64 a0_1] 25 (0, 0)) (mB_ BK186.out)) (below_size (zs GE186.out))); have n1_ := aM (blk_below (g := gb186) (o := .cells #[.int .i64 a0_0, .int .i64 a0_1] 25 (0, 0)) (mB_ BK186.out) hb); have n2_ := aM (below_step (zs GE186.out) hb); clear BK186; clear HB; have HO190 := n0_; have BK186 := n1_; have HB := n2_; clear n0_ n1_ n2_; (try clear hb); (try clear hb2); (try clear hk); (try clear hi); (try clear ho0)))
 go_ret2
 exact ⟨_, zw, by (with_reducible repeat (first | apply Kd.R_alloc | apply Kd.R_drewN | apply Kd.R_drew)); exact Kd.R_mono HO190.out (fun _ hk => trivial), zs GE186.out⟩
def spec_DrawTriangleShapes.f (k : Nat) (l0 : List Int) : Option (Int) := (spec_l01From.f k l0).bind fun bt191 => ((some (([1, 2, 3, 4, 5, 6, 0, 7] : List Int) : List Int)).bind fun y195 => ((spec_l01Next.f bt191.1 bt191.2.1 bt191.2.2 8).bind fun bt198 => (if 0 ≤ bt198.1 then (if bt198.1 < (y195.length : Int) then (some (rd y195 bt198.1)) else (none)) else (none))))
theorem spec_DrawTriangleShapes.calls (k : Nat) (A0 : Option Addr) (c0 : Nat) (l0 : List Int) (r : Int) (w : World) (hr0 : Kd.C (Kd.int .u8) w A0 l0.length l0) (hc0 : l0.length ≤ c0) (h : spec_DrawTriangleShapes.f k l0 = some r) :
  Calls Tryz.prog 17 #[.slice A0 l0.length c0] w fun e w' => e = .returned (.int .i64 r) ∧ Below w.heap.size w w' := by
 have HR0 := aM hr0
 have HC0 := aM hc0
 clear hr0 hc0
 have HB := aM (Below.refl w.heap.size w)
 have H : ((spec_l01From.f k l0).bind fun bt191 => ((some (([1, 2, 3, 4, 5, 6, 0, 7] : List Int) : List Int)).bind fun y195 => ((spec_l01Next.f bt191.1 bt191.2.1 bt191.2.2 8).bind fun bt198 => (if 0 ≤ bt198.1 then (if bt198.1 < (y195.length : Int) then (some (rd y195 bt198.1)) else (none)) else (none))))) = some r := h
 clear h
 replace H := Option.bind_eq_some_iff.mp H
 obtain ⟨⟨t191, t192, t193⟩, A20, H⟩ := H
 replace H : ((some (([1, 2, 3, 4, 5, 6, 0, 7] : List Int) : List Int)).bind fun y195 => ((spec_l01Next.f t191 t192 t193 8).bind fun bt198 => (if 0 ≤ bt198.1 then (if bt198.1 < (y195.length : Int) then (some (rd y195 bt198.1)) else (none)) else (none)))) = some r := H
 have A2 := aM A20
 clear A20
 obtain ⟨y195, hy195⟩ : ∃ y_ : List Int, y_ = (([1, 2, 3, 4, 5, 6, 0, 7] : List Int)) := ⟨_, rfl⟩
 replace H : ((spec_l01Next.f t191 t192 t193 8).bind fun bt198 => (if 0 ≤ bt198.1 then (if bt198.1 < (y195.length : Int) then (some (rd y195 bt198.1)) else (none)) else (none))) = some r := zy H hy195
 have Ny195 := aM hy195
 clear hy195
 replace H := Option.bind_eq_some_iff.mp H
 obtain ⟨⟨t198, t199, t200⟩, A30, H⟩ := H
 replace H : (if 0 ≤ t198 then (if t198 < (y195.length : Int) then (some (rd y195 t198)) else (none)) else (none)) = some r := H
 have A3 := aM A30
 clear A30
 by_cases c4 : 0 ≤ t198
 rotate_left
 ·rw [if_neg c4] at H
  exact absurd H (by simp)
 rw [if_pos c4] at H
 have c4b0 : decide (0 ≤ t198) = true := decide_eq_true c4
 clear c4
 by_cases c5 : t198 < (y195.length : Int)
 rotate_left
 ·rw [if_neg c5] at H
  exact absurd H (by simp)
 rw [if_pos c5] at H
 have c5b0 : decide (t198 < (y195.length : Int)) = true := decide_eq_true c5
 clear c5
 obtain rfl := Option.some.inj H
 go_enter Tryz.func17, Tryz.ntmps17
 go_wp2_with (first | ((with_reducible refine gate_callee (f := 27) rfl ?_); refine goesL_ (some 5) rfl rfl Tryz.func27 (by kernel_rfl) rfl #[.slice A0 l0.length c0] rfl zm ?_; (with_reducible refine (spec_l01From.calls k _ _ l0 t191 t192 t193 w _ ?side1 ?side2 ?side3 A2.out).mono ?_); (case side1 => repeat (first | (with_reducible first | exact HB.out | apply below_alloc | apply pw_below_drewN | apply below_drew1) | exact HB.out)); (case side2 => exact HR0.out); (case side3 => exact HC0.out); rintro e w6 ⟨g194, rfl, hi, hb, hb2⟩; refine ⟨_, rfl, ?_⟩; have n0_ := aM (hb); have n1_ := aM (hi); clear HB; have HB := n0_; have HI194 := n1_; clear n0_ n1_; (try clear hb); (try clear hb2); (try clear hk); (try clear hi)) | ((with_reducible refine gate_dst (N := 6) rfl ?_); refine Kd.R_lit (Kd.int .i64) _ 2 ?hg (N := 6) ?hd (xs := ([1, 2, 3, 4, 5, 6, 0, 7] : List Int)) (inner := [.int .i64 1, .int .i64 2, .int .i64 3, .int .i64 4, .int .i64 5, .int .i64 6, .int .i64 0, .int .i64 7]) (ok := fun _ => True) (okp := fun _ => True) ?hr ?hp (fun _ hk => hk) trivial (Below.refl _ _) (Nat.le_refl _) (by simp) ?_; (case hd => rfl); (case hg => rfl); (case hr => first | (go_simp; done) | (go_simp; rfl)); (case hp => exact (Reps.one (show Kd.M (Kd.int .i64) _ _ _ 1 [.int .i64 1] from rfl) (Reps.one (show Kd.M (Kd.int .i64) _ _ _ 2 [.int .i64 2] from rfl) (Reps.one (show Kd.M (Kd.int .i64) _ _ _ 3 [.int .i64 3] from rfl) (Reps.one (show Kd.M (Kd.int .i64) _ _ _ 4 [.int .i64 4] from rfl) (Reps.one (show Kd.M (Kd.int .i64) _ _ _ 5 [.int .i64 5] from rfl) (Reps.one (show Kd.M (Kd.int .i64) _ _ _ 6 [.int .i64 6] from rfl) (Reps.one (show Kd.M (Kd.int .i64) _ _ _ 0 [.int .i64 0] from rfl) (Reps.one (show Kd.M (Kd.int .i64) _ _ _ 7 [.int .i64 7] from rfl) (Reps.none _ _)))))))))); intro v196 w7 ho8 hb hg_ hnew_; clear hg_ hnew_; (first | rw [← Ny195.out] at ho8 | (simp only [Int.reduceToNat] at ho8; rw [← Ny195.out] at ho8)); have n0_ := aM (Kd.R_lower ho8 (below_size (zs (IsS65.ge HI194.out)))); have n1_ := aM (IsS65.below (zI65 HI194.out) hb); have n2_ := aM (below_step (zs (IsS65.ge HI194.out)) hb); clear HI194; clear HB; have HO197 := n0_; have HI194 := n1_; have HB := n2_; clear n0_ n1_ n2_; clear hb ho8) | ((with_reducible refine gate_callee (f := 28) rfl ?_); refine goesL_ (some 8) rfl rfl Tryz.func28 (by kernel_rfl) rfl #[.pointer (some ⟨g194, 0, none⟩), .int .i64 8] rfl zm ?_; (with_reducible refine (spec_l01Next.calls g194 t191 t192 t193 8 t198 t199 t200 w _ ?side1 ?side2 A3.out).mono ?_); (case side1 => exact zI65 HI194.out); (case side2 => exact zs (IsS65.ge HI194.out)); rintro e w9 ⟨rfl, hi, hb, hk⟩; refine ⟨_, rfl, ?_⟩; have n0_ := aM (Kd.R_mono (Kd.R_keep (IsS65.apart (show IsS65 w _ g194 t191 t192 t193 from zI65 HI194.out) (mR_ HO197.out) (by decide)) hk (fun _ h => h.2)) (fun _ h => h.1)); have n1_ := aM (hb); have n2_ := aM (hi); clear HO197; clear HB; clear HI194; have HO197 := n0_; have HB := n1_; have HI194 := n2_; clear n0_ n1_ n2_; (try clear hb); (try clear hb2); (try clear hk); (try clear hi); obtain ⟨Ao10, co10, eo10⟩ := Kd.R_slice HO197.out; subst eo10; have p201 : 0 ≤ (t198 : Int) := of_decide_eq_true za; have q201 : t198 < (y195.length : Int) := of_decide_eq_true za; obtain ⟨ad201, e201, hx201_0⟩ := Kd.at_int (Kd.R_reads' HO197.out).2.2 t198 p201 q201; cases e201; replace p201 := eq_true p201; replace q201 := eq_true q201))
 go_ret
 exact ⟨zw, zs (IsS65.ge HI194.out)⟩
def spec_DrawCountTriangles.f (k : Nat) (l0 : List Int) : Option (Int) := (spec_DrawTriangleShapes.f k l0).bind fun t202 => (some t202)
theorem spec_DrawCountTriangles.calls (k : Nat) (A0 : Option Addr) (c0 : Nat) (l0 : List Int) (r : Int) (w : World) (hr0 : Kd.C (Kd.int .u8) w A0 l0.length l0) (hc0 : l0.length ≤ c0) (h : spec_DrawCountTriangles.f k l0 = some r) :
  Calls Tryz.prog 8 #[.slice A0 l0.length c0] w fun e w' => e = .returned (.int .i64 r) ∧ Below w.heap.size w w' := by
 have HR0 := aM hr0
 have HC0 := aM hc0
 clear hr0 hc0
 have HB := aM (Below.refl w.heap.size w)
 have H : ((spec_DrawTriangleShapes.f k l0).bind fun t202 => (some t202)) = some r := h
 clear h
 replace H := Option.bind_eq_some_iff.mp H
 obtain ⟨t202, A20, H⟩ := H
 replace H : (some t202) = some r := H
 have A2 := aM A20
 clear A20
 obtain rfl := Option.some.inj H
 go_enter Tryz.func8, Tryz.ntmps8
 go_wp2_with (first | ((with_reducible refine gate_callee (f := 17) rfl ?_); refine goesL_ (some 4) rfl rfl Tryz.func17 (by kernel_rfl) rfl #[.slice A0 l0.length c0] rfl zm ?_; (with_reducible refine (spec_DrawTriangleShapes.calls k _ _ l0 t202 _ ?side1 ?side2 A2.out).mono ?_); (case side1 => repeat (first | exact HR0.out | (with_reducible refine Kd.C_alloc ?_ _) | (with_reducible refine Kd.C_drewN ?_ _) | (with_reducible refine Kd.C_drew ?_))); (case side2 => exact HC0.out); rintro e w3 ⟨rfl, hb⟩; refine ⟨_, rfl, ?_⟩; have n0_ := aM (below_step zb hb); clear HB; have HB := n0_; clear n0_; (try clear hb); (try clear hb2); (try clear hk); (try clear hi)))
 go_ret
 exact ⟨zw, zb⟩
def impl_Cell_85__impl_compareCells.l0 : Nat → List (S25) → List (S25) → List (S25) → Int → Int → Option (Int)
 | 0, _, _, _, _, _ => none
 | k + 1, x0, x1, x11, x12, x13 => if x13 < x12 then (if 0 ≤ x13 then (if x13 < (x11.length : Int) then (if x13 ≥ (x1.length : Int) then (some 1) else (if x13 < (x1.length : Int) then ((impl_compareCells.f ((rd_T25 x11 x13).f0) ((rd_T25 x11 x13).f1) ((rd_T25 x1 x13).f0) ((rd_T25 x1 x13).f1)).bind fun t207 => (if t207 = 0 then (impl_Cell_85__impl_compareCells.l0 k x0 x1 x11 x12 (wrap64 (x13 + 1))) else (some t207))) else (none))) else (none)) else (none)) else (if (x0.length : Int) < (x1.length : Int) then (some (-1)) else (some 0))
def impl_Cell_85__impl_compareCells.f (k : Nat) (l0 : List (S25)) (l1 : List (S25))  : Option (Int) := impl_Cell_85__impl_compareCells.l0 k l0 l1 l0 (l0.length : Int) 0
theorem impl_Cell_85__impl_compareCells.calls (k : Nat) (A0 : Option Addr) (c0 : Nat) (l0 : List (S25)) (A1 : Option Addr) (c1 : Nat) (l1 : List (S25))  (r : Int) (w : World) (hr0 : Kd.C k25 w A0 l0.length l0) (hc0 : l0.length ≤ c0) (hr1 : Kd.C k25 w A1 l1.length l1) (hc1 : l1.length ≤ c1) (h : impl_Cell_85__impl_compareCells.f k l0 l1 = some r) :
  Calls Tryz.prog 85 #[.slice A0 l0.length c0, .slice A1 l1.length c1, .func (.func 48) #[] #[]] w fun e w' => e = .returned (.int .i64 r) ∧ Below w.heap.size w w' := by
 have hu25 := Tryz.underlying25
 have HR0 := aM hr0
 have HC0 := aM hc0
 clear hr0 hc0
 have HR1 := aM hr1
 have HC1 := aM hc1
 clear hr1 hc1
 have HB := aM (Below.refl w.heap.size w)
 have H : (impl_Cell_85__impl_compareCells.l0 k l0 l1 l0 (l0.length : Int) 0) = some r := h
 clear h
 have H' := aM H
 clear H
 go_enter Tryz.func85, Tryz.ntmps85
 go_wp2
 go_loopg [13] k (fun kq v13 w' => ∃ (x13_1 : Int), v13 = .int .i64 x13_1 ∧ Aside0 (impl_Cell_85__impl_compareCells.l0 kq l0 l1 l0 (l0.length : Int) x13_1 = some r) ∧ Aside0 (kq ≤ k) ∧ Aside0 (Below w.heap.size w w'))
 case atStart => exact ⟨(0), zr, H', ⟨Nat.le_refl _⟩, ⟨zb⟩⟩
 case round =>
  clear H'
  try clear c1
  try clear p2
  obtain ⟨x13_1, rfl, HA, HK1, HB⟩ := hrel
  cases gk with
  | zero => exact absurd HA.out (by simp [impl_Cell_85__impl_compareCells.l0])
  | succ k1 =>
   have H := HA.out
   clear HA
   simp only [impl_Cell_85__impl_compareCells.l0] at H
   by_cases c4 : x13_1 < (l0.length : Int)
   rotate_left
   ·rw [if_neg c4] at H
    have c4b0 : decide (x13_1 < (l0.length : Int)) = false := decide_eq_false c4
    clear c4
    by_cases c27 : (l0.length : Int) < (l1.length : Int)
    ·rw [if_pos c27] at H
     have c27b0 : decide ((l0.length : Int) < (l1.length : Int)) = true := decide_eq_true c27
     have c27b1 : decide (l0.length < l1.length) = true := decide_eq_true (Int.ofNat_lt.mp c27)
     clear c27
     obtain rfl := Option.some.inj H
     go_wp2
     go_ret
     exact ⟨zw, zb⟩
    rw [if_neg c27] at H
    have c27b0 : decide ((l0.length : Int) < (l1.length : Int)) = false := decide_eq_false c27
    have c27b1 : decide (l0.length < l1.length) = false := decide_eq_false (fun h => c27 (Int.ofNat_lt.mpr h))
    clear c27
    obtain rfl := Option.some.inj H
    go_wp2
    go_ret
    exact ⟨zw, zb⟩
   rw [if_pos c4] at H
   have c4b0 : decide (x13_1 < (l0.length : Int)) = true := decide_eq_true c4
   clear c4
   by_cases c5 : 0 ≤ x13_1
   rotate_left
   ·rw [if_neg c5] at H
    exact absurd H (by simp)
   rw [if_pos c5] at H
   have c5b0 : decide (0 ≤ x13_1) = true := decide_eq_true c5
   clear c5
   by_cases c6 : x13_1 < (l0.length : Int)
   rotate_left
   ·rw [if_neg c6] at H
    exact absurd H (by simp)
   rw [if_pos c6] at H
   have c6b0 : decide (x13_1 < (l0.length : Int)) = true := decide_eq_true c6
   clear c6
   by_cases c7 : x13_1 ≥ (l1.length : Int)
   ·rw [if_pos c7] at H
    have c7b0 : decide ((l1.length : Int) ≤ x13_1) = true := decide_eq_true c7
    clear c7
    obtain rfl := Option.some.inj H
    have p203 : 0 ≤ (x13_1 : Int) := of_decide_eq_true za
    have q203 : x13_1 < (l0.length : Int) := of_decide_eq_true za
    obtain ⟨ad203, e203, hx203_0, hx203_1⟩ := at_T25 HR0.out x13_1 p203 q203
    cases e203
    replace hx203_0 := (HB.out.cell (World.block_lt_of_cell? w _ hx203_0)).trans hx203_0
    replace hx203_1 := (HB.out.cell (World.block_lt_of_cell? w _ hx203_1)).trans hx203_1
    replace p203 := eq_true p203
    replace q203 := eq_true q203
    go_wp2_with (first | ((with_reducible refine gate_dst (N := 8) rfl ?_); refine box_event ?hg (N := 8) ?hd (cs := #[.int .i64 0, .int .i64 0]) (t := 25) ?hr ?_; (case hd => rfl); (case hg => rfl); (case hr => first | (go_simp; done) | (go_simp; rfl)); intro gb204 hg w8 hbox hb; have n0_ := aM (below_step zb hb); have n1_ := aM (hbox); have n2_ := aM ((ze : w.heap.size ≤ gb204)); have n3_ := aM ((ze : w.heap.size ≤ gb204)); clear HB; have HB := n0_; have BK204 := n1_; have GW204 := n2_; have GE204 := n3_; clear n0_ n1_ n2_ n3_; clear hb hbox hg; have hcz9_0 : w8.cell? ⟨gb204, 0, none⟩ = some (.int .i64 0) := (blk_cell BK204.out 0).trans rfl; have hcz9_1 : w8.cell? ⟨gb204, 1, none⟩ = some (.int .i64 0) := (blk_cell BK204.out 1).trans rfl; have hfz9_0 := blk_frozen BK204.out 0; have hfz9_1 := blk_frozen BK204.out 1))
    go_ret
    exact ⟨zw, zs GE204.out⟩
   rw [if_neg c7] at H
   have c7b0 : decide ((l1.length : Int) ≤ x13_1) = false := decide_eq_false c7
   clear c7
   by_cases c10 : x13_1 < (l1.length : Int)
   rotate_left
   ·rw [if_neg c10] at H
    exact absurd H (by simp)
   rw [if_pos c10] at H
   have c10b0 : decide (x13_1 < (l1.length : Int)) = true := decide_eq_true c10
   clear c10
   replace H := Option.bind_eq_some_iff.mp H
   obtain ⟨t207, A110, H⟩ := H
   replace H : (if t207 = 0 then (impl_Cell_85__impl_compareCells.l0 k1 l0 l1 l0 (l0.length : Int) (wrap64 (x13_1 + 1))) else (some t207)) = some r := H
   have A11 := aM A110
   clear A110
   by_cases c12 : t207 = 0
   rotate_left
   ·rw [if_neg c12] at H
    have c12b0 : (t207 == 0) = false := beq_eq_false_iff_ne.mpr c12
    have c12b1 : (t207 != 0) = true := bne_iff_ne.mpr c12
    obtain rfl := Option.some.inj H
    have p203 : 0 ≤ (x13_1 : Int) := of_decide_eq_true za
    have q203 : x13_1 < (l0.length : Int) := of_decide_eq_true za
    obtain ⟨ad203, e203, hx203_0, hx203_1⟩ := at_T25 HR0.out x13_1 p203 q203
    cases e203
    replace hx203_0 := (HB.out.cell (World.block_lt_of_cell? w _ hx203_0)).trans hx203_0
    replace hx203_1 := (HB.out.cell (World.block_lt_of_cell? w _ hx203_1)).trans hx203_1
    replace p203 := eq_true p203
    replace q203 := eq_true q203
    go_wp2_with (first | ((with_reducible refine gate_dst (N := 8) rfl ?_); refine box_event ?hg (N := 8) ?hd (cs := #[.int .i64 0, .int .i64 0]) (t := 25) ?hr ?_; (case hd => rfl); (case hg => rfl); (case hr => first | (go_simp; done) | (go_simp; rfl)); intro gb204 hg w20 hbox hb; have n0_ := aM (below_step zb hb); have n1_ := aM (hbox); have n2_ := aM ((ze : w.heap.size ≤ gb204)); have n3_ := aM ((ze : w.heap.size ≤ gb204)); clear HB; have HB := n0_; have BK204 := n1_; have GW204 := n2_; have GE204 := n3_; clear n0_ n1_ n2_ n3_; clear hb hbox hg; have hcz21_0 : w20.cell? ⟨gb204, 0, none⟩ = some (.int .i64 0) := (blk_cell BK204.out 0).trans rfl; have hcz21_1 : w20.cell? ⟨gb204, 1, none⟩ = some (.int .i64 0) := (blk_cell BK204.out 1).trans rfl; have hfz21_0 := blk_frozen BK204.out 0; have hfz21_1 := blk_frozen BK204.out 1; have p205 : 0 ≤ (x13_1 : Int) := of_decide_eq_true za; have q205 : x13_1 < (l1.length : Int) := of_decide_eq_true za; obtain ⟨ad205, e205, hx205_0, hx205_1⟩ := at_T25 HR1.out x13_1 p205 q205; cases e205; have hn205_0 : ad205.block ≠ gb204 := Nat.ne_of_lt (Nat.lt_of_lt_of_le (by have := World.block_lt_of_cell? _ _ hx205_0; first | rwa [add_block] at this | exact this) GW204.out); have hn205_1 : ad205.block ≠ gb204 := Nat.ne_of_lt (Nat.lt_of_lt_of_le (by have := World.block_lt_of_cell? _ _ hx205_0; first | rwa [add_block] at this | exact this) GW204.out); replace hx205_0 := (HB.out.cell (World.block_lt_of_cell? w _ hx205_0)).trans hx205_0; replace hx205_1 := (HB.out.cell (World.block_lt_of_cell? w _ hx205_1)).trans hx205_1; replace hx205_0 := (cell_far (p := ⟨gb204, 0, none⟩) (by first | (rw [add_block]; exact hn205_0) | (show (Addr.add _ _).block ≠ _; rw [add_block]; exact hn205_0) | exact hn205_0) (.int .i64 ((rd_T25 l0 x13_1).f0))).trans hx205_0; replace hx205_1 := (cell_far (p := ⟨gb204, 0, none⟩) (by first | (rw [add_block]; exact hn205_0) | (show (Addr.add _ _).block ≠ _; rw [add_block]; exact hn205_0) | exact hn205_0) (.int .i64 ((rd_T25 l0 x13_1).f0))).trans hx205_1; replace hx205_0 := (cell_far (p := ⟨gb204, 1, none⟩) (by first | (rw [add_block]; exact hn205_1) | (show (Addr.add _ _).block ≠ _; rw [add_block]; exact hn205_1) | exact hn205_1) (.int .i64 ((rd_T25 l0 x13_1).f1))).trans hx205_0; replace hx205_1 := (cell_far (p := ⟨gb204, 1, none⟩) (by first | (rw [add_block]; exact hn205_1) | (show (Addr.add _ _).block ≠ _; rw [add_block]; exact hn205_1) | exact hn205_1) (.int .i64 ((rd_T25 l0 x13_1).f1))).trans hx205_1; clear hn205_0; clear hn205_1; replace p205 := eq_true p205; replace q205 := eq_true q205) | ((with_reducible refine gate_dst (N := 9) rfl ?_); refine box_event ?hg (N := 9) ?hd (cs := #[.int .i64 0, .int .i64 0]) (t := 25) ?hr ?_; (case hd => rfl); (case hg => rfl); (case hr => first | (go_simp; done) | (go_simp; rfl)); intro gb206 hg w22 hbox hb; have n0_ := aM (blk_below (g := gb204) (o := .cells #[.int .i64 ((rd_T25 l0 x13_1).f0), .int .i64 ((rd_T25 l0 x13_1).f1)] 25 (0, 0)) (by (with_reducible repeat (first | refine blk_drewN ?_ _ | refine blk_drew ?_ | refine blk_alloc ?_ _)); refine blk_put (cs := #[.int .i64 ((rd_T25 l0 x13_1).f0), .int .i64 0]) ?_ 1 _ rfl; (with_reducible repeat (first | refine blk_drewN ?_ _ | refine blk_drew ?_ | refine blk_alloc ?_ _)); refine blk_put (cs := #[.int .i64 0, .int .i64 0]) ?_ 0 _ rfl; (with_reducible repeat (first | refine blk_drewN ?_ _ | refine blk_drew ?_ | refine blk_alloc ?_ _)); exact BK204.out) hb); have n1_ := aM (below_step (zs GE204.out) hb); have n2_ := aM (hbox); have n3_ := aM ((zf GE204.out : w.heap.size ≤ gb206)); have n4_ := aM ((zf GE204.out : w.heap.size ≤ gb206)); have n5_ := aM ((by rw [hg]; exact Nat.ne_of_lt (blk_lt (g := gb204) (o := .cells #[.int .i64 ((rd_T25 l0 x13_1).f0), .int .i64 ((rd_T25 l0 x13_1).f1)] 25 (0, 0)) (by (with_reducible repeat (first | refine blk_drewN ?_ _ | refine blk_drew ?_ | refine blk_alloc ?_ _)); refine blk_put (cs := #[.int .i64 ((rd_T25 l0 x13_1).f0), .int .i64 0]) ?_ 1 _ rfl; (with_reducible repeat (first | refine blk_drewN ?_ _ | refine blk_drew ?_ | refine blk_alloc ?_ _)); refine blk_put (cs := #[.int .i64 0, .int .i64 0]) ?_ 0 _ rfl; (with_reducible repeat (first | refine blk_drewN ?_ _ | refine blk_drew ?_ | refine blk_alloc ?_ _)); exact BK204.out)) : gb204 ≠ gb206)); have n6_ := aM ((by rw [hg]; exact Nat.ne_of_gt (blk_lt (g := gb204) (o := .cells #[.int .i64 ((rd_T25 l0 x13_1).f0), .int .i64 ((rd_T25 l0 x13_1).f1)] 25 (0, 0)) (by (with_reducible repeat (first | refine blk_drewN ?_ _ | refine blk_drew ?_ | refine blk_alloc ?_ _)); refine blk_put (cs := #[.int .i64 ((rd_T25 l0 x13_1).f0), .int .i64 0]) ?_ 1 _ rfl; (with_reducible repeat (first | refine blk_drewN ?_ _ | refine blk_drew ?_ | refine blk_alloc ?_ _)); refine blk_put (cs := #[.int .i64 0, .int .i64 0]) ?_ 0 _ rfl; (with_reducible repeat (first | refine blk_drewN ?_ _ | refine blk_drew ?_ | refine blk_alloc ?_ _)); exact BK204.out)) : gb206 ≠ gb204)); clear BK204; clear HB; have BK204 := n0_; have HB := n1_; have BK206 := n2_; have GW206 := n3_; have GE206 := n4_; have NB204_206 := n5_; have NB206_204 := n6_; clear n0_ n1_ n2_ n3_ n4_ n5_ n6_; clear hb hbox hg; have hnb23 := NB206_204.out; have hnc23 := NB204_206.out; have hcz24_0 : w22.cell? ⟨gb206, 0, none⟩ = some (.int .i64 0) := (blk_cell BK206.out 0).trans rfl; have hcz24_1 : w22.cell? ⟨gb206, 1, none⟩ = some (.int .i64 0) := (blk_cell BK206.out 1).trans rfl; have hfz24_0 := blk_frozen BK206.out 0; have hfz24_1 := blk_frozen BK206.out 1; have hcz25_0 : w22.cell? ⟨gb204, 0, none⟩ = some (.int .i64 ((rd_T25 l0 x13_1).f0)) := (blk_cell BK204.out 0).trans rfl; have hcz25_1 : w22.cell? ⟨gb204, 1, none⟩ = some (.int .i64 ((rd_T25 l0 x13_1).f1)) := (blk_cell BK204.out 1).trans rfl; have hfz25_0 := blk_frozen BK204.out 0; have hfz25_1 := blk_frozen BK204.out 1) | (go_at_call 48; (with_reducible refine (impl_compareCells.calls ((rd_T25 l0 x13_1).f0) ((rd_T25 l0 x13_1).f1) ((rd_T25 l1 x13_1).f0) ((rd_T25 l1 x13_1).f1) t207 _ A11.out).mono ?_); rintro e w26 ⟨rfl, hb⟩; have n0_ := aM (blk_below (g := gb204) (o := .cells #[.int .i64 ((rd_T25 l0 x13_1).f0), .int .i64 ((rd_T25 l0 x13_1).f1)] 25 (0, 0)) (by (with_reducible repeat (first | refine blk_drewN ?_ _ | refine blk_drew ?_ | refine blk_alloc ?_ _)); refine blk_far ?_ NB204_206.out _; (with_reducible repeat (first | refine blk_drewN ?_ _ | refine blk_drew ?_ | refine blk_alloc ?_ _)); refine blk_far ?_ NB204_206.out _; (with_reducible repeat (first | refine blk_drewN ?_ _ | refine blk_drew ?_ | refine blk_alloc ?_ _)); exact BK204.out) hb); have n1_ := aM (blk_below (g := gb206) (o := .cells #[.int .i64 ((rd_T25 l1 x13_1).f0), .int .i64 ((rd_T25 l1 x13_1).f1)] 25 (0, 0)) (by (with_reducible repeat (first | refine blk_drewN ?_ _ | refine blk_drew ?_ | refine blk_alloc ?_ _)); refine blk_put (cs := #[.int .i64 ((rd_T25 l1 x13_1).f0), .int .i64 0]) ?_ 1 _ rfl; (with_reducible repeat (first | refine blk_drewN ?_ _ | refine blk_drew ?_ | refine blk_alloc ?_ _)); refine blk_put (cs := #[.int .i64 0, .int .i64 0]) ?_ 0 _ rfl; (with_reducible repeat (first | refine blk_drewN ?_ _ | refine blk_drew ?_ | refine blk_alloc ?_ _)); exact BK206.out) hb); have n2_ := aM (below_step (zt GE204.out GE206.out) hb); clear BK204; clear BK206; clear HB; have BK204 := n0_; have BK206 := n1_; have HB := n2_; clear n0_ n1_ n2_; (try clear hb); (try clear hb2); (try clear hk); (try clear hi)))
    go_ret
    exact ⟨zw, zt GE204.out GE206.out⟩
   rw [if_pos c12] at H
   have c12b0 : (t207 == 0) = true := beq_iff_eq.mpr c12
   have c12b1 : (t207 != 0) = false := bne_eq_false_iff_eq.mpr c12
   clear c12
   have H' := aM H
   clear H
   have p203 : 0 ≤ (x13_1 : Int) := of_decide_eq_true za
   have q203 : x13_1 < (l0.length : Int) := of_decide_eq_true za
   obtain ⟨ad203, e203, hx203_0, hx203_1⟩ := at_T25 HR0.out x13_1 p203 q203
   cases e203
   replace hx203_0 := (HB.out.cell (World.block_lt_of_cell? w _ hx203_0)).trans hx203_0
   replace hx203_1 := (HB.out.cell (World.block_lt_of_cell? w _ hx203_1)).trans hx203_1
   replace p203 := eq_true p203
   replace q203 := eq_true q203
   go_wp2_with (first | ((with_reducible refine gate_dst (N := 8) rfl ?_); refine box_event ?hg (N := 8) ?hd (cs := #[.int .i64 0, .int .i64 0]) (t := 25) ?hr ?_; (case hd => rfl); (case hg => rfl); (case hr => first | (go_simp; done) | (go_simp; rfl)); intro gb204 hg w13 hbox hb; have n0_ := aM (below_step zb hb); have n1_ := aM (hbox); have n2_ := aM ((ze : w.heap.size ≤ gb204)); have n3_ := aM ((ze : w.heap.size ≤ gb204)); clear HB; have HB := n0_; have BK204 := n1_; have GW204 := n2_; have GE204 := n3_; clear n0_ n1_ n2_ n3_; clear hb hbox hg; have hcz14_0 : w13.cell? ⟨gb204, 0, none⟩ = some (.int .i64 0) := (blk_cell BK204.out 0).trans rfl; have hcz14_1 : w13.cell? ⟨gb204, 1, none⟩ = some (.int .i64 0) := (blk_cell BK204.out 1).trans rfl; have hfz14_0 := blk_frozen BK204.out 0; have hfz14_1 := blk_frozen BK204.out 1; have p205 : 0 ≤ (x13_1 : Int) := of_decide_eq_true za; have q205 : x13_1 < (l1.length : Int) := of_decide_eq_true za; obtain ⟨ad205, e205, hx205_0, hx205_1⟩ := at_T25 HR1.out x13_1 p205 q205; cases e205; have hn205_0 : ad205.block ≠ gb204 := Nat.ne_of_lt (Nat.lt_of_lt_of_le (by have := World.block_lt_of_cell? _ _ hx205_0; first | rwa [add_block] at this | exact this) GW204.out); have hn205_1 : ad205.block ≠ gb204 := Nat.ne_of_lt (Nat.lt_of_lt_of_le (by have := World.block_lt_of_cell? _ _ hx205_0; first | rwa [add_block] at this | exact this) GW204.out); replace hx205_0 := (HB.out.cell (World.block_lt_of_cell? w _ hx205_0)).trans hx205_0; replace hx205_1 := (HB.out.cell (World.block_lt_of_cell? w _ hx205_1)).trans hx205_1; replace hx205_0 := (cell_far (p := ⟨gb204, 0, none⟩) (by first | (rw [add_block]; exact hn205_0) | (show (Addr.add _ _).block ≠ _; rw [add_block]; exact hn205_0) | exact hn205_0) (.int .i64 ((rd_T25 l0 x13_1).f0))).trans hx205_0; replace hx205_1 := (cell_far (p := ⟨gb204, 0, none⟩) (by first | (rw [add_block]; exact hn205_0) | (show (Addr.add _ _).block ≠ _; rw [add_block]; exact hn205_0) | exact hn205_0) (.int .i64 ((rd_T25 l0 x13_1).f0))).trans hx205_1; replace hx205_0 := (cell_far (p := ⟨gb204, 1, none⟩) (by first | (rw [add_block]; exact hn205_1) | (show (Addr.add _ _).block ≠ _; rw [add_block]; exact hn205_1) | exact hn205_1) (.int .i64 ((rd_T25 l0 x13_1).f1))).trans hx205_0; replace hx205_1 := (cell_far (p := ⟨gb204, 1, none⟩) (by first | (rw [add_block]; exact hn205_1) | (show (Addr.add _ _).block ≠ _; rw [add_block]; exact hn205_1) | exact hn205_1) (.int .i64 ((rd_T25 l0 x13_1).f1))).trans hx205_1; clear hn205_0; clear hn205_1; replace p205 := eq_true p205; replace q205 := eq_true q205) | ((with_reducible refine gate_dst (N := 9) rfl ?_); refine box_event ?hg (N := 9) ?hd (cs := #[.int .i64 0, .int .i64 0]) (t := 25) ?hr ?_; (case hd => rfl); (case hg => rfl); (case hr => first | (go_simp; done) | (go_simp; rfl)); intro gb206 hg w15 hbox hb; have n0_ := aM (blk_below (g := gb204) (o := .cells #[.int .i64 ((rd_T25 l0 x13_1).f0), .int .i64 ((rd_T25 l0 x13_1).f1)] 25 (0, 0)) (by (with_reducible repeat (first | refine blk_drewN ?_ _ | refine blk_drew ?_ | refine blk_alloc ?_ _)); refine blk_put (cs := #[.int .i64 ((rd_T25 l0 x13_1).f0), .int .i64 0]) ?_ 1 _ rfl; (with_reducible repeat (first | refine blk_drewN ?_ _ | refine blk_drew ?_ | refine blk_alloc ?_ _)); refine blk_put (cs := #[.int .i64 0, .int .i64 0]) ?_ 0 _ rfl; (with_reducible repeat (first | refine blk_drewN ?_ _ | refine blk_drew ?_ | refine blk_alloc ?_ _)); exact BK204.out) hb); have n1_ := aM (below_step (zs GE204.out) hb); have n2_ := aM (hbox); have n3_ := aM ((zf GE204.out : w.heap.size ≤ gb206)); have n4_ := aM ((zf GE204.out : w.heap.size ≤ gb206)); have n5_ := aM ((by rw [hg]; exact Nat.ne_of_lt (blk_lt (g := gb204) (o := .cells #[.int .i64 ((rd_T25 l0 x13_1).f0), .int .i64 ((rd_T25 l0 x13_1).f1)] 25 (0, 0)) (by (with_reducible repeat (first | refine blk_drewN ?_ _ | refine blk_drew ?_ | refine blk_alloc ?_ _)); refine blk_put (cs := #[.int .i64 ((rd_T25 l0 x13_1).f0), .int .i64 0]) ?_ 1 _ rfl; (with_reducible repeat (first | refine blk_drewN ?_ _ | refine blk_drew ?_ | refine blk_alloc ?_ _)); refine blk_put (cs := #[.int .i64 0, .int .i64 0]) ?_ 0 _ rfl; (with_reducible repeat (first | refine blk_drewN ?_ _ | refine blk_drew ?_ | refine blk_alloc ?_ _)); exact BK204.out)) : gb204 ≠ gb206)); have n6_ := aM ((by rw [hg]; exact Nat.ne_of_gt (blk_lt (g := gb204) (o := .cells #[.int .i64 ((rd_T25 l0 x13_1).f0), .int .i64 ((rd_T25 l0 x13_1).f1)] 25 (0, 0)) (by (with_reducible repeat (first | refine blk_drewN ?_ _ | refine blk_drew ?_ | refine blk_alloc ?_ _)); refine blk_put (cs := #[.int .i64 ((rd_T25 l0 x13_1).f0), .int .i64 0]) ?_ 1 _ rfl; (with_reducible repeat (first | refine blk_drewN ?_ _ | refine blk_drew ?_ | refine blk_alloc ?_ _)); refine blk_put (cs := #[.int .i64 0, .int .i64 0]) ?_ 0 _ rfl; (with_reducible repeat (first | refine blk_drewN ?_ _ | refine blk_drew ?_ | refine blk_alloc ?_ _)); exact BK204.out)) : gb206 ≠ gb204)); clear BK204; clear HB; have BK204 := n0_; have HB := n1_; have BK206 := n2_; have GW206 := n3_; have GE206 := n4_; have NB204_206 := n5_; have NB206_204 := n6_; clear n0_ n1_ n2_ n3_ n4_ n5_ n6_; clear hb hbox hg; have hnb16 := NB206_204.out; have hnc16 := NB204_206.out; have hcz17_0 : w15.cell? ⟨gb206, 0, none⟩ = some (.int .i64 0) := (blk_cell BK206.out 0).trans rfl; have hcz17_1 : w15.cell? ⟨gb206, 1, none⟩ = some (.int .i64 0) := (blk_cell BK206.out 1).trans rfl; have hfz17_0 := blk_frozen BK206.out 0; have hfz17_1 := blk_frozen BK206.out 1; have hcz18_0 : w15.cell? ⟨gb204, 0, none⟩ = some (.int .i64 ((rd_T25 l0 x13_1).f0)) := (blk_cell BK204.out 0).trans rfl; have hcz18_1 : w15.cell? ⟨gb204, 1, none⟩ = some (.int .i64 ((rd_T25 l0 x13_1).f1)) := (blk_cell BK204.out 1).trans rfl; have hfz18_0 := blk_frozen BK204.out 0; have hfz18_1 := blk_frozen BK204.out 1) | (go_at_call 48; (with_reducible refine (impl_compareCells.calls ((rd_T25 l0 x13_1).f0) ((rd_T25 l0 x13_1).f1) ((rd_T25 l1 x13_1).f0) ((rd_T25 l1 x13_1).f1) t207 _ A11.out).mono ?_); rintro e w19 ⟨rfl, hb⟩; have n0_ := aM (blk_below (g := gb204) (o := .cells #[.int .i64 ((rd_T25 l0 x13_1).f0), .int .i64 ((rd_T25 l0 x13_1).f1)] 25 (0, 0)) (by (with_reducible repeat (first | refine blk_drewN ?_ _ | refine blk_drew ?_ | refine blk_alloc ?_ _)); refine blk_far ?_ NB204_206.out _; (with_reducible repeat (first | refine blk_drewN ?_ _ | refine blk_drew ?_ | refine blk_alloc ?_ _)); refine blk_far ?_ NB204_206.out _; (with_reducible repeat (first | refine blk_drewN ?_ _ | refine blk_drew ?_ | refine blk_alloc ?_ _)); exact BK204.out) hb); have n1_ := aM (blk_below (g := gb206) (o := .cells #[.int .i64 ((rd_T25 l1 x13_1).f0), .int .i64 ((rd_T25 l1 x13_1).f1)] 25 (0, 0)) (by (with_reducible repeat (first | refine blk_drewN ?_ _ | refine blk_drew ?_ | refine blk_alloc ?_ _)); refine blk_put (cs := #[.int .i64 ((rd_T25 l1 x13_1).f0), .int .i64 0]) ?_ 1 _ rfl; (with_reducible repeat (first | refine blk_drewN ?_ _ | refine blk_drew ?_ | refine blk_alloc ?_ _)); refine blk_put (cs := #[.int .i64 0, .int .i64 0]) ?_ 0 _ rfl; (with_reducible repeat (first | refine blk_drewN ?_ _ | refine blk_drew ?_ | refine blk_alloc ?_ _)); exact BK206.out) hb); have n2_ := aM (below_step (zt GE204.out GE206.out) hb); clear BK204; clear BK206; clear HB; have BK204 := n0_; have BK206 := n1_; have HB := n2_; clear n0_ n1_ n2_; (try clear hb); (try clear hb2); (try clear hk); (try clear hi)))
   go_roundg k1
   case measure => have := HK1.out; omega
   case rel => exact ⟨(wrap64 (x13_1 + 1)), zr, H', ⟨by have := HK1.out; omega⟩, ⟨zt GE204.out GE206.out⟩⟩
theorem impl_Cell_85__impl_compareCells.callsG (k : Nat) (A0 : Option Addr) (c0 : Nat) (l0 : List (S25)) (A1 : Option Addr) (c1 : Nat) (l1 : List (S25))  (r : Int) (w : World) (hr0 : Kd.C k25 w A0 l0.length l0) (hc0 : l0.length ≤ c0) (hr1 : Kd.C k25 w A1 l1.length l1) (hc1 : l1.length ≤ c1) (h : impl_Cell_85__impl_compareCells.f k l0 l1 = some r) :
  Calls Tryz.prog 85 #[.slice A0 l0.length c0, .slice A1 l1.length c1, .func (.func 48) #[] #[]] w fun e w' => e = .returned (.int .i64 r) ∧ BelG w.heap.size w w' := by
 have hu25 := Tryz.underlying25
 have HR0 := aM hr0
 have HC0 := aM hc0
 clear hr0 hc0
 have HR1 := aM hr1
 have HC1 := aM hc1
 clear hr1 hc1
 have HB := aM (BelG.refl w.heap.size w)
 have H : (impl_Cell_85__impl_compareCells.l0 k l0 l1 l0 (l0.length : Int) 0) = some r := h
 clear h
 have H' := aM H
 clear H
 go_enter Tryz.func85, Tryz.ntmps85
 go_wp2
 go_loopg [13] k (fun kq v13 w' => ∃ (x13_1 : Int), v13 = .int .i64 x13_1 ∧ Aside0 (impl_Cell_85__impl_compareCells.l0 kq l0 l1 l0 (l0.length : Int) x13_1 = some r) ∧ Aside0 (kq ≤ k) ∧ Aside0 (BelG w.heap.size w w'))
 case atStart => exact ⟨(0), zr, H', ⟨Nat.le_refl _⟩, ⟨zg⟩⟩
 case round =>
  clear H'
  try clear c1
  try clear p2
  obtain ⟨x13_1, rfl, HA, HK1, HB⟩ := hrel
  cases gk with
  | zero => exact absurd HA.out (by simp [impl_Cell_85__impl_compareCells.l0])
  | succ k1 =>
   have H := HA.out
   clear HA
   simp only [impl_Cell_85__impl_compareCells.l0] at H
   by_cases c4 : x13_1 < (l0.length : Int)
   rotate_left
   ·rw [if_neg c4] at H
    have c4b0 : decide (x13_1 < (l0.length : Int)) = false := decide_eq_false c4
    clear c4
    by_cases c27 : (l0.length : Int) < (l1.length : Int)
    ·rw [if_pos c27] at H
     have c27b0 : decide ((l0.length : Int) < (l1.length : Int)) = true := decide_eq_true c27
     have c27b1 : decide (l0.length < l1.length) = true := decide_eq_true (Int.ofNat_lt.mp c27)
     clear c27
     obtain rfl := Option.some.inj H
     go_wp2
     go_ret
     exact ⟨zw, zg⟩
    rw [if_neg c27] at H
    have c27b0 : decide ((l0.length : Int) < (l1.length : Int)) = false := decide_eq_false c27
    have c27b1 : decide (l0.length < l1.length) = false := decide_eq_false (fun h => c27 (Int.ofNat_lt.mpr h))
    clear c27
    obtain rfl := Option.some.inj H
    go_wp2
    go_ret
    exact ⟨zw, zg⟩
   rw [if_pos c4] at H
   have c4b0 : decide (x13_1 < (l0.length : Int)) = true := decide_eq_true c4
   clear c4
   by_cases c5 : 0 ≤ x13_1
   rotate_left
   ·rw [if_neg c5] at H
    exact absurd H (by simp)
   rw [if_pos c5] at H
   have c5b0 : decide (0 ≤ x13_1) = true := decide_eq_true c5
   clear c5
   by_cases c6 : x13_1 < (l0.length : Int)
   rotate_left
   ·rw [if_neg c6] at H
    exact absurd H (by simp)
   rw [if_pos c6] at H
   have c6b0 : decide (x13_1 < (l0.length : Int)) = true := decide_eq_true c6
   clear c6
   by_cases c7 : x13_1 ≥ (l1.length : Int)
   ·rw [if_pos c7] at H
    have c7b0 : decide ((l1.length : Int) ≤ x13_1) = true := decide_eq_true c7
    clear c7
    obtain rfl := Option.some.inj H
    have p203 : 0 ≤ (x13_1 : Int) := of_decide_eq_true za
    have q203 : x13_1 < (l0.length : Int) := of_decide_eq_true za
    obtain ⟨ad203, e203, hx203_0, hx203_1⟩ := at_T25 HR0.out x13_1 p203 q203
    cases e203
    replace hx203_0 := (HB.out.cell (World.block_lt_of_cell? w _ hx203_0)).trans hx203_0
    replace hx203_1 := (HB.out.cell (World.block_lt_of_cell? w _ hx203_1)).trans hx203_1
    replace p203 := eq_true p203
    replace q203 := eq_true q203
    go_wp2_with (first | ((with_reducible refine gate_dst (N := 8) rfl ?_); refine box_eventD ?hg (N := 8) ?hd (cs := #[.int .i64 0, .int .i64 0]) (t := 25) ?hr ?_; (case hd => rfl); (case hg => rfl); (case hr => first | (go_simp; done) | (go_simp; rfl)); intro gb204 hg w8 hbox hb; have n0_ := aM (belG_step zg hb); have n1_ := aM (hbox); have n2_ := aM ((zi : w.heap.size ≤ gb204)); have n3_ := aM ((zi : w.heap.size ≤ gb204)); clear HB; have HB := n0_; have BK204 := n1_; have GW204 := n2_; have GE204 := n3_; clear n0_ n1_ n2_ n3_; clear hb hbox hg; have hcz9_0 : w8.cell? ⟨gb204, 0, none⟩ = some (.int .i64 0) := (blk_cell BK204.out 0).trans rfl; have hcz9_1 : w8.cell? ⟨gb204, 1, none⟩ = some (.int .i64 0) := (blk_cell BK204.out 1).trans rfl; have hfz9_0 := blk_frozen BK204.out 0; have hfz9_1 := blk_frozen BK204.out 1))
    go_ret
    exact ⟨zw, zh GE204.out⟩
   rw [if_neg c7] at H
   have c7b0 : decide ((l1.length : Int) ≤ x13_1) = false := decide_eq_false c7
   clear c7
   by_cases c10 : x13_1 < (l1.length : Int)
   rotate_left
   ·rw [if_neg c10] at H
    exact absurd H (by simp)
   rw [if_pos c10] at H
   have c10b0 : decide (x13_1 < (l1.length : Int)) = true := decide_eq_true c10
   clear c10
   replace H := Option.bind_eq_some_iff.mp H
   obtain ⟨t207, A110, H⟩ := H
   replace H : (if t207 = 0 then (impl_Cell_85__impl_compareCells.l0 k1 l0 l1 l0 (l0.length : Int) (wrap64 (x13_1 + 1))) else (some t207)) = some r := H
   have A11 := aM A110
   clear A110
   by_cases c12 : t207 = 0
   rotate_left
   ·rw [if_neg c12] at H
    have c12b0 : (t207 == 0) = false := beq_eq_false_iff_ne.mpr c12
    have c12b1 : (t207 != 0) = true := bne_iff_ne.mpr c12
    obtain rfl := Option.some.inj H
    have p203 : 0 ≤ (x13_1 : Int) := of_decide_eq_true za
    have q203 : x13_1 < (l0.length : Int) := of_decide_eq_true za
    obtain ⟨ad203, e203, hx203_0, hx203_1⟩ := at_T25 HR0.out x13_1 p203 q203
    cases e203
    replace hx203_0 := (HB.out.cell (World.block_lt_of_cell? w _ hx203_0)).trans hx203_0
    replace hx203_1 := (HB.out.cell (World.block_lt_of_cell? w _ hx203_1)).trans hx203_1
    replace p203 := eq_true p203
    replace q203 := eq_true q203
    go_wp2_with (first | ((with_reducible refine gate_dst (N := 8) rfl ?_); refine box_eventD ?hg (N := 8) ?hd (cs := #[.int .i64 0, .int .i64 0]) (t := 25) ?hr ?_; (case hd => rfl); (case hg => rfl); (case hr => first | (go_simp; done) | (go_simp; rfl)); intro gb204 hg w20 hbox hb; have n0_ := aM (belG_step zg hb); have n1_ := aM (hbox); have n2_ := aM ((zi : w.heap.size ≤ gb204)); have n3_ := aM ((zi : w.heap.size ≤ gb204)); clear HB; have HB := n0_; have BK204 := n1_; have GW204 := n2_; have GE204 := n3_; clear n0_ n1_ n2_ n3_; clear hb hbox hg; have hcz21_0 : w20.cell? ⟨gb204, 0, none⟩ = some (.int .i64 0) := (blk_cell BK204.out 0).trans rfl; have hcz21_1 : w20.cell? ⟨gb204, 1, none⟩ = some (.int .i64 0) := (blk_cell BK204.out 1).trans rfl; have hfz21_0 := blk_frozen BK204.out 0; have hfz21_1 := blk_frozen BK204.out 1; have p205 : 0 ≤ (x13_1 : Int) := of_decide_eq_true za; have q205 : x13_1 < (l1.length : Int) := of_decide_eq_true za; obtain ⟨ad205, e205, hx205_0, hx205_1⟩ := at_T25 HR1.out x13_1 p205 q205; cases e205; have hn205_0 : ad205.block ≠ gb204 := Nat.ne_of_lt (Nat.lt_of_lt_of_le (by have := World.block_lt_of_cell? _ _ hx205_0; first | rwa [add_block] at this | exact this) GW204.out); have hn205_1 : ad205.block ≠ gb204 := Nat.ne_of_lt (Nat.lt_of_lt_of_le (by have := World.block_lt_of_cell? _ _ hx205_0; first | rwa [add_block] at this | exact this) GW204.out); replace hx205_0 := (HB.out.cell (World.block_lt_of_cell? w _ hx205_0)).trans hx205_0; replace hx205_1 := (HB.out.cell (World.block_lt_of_cell? w _ hx205_1)).trans hx205_1; replace hx205_0 := (cell_far (p := ⟨gb204, 0, none⟩) (by first | (rw [add_block]; exact hn205_0) | (show (Addr.add _ _).block ≠ _; rw [add_block]; exact hn205_0) | exact hn205_0) (.int .i64 ((rd_T25 l0 x13_1).f0))).trans hx205_0; replace hx205_1 := (cell_far (p := ⟨gb204, 0, none⟩) (by first | (rw [add_block]; exact hn205_0) | (show (Addr.add _ _).block ≠ _; rw [add_block]; exact hn205_0) | exact hn205_0) (.int .i64 ((rd_T25 l0 x13_1).f0))).trans hx205_1; replace hx205_0 := (cell_far (p := ⟨gb204, 1, none⟩) (by first | (rw [add_block]; exact hn205_1) | (show (Addr.add _ _).block ≠ _; rw [add_block]; exact hn205_1) | exact hn205_1) (.int .i64 ((rd_T25 l0 x13_1).f1))).trans hx205_0; replace hx205_1 := (cell_far (p := ⟨gb204, 1, none⟩) (by first | (rw [add_block]; exact hn205_1) | (show (Addr.add _ _).block ≠ _; rw [add_block]; exact hn205_1) | exact hn205_1) (.int .i64 ((rd_T25 l0 x13_1).f1))).trans hx205_1; clear hn205_0; clear hn205_1; replace p205 := eq_true p205; replace q205 := eq_true q205) | ((with_reducible refine gate_dst (N := 9) rfl ?_); refine box_eventD ?hg (N := 9) ?hd (cs := #[.int .i64 0, .int .i64 0]) (t := 25) ?hr ?_; (case hd => rfl); (case hg => rfl); (case hr => first | (go_simp; done) | (go_simp; rfl)); intro gb206 hg w22 hbox hb; have n0_ := aM (blk_belG (g := gb204) (o := .cells #[.int .i64 ((rd_T25 l0 x13_1).f0), .int .i64 ((rd_T25 l0 x13_1).f1)] 25 (0, 0)) (by (with_reducible repeat (first | refine blk_drewN ?_ _ | refine blk_drew ?_ | refine blk_alloc ?_ _)); refine blk_put (cs := #[.int .i64 ((rd_T25 l0 x13_1).f0), .int .i64 0]) ?_ 1 _ rfl; (with_reducible repeat (first | refine blk_drewN ?_ _ | refine blk_drew ?_ | refine blk_alloc ?_ _)); refine blk_put (cs := #[.int .i64 0, .int .i64 0]) ?_ 0 _ rfl; (with_reducible repeat (first | refine blk_drewN ?_ _ | refine blk_drew ?_ | refine blk_alloc ?_ _)); exact BK204.out) hb); have n1_ := aM (belG_step (zh GE204.out) hb); have n2_ := aM (hbox); have n3_ := aM ((zj GE204.out : w.heap.size ≤ gb206)); have n4_ := aM ((zj GE204.out : w.heap.size ≤ gb206)); have n5_ := aM ((by rw [hg]; exact Nat.ne_of_lt (blk_lt (g := gb204) (o := .cells #[.int .i64 ((rd_T25 l0 x13_1).f0), .int .i64 ((rd_T25 l0 x13_1).f1)] 25 (0, 0)) (by (with_reducible repeat (first | refine blk_drewN ?_ _ | refine blk_drew ?_ | refine blk_alloc ?_ _)); refine blk_put (cs := #[.int .i64 ((rd_T25 l0 x13_1).f0), .int .i64 0]) ?_ 1 _ rfl; (with_reducible repeat (first | refine blk_drewN ?_ _ | refine blk_drew ?_ | refine blk_alloc ?_ _)); refine blk_put (cs := #[.int .i64 0, .int .i64 0]) ?_ 0 _ rfl; (with_reducible repeat (first | refine blk_drewN ?_ _ | refine blk_drew ?_ | refine blk_alloc ?_ _)); exact BK204.out)) : gb204 ≠ gb206)); have n6_ := aM ((by rw [hg]; exact Nat.ne_of_gt (blk_lt (g := gb204) (o := .cells #[.int .i64 ((rd_T25 l0 x13_1).f0), .int .i64 ((rd_T25 l0 x13_1).f1)] 25 (0, 0)) (by (with_reducible repeat (first | refine blk_drewN ?_ _ | refine blk_drew ?_ | refine blk_alloc ?_ _)); refine blk_put (cs := #[.int .i64 ((rd_T25 l0 x13_1).f0), .int .i64 0]) ?_ 1 _ rfl; (with_reducible repeat (first | refine blk_drewN ?_ _ | refine blk_drew ?_ | refine blk_alloc ?_ _)); refine blk_put (cs := #[.int .i64 0, .int .i64 0]) ?_ 0 _ rfl; (with_reducible repeat (first | refine blk_drewN ?_ _ | refine blk_drew ?_ | refine blk_alloc ?_ _)); exact BK204.out)) : gb206 ≠ gb204)); clear BK204; clear HB; have BK204 := n0_; have HB := n1_; have BK206 := n2_; have GW206 := n3_; have GE206 := n4_; have NB204_206 := n5_; have NB206_204 := n6_; clear n0_ n1_ n2_ n3_ n4_ n5_ n6_; clear hb hbox hg; have hnb23 := NB206_204.out; have hnc23 := NB204_206.out; have hcz24_0 : w22.cell? ⟨gb206, 0, none⟩ = some (.int .i64 0) := (blk_cell BK206.out 0).trans rfl; have hcz24_1 : w22.cell? ⟨gb206, 1, none⟩ = some (.int .i64 0) := (blk_cell BK206.out 1).trans rfl; have hfz24_0 := blk_frozen BK206.out 0; have hfz24_1 := blk_frozen BK206.out 1; have hcz25_0 : w22.cell? ⟨gb204, 0, none⟩ = some (.int .i64 ((rd_T25 l0 x13_1).f0)) := (blk_cell BK204.out 0).trans rfl; have hcz25_1 : w22.cell? ⟨gb204, 1, none⟩ = some (.int .i64 ((rd_T25 l0 x13_1).f1)) := (blk_cell BK204.out 1).trans rfl; have hfz25_0 := blk_frozen BK204.out 0; have hfz25_1 := blk_frozen BK204.out 1) | (go_at_call 48; (with_reducible refine (impl_compareCells.callsG ((rd_T25 l0 x13_1).f0) ((rd_T25 l0 x13_1).f1) ((rd_T25 l1 x13_1).f0) ((rd_T25 l1 x13_1).f1) t207 _ A11.out).mono ?_); rintro e w26 ⟨rfl, hb⟩; have n0_ := aM (blk_belG (g := gb204) (o := .cells #[.int .i64 ((rd_T25 l0 x13_1).f0), .int .i64 ((rd_T25 l0 x13_1).f1)] 25 (0, 0)) (by (with_reducible repeat (first | refine blk_drewN ?_ _ | refine blk_drew ?_ | refine blk_alloc ?_ _)); refine blk_far ?_ NB204_206.out _; (with_reducible repeat (first | refine blk_drewN ?_ _ | refine blk_drew ?_ | refine blk_alloc ?_ _)); refine blk_far ?_ NB204_206.out _; (with_reducible repeat (first | refine blk_drewN ?_ _ | refine blk_drew ?_ | refine blk_alloc ?_ _)); exact BK204.out) hb); have n1_ := aM (blk_belG (g := gb206) (o := .cells #[.int .i64 ((rd_T25 l1 x13_1).f0), .int .i64 ((rd_T25 l1 x13_1).f1)] 25 (0, 0)) (by (with_reducible repeat (first | refine blk_drewN ?_ _ | refine blk_drew ?_ | refine blk_alloc ?_ _)); refine blk_put (cs := #[.int .i64 ((rd_T25 l1 x13_1).f0), .int .i64 0]) ?_ 1 _ rfl; (with_reducible repeat (first | refine blk_drewN ?_ _ | refine blk_drew ?_ | refine blk_alloc ?_ _)); refine blk_put (cs := #[.int .i64 0, .int .i64 0]) ?_ 0 _ rfl; (with_reducible repeat (first | refine blk_drewN ?_ _ | refine blk_drew ?_ | refine blk_alloc ?_ _)); exact BK206.out) hb); have n2_ := aM (belG_step (by repeat (first | (with_reducible first | exact HB.out | apply belG_alloc | apply pw_belG_drewN | apply belG_drew1 | refine belG_set ?_ GE204.out | refine belG_set ?_ GE206.out) | exact HB.out)) hb); clear BK204; clear BK206; clear HB; have BK204 := n0_; have BK206 := n1_; have HB := n2_; clear n0_ n1_ n2_; (try clear hb); (try clear hb2); (try clear hk); (try clear hi)))
    go_ret
    exact ⟨zw, by repeat (first | (with_reducible first | exact HB.out | apply belG_alloc | apply pw_belG_drewN | apply belG_drew1 | refine belG_set ?_ GE204.out | refine belG_set ?_ GE206.out) | exact HB.out)⟩
   rw [if_pos c12] at H
   have c12b0 : (t207 == 0) = true := beq_iff_eq.mpr c12
   have c12b1 : (t207 != 0) = false := bne_eq_false_iff_eq.mpr c12
   clear c12
   have H' := aM H
   clear H
   have p203 : 0 ≤ (x13_1 : Int) := of_decide_eq_true za
   have q203 : x13_1 < (l0.length : Int) := of_decide_eq_true za
   obtain ⟨ad203, e203, hx203_0, hx203_1⟩ := at_T25 HR0.out x13_1 p203 q203
   cases e203
   replace hx203_0 := (HB.out.cell (World.block_lt_of_cell? w _ hx203_0)).trans hx203_0
   replace hx203_1 := (HB.out.cell (World.block_lt_of_cell? w _ hx203_1)).trans hx203_1
   replace p203 := eq_true p203
   replace q203 := eq_true q203
   go_wp2_with (first | ((with_reducible refine gate_dst (N := 8) rfl ?_); refine box_eventD ?hg (N := 8) ?hd (cs := #[.int .i64 0, .int .i64 0]) (t := 25) ?hr ?_; (case hd => rfl); (case hg => rfl); (case hr => first | (go_simp; done) | (go_simp; rfl)); intro gb204 hg w13 hbox hb; have n0_ := aM (belG_step zg hb); have n1_ := aM (hbox); have n2_ := aM ((zi : w.heap.size ≤ gb204)); have n3_ := aM ((zi : w.heap.size ≤ gb204)); clear HB; have HB := n0_; have BK204 := n1_; have GW204 := n2_; have GE204 := n3_; clear n0_ n1_ n2_ n3_; clear hb hbox hg; have hcz14_0 : w13.cell? ⟨gb204, 0, none⟩ = some (.int .i64 0) := (blk_cell BK204.out 0).trans rfl; have hcz14_1 : w13.cell? ⟨gb204, 1, none⟩ = some (.int .i64 0) := (blk_cell BK204.out 1).trans rfl; have hfz14_0 := blk_frozen BK204.out 0; have hfz14_1 := blk_frozen BK204.out 1; have p205 : 0 ≤ (x13_1 : Int) := of_decide_eq_true za; have q205 : x13_1 < (l1.length : Int) := of_decide_eq_true za; obtain ⟨ad205, e205, hx205_0, hx205_1⟩ := at_T25 HR1.out x13_1 p205 q205; cases e205; have hn205_0 : ad205.block ≠ gb204 := Nat.ne_of_lt (Nat.lt_of_lt_of_le (by have := World.block_lt_of_cell? _ _ hx205_0; first | rwa [add_block] at this | exact this) GW204.out); have hn205_1 : ad205.block ≠ gb204 := Nat.ne_of_lt (Nat.lt_of_lt_of_le (by have := World.block_lt_of_cell? _ _ hx205_0; first | rwa [add_block] at this | exact this) GW204.out); replace hx205_0 := (HB.out.cell (World.block_lt_of_cell? w _ hx205_0)).trans hx205_0; replace hx205_1 := (HB.out.cell (World.block_lt_of_cell? w _ hx205_1)).trans hx205_1; replace hx205_0 := (cell_far (p := ⟨gb204, 0, none⟩) (by first | (rw [add_block]; exact hn205_0) | (show (Addr.add _ _).block ≠ _; rw [add_block]; exact hn205_0) | exact hn205_0) (.int .i64 ((rd_T25 l0 x13_1).f0))).trans hx205_0; replace hx205_1 := (cell_far (p := ⟨gb204, 0, none⟩) (by first | (rw [add_block]; exact hn205_0) | (show (Addr.add _ _).block ≠ _; rw [add_block]; exact hn205_0) | exact hn205_0) (.int .i64 ((rd_T25 l0 x13_1).f0))).trans hx205_1; replace hx205_0 := (cell_far (p := ⟨gb204, 1, none⟩) (by first | (rw [add_block]; exact hn205_1) | (show (Addr.add _ _).block ≠ _; rw [add_block]; exact hn205_1) | exact hn205_1) (.int .i64 ((rd_T25 l0 x13_1).f1))).trans hx205_0; replace hx205_1 := (cell_far (p := ⟨gb204, 1, none⟩) (by first | (rw [add_block]; exact hn205_1) | (show (Addr.add _ _).block ≠ _; rw [add_block]; exact hn205_1) | exact hn205_1) (.int .i64 ((rd_T25 l0 x13_1).f1))).trans hx205_1; clear hn205_0; clear hn205_1; replace p205 := eq_true p205; replace q205 := eq_true q205) | ((with_reducible refine gate_dst (N := 9) rfl ?_); refine box_eventD ?hg (N := 9) ?hd (cs := #[.int .i64 0, .int .i64 0]) (t := 25) ?hr ?_; (case hd => rfl); (case hg => rfl); (case hr => first | (go_simp; done) | (go_simp; rfl)); intro gb206 hg w15 hbox hb; have n0_ := aM (blk_belG (g := gb204) (o := .cells #[.int .i64 ((rd_T25 l0 x13_1).f0), .int .i64 ((rd_T25 l0 x13_1).f1)] 25 (0, 0)) (by (with_reducible repeat (first | refine blk_drewN ?_ _ | refine blk_drew ?_ | refine blk_alloc ?_ _)); refine blk_put (cs := #[.int .i64 ((rd_T25 l0 x13_1).f0), .int .i64 0]) ?_ 1 _ rfl; (with_reducible repeat (first | refine blk_drewN ?_ _ | refine blk_drew ?_ | refine blk_alloc ?_ _)); refine blk_put (cs := #[.int .i64 0, .int .i64 0]) ?_ 0 _ rfl; (with_reducible repeat (first | refine blk_drewN ?_ _ | refine blk_drew ?_ | refine blk_alloc ?_ _)); exact BK204.out) hb); have n1_ := aM (belG_step (zh GE204.out) hb); have n2_ := aM (hbox); have n3_ := aM ((zj GE204.out : w.heap.size ≤ gb206)); have n4_ := aM ((zj GE204.out : w.heap.size ≤ gb206)); have n5_ := aM ((by rw [hg]; exact Nat.ne_of_lt (blk_lt (g := gb204) (o := .cells #[.int .i64 ((rd_T25 l0 x13_1).f0), .int .i64 ((rd_T25 l0 x13_1).f1)] 25 (0, 0)) (by (with_reducible repeat (first | refine blk_drewN ?_ _ | refine blk_drew ?_ | refine blk_alloc ?_ _)); refine blk_put (cs := #[.int .i64 ((rd_T25 l0 x13_1).f0), .int .i64 0]) ?_ 1 _ rfl; (with_reducible repeat (first | refine blk_drewN ?_ _ | refine blk_drew ?_ | refine blk_alloc ?_ _)); refine blk_put (cs := #[.int .i64 0, .int .i64 0]) ?_ 0 _ rfl; (with_reducible repeat (first | refine blk_drewN ?_ _ | refine blk_drew ?_ | refine blk_alloc ?_ _)); exact BK204.out)) : gb204 ≠ gb206)); have n6_ := aM ((by rw [hg]; exact Nat.ne_of_gt (blk_lt (g := gb204) (o := .cells #[.int .i64 ((rd_T25 l0 x13_1).f0), .int .i64 ((rd_T25 l0 x13_1).f1)] 25 (0, 0)) (by (with_reducible repeat (first | refine blk_drewN ?_ _ | refine blk_drew ?_ | refine blk_alloc ?_ _)); refine blk_put (cs := #[.int .i64 ((rd_T25 l0 x13_1).f0), .int .i64 0]) ?_ 1 _ rfl; (with_reducible repeat (first | refine blk_drewN ?_ _ | refine blk_drew ?_ | refine blk_alloc ?_ _)); refine blk_put (cs := #[.int .i64 0, .int .i64 0]) ?_ 0 _ rfl; (with_reducible repeat (first | refine blk_drewN ?_ _ | refine blk_drew ?_ | refine blk_alloc ?_ _)); exact BK204.out)) : gb206 ≠ gb204)); clear BK204; clear HB; have BK204 := n0_; have HB := n1_; have BK206 := n2_; have GW206 := n3_; have GE206 := n4_; have NB204_206 := n5_; have NB206_204 := n6_; clear n0_ n1_ n2_ n3_ n4_ n5_ n6_; clear hb hbox hg; have hnb16 := NB206_204.out; have hnc16 := NB204_206.out; have hcz17_0 : w15.cell? ⟨gb206, 0, none⟩ = some (.int .i64 0) := (blk_cell BK206.out 0).trans rfl; have hcz17_1 : w15.cell? ⟨gb206, 1, none⟩ = some (.int .i64 0) := (blk_cell BK206.out 1).trans rfl; have hfz17_0 := blk_frozen BK206.out 0; have hfz17_1 := blk_frozen BK206.out 1; have hcz18_0 : w15.cell? ⟨gb204, 0, none⟩ = some (.int .i64 ((rd_T25 l0 x13_1).f0)) := (blk_cell BK204.out 0).trans rfl; have hcz18_1 : w15.cell? ⟨gb204, 1, none⟩ = some (.int .i64 ((rd_T25 l0 x13_1).f1)) := (blk_cell BK204.out 1).trans rfl; have hfz18_0 := blk_frozen BK204.out 0; have hfz18_1 := blk_frozen BK204.out 1) | (go_at_call 48; (with_reducible refine (impl_compareCells.callsG ((rd_T25 l0 x13_1).f0) ((rd_T25 l0 x13_1).f1) ((rd_T25 l1 x13_1).f0) ((rd_T25 l1 x13_1).f1) t207 _ A11.out).mono ?_); rintro e w19 ⟨rfl, hb⟩; have n0_ := aM (blk_belG (g := gb204) (o := .cells #[.int .i64 ((rd_T25 l0 x13_1).f0), .int .i64 ((rd_T25 l0 x13_1).f1)] 25 (0, 0)) (by (with_reducible repeat (first | refine blk_drewN ?_ _ | refine blk_drew ?_ | refine blk_alloc ?_ _)); refine blk_far ?_ NB204_206.out _; (with_reducible repeat (first | refine blk_drewN ?_ _ | refine blk_drew ?_ | refine blk_alloc ?_ _)); refine blk_far ?_ NB204_206.out _; (with_reducible repeat (first | refine blk_drewN ?_ _ | refine blk_drew ?_ | refine blk_alloc ?_ _)); exact BK204.out) hb); have n1_ := aM (blk_belG (g := gb206) (o := .cells #[.int .i64 ((rd_T25 l1 x13_1).f0), .int .i64 ((rd_T25 l1 x13_1).f1)] 25 (0, 0)) (by (with_reducible repeat (first | refine blk_drewN ?_ _ | refine blk_drew ?_ | refine blk_alloc ?_ _)); refine blk_put (cs := #[.int .i64 ((rd_T25 l1 x13_1).f0), .int .i64 0]) ?_ 1 _ rfl; (with_reducible repeat (first | refine blk_drewN ?_ _ | refine blk_drew ?_ | refine blk_alloc ?_ _)); refine blk_put (cs := #[.int .i64 0, .int .i64 0]) ?_ 0 _ rfl; (with_reducible repeat (first | refine blk_drewN ?_ _ | refine blk_drew ?_ | refine blk_alloc ?_ _)); exact BK206.out) hb); have n2_ := aM (belG_step (by repeat (first | (with_reducible first | exact HB.out | apply belG_alloc | apply pw_belG_drewN | apply belG_drew1 | refine belG_set ?_ GE204.out | refine belG_set ?_ GE206.out) | exact HB.out)) hb); clear BK204; clear BK206; clear HB; have BK204 := n0_; have BK206 := n1_; have HB := n2_; clear n0_ n1_ n2_; (try clear hb); (try clear hb2); (try clear hk); (try clear hi)))
   go_roundg k1
   case measure => have := HK1.out; omega
   case rel => exact ⟨(wrap64 (x13_1 + 1)), zr, H', ⟨by have := HK1.out; omega⟩, ⟨by repeat (first | (with_reducible first | exact HB.out | apply belG_alloc | apply pw_belG_drewN | apply belG_drew1 | refine belG_set ?_ GE204.out | refine belG_set ?_ GE206.out) | exact HB.out)⟩⟩
def impl_compareShapes.f (k : Nat) (l0 : List (S25)) (l1 : List (S25)) : Option (Int) := if (l0.length : Int) = (l1.length : Int) then ((impl_Cell_85__impl_compareCells.f k l0 l1).bind fun t208 => (some t208)) else (if (l0.length : Int) < (l1.length : Int) then (some (-1)) else (some 1))
theorem impl_compareShapes.calls (k : Nat) (A0 : Option Addr) (c0 : Nat) (l0 : List (S25)) (A1 : Option Addr) (c1 : Nat) (l1 : List (S25)) (r : Int) (w : World) (hr0 : Kd.C k25 w A0 l0.length l0) (hc0 : l0.length ≤ c0) (hr1 : Kd.C k25 w A1 l1.length l1) (hc1 : l1.length ≤ c1) (h : impl_compareShapes.f k l0 l1 = some r) :
  Calls Tryz.prog 65 #[.slice A0 l0.length c0, .slice A1 l1.length c1] w fun e w' => e = .returned (.int .i64 r) ∧ Below w.heap.size w w' := by
 have HR0 := aM hr0
 have HC0 := aM hc0
 clear hr0 hc0
 have HR1 := aM hr1
 have HC1 := aM hc1
 clear hr1 hc1
 have HB := aM (Below.refl w.heap.size w)
 have H : (if (l0.length : Int) = (l1.length : Int) then ((impl_Cell_85__impl_compareCells.f k l0 l1).bind fun t208 => (some t208)) else (if (l0.length : Int) < (l1.length : Int) then (some (-1)) else (some 1))) = some r := h
 clear h
 by_cases c3 : (l0.length : Int) = (l1.length : Int)
 ·rw [if_pos c3] at H
  have c3b0 : ((l0.length : Int) == (l1.length : Int)) = true := beq_iff_eq.mpr c3
  have c3b1 : ((l0.length : Int) != (l1.length : Int)) = false := bne_eq_false_iff_eq.mpr c3
  have c3b2 : (l0.length == l1.length) = true := by first | simpa using c3 | (simp at c3 ⊢; omega)
  clear c3
  replace H := Option.bind_eq_some_iff.mp H
  obtain ⟨t208, A40, H⟩ := H
  replace H : (some t208) = some r := H
  have A4 := aM A40
  clear A40
  obtain rfl := Option.some.inj H
  go_enter Tryz.func65, Tryz.ntmps65
  go_wp2_with (first | ((with_reducible refine gate_callee (f := 85) rfl ?_); refine goesL_ (some 17) rfl rfl Tryz.func85 (by kernel_rfl) rfl #[.slice A0 l0.length c0, .slice A1 l1.length c1, .func (.func 48) #[] #[]] rfl zm ?_; (with_reducible refine (impl_Cell_85__impl_compareCells.calls k _ _ l0 _ _ l1  t208 _ ?side1 ?side2 ?side3 ?side4 A4.out).mono ?_); (case side1 => repeat (first | exact HR0.out | (with_reducible refine Kd.C_alloc ?_ _) | (with_reducible refine Kd.C_drewN ?_ _) | (with_reducible refine Kd.C_drew ?_))); (case side2 => exact HC0.out); (case side3 => repeat (first | exact HR1.out | (with_reducible refine Kd.C_alloc ?_ _) | (with_reducible refine Kd.C_drewN ?_ _) | (with_reducible refine Kd.C_drew ?_))); (case side4 => exact HC1.out); rintro e w5 ⟨rfl, hb⟩; refine ⟨_, rfl, ?_⟩; have n0_ := aM (below_step zb hb); clear HB; have HB := n0_; clear n0_; (try clear hb); (try clear hb2); (try clear hk); (try clear hi)))
  go_ret
  exact ⟨zw, zb⟩
 rw [if_neg c3] at H
 have c3b0 : ((l0.length : Int) == (l1.length : Int)) = false := beq_eq_false_iff_ne.mpr c3
 have c3b1 : ((l0.length : Int) != (l1.length : Int)) = true := bne_iff_ne.mpr c3
 have c3b2 : (l0.length == l1.length) = false := by first | simpa using c3 | (simp at c3 ⊢; omega)
 by_cases c6 : (l0.length : Int) < (l1.length : Int)
 ·rw [if_pos c6] at H
  have c6b0 : decide ((l0.length : Int) < (l1.length : Int)) = true := decide_eq_true c6
  have c6b1 : decide (l0.length < l1.length) = true := decide_eq_true (Int.ofNat_lt.mp c6)
  clear c6
  obtain rfl := Option.some.inj H
  go_enter Tryz.func65, Tryz.ntmps65
  go_wp2
  go_ret
  exact ⟨zw, zb⟩
 rw [if_neg c6] at H
 have c6b0 : decide ((l0.length : Int) < (l1.length : Int)) = false := decide_eq_false c6
 have c6b1 : decide (l0.length < l1.length) = false := decide_eq_false (fun h => c6 (Int.ofNat_lt.mpr h))
 clear c6
 obtain rfl := Option.some.inj H
 go_enter Tryz.func65, Tryz.ntmps65
 go_wp2
 go_ret
 exact ⟨zw, zb⟩
theorem impl_compareShapes.callsG (k : Nat) (A0 : Option Addr) (c0 : Nat) (l0 : List (S25)) (A1 : Option Addr) (c1 : Nat) (l1 : List (S25)) (r : Int) (w : World) (hr0 : Kd.C k25 w A0 l0.length l0) (hc0 : l0.length ≤ c0) (hr1 : Kd.C k25 w A1 l1.length l1) (hc1 : l1.length ≤ c1) (h : impl_compareShapes.f k l0 l1 = some r) :
  Calls Tryz.prog 65 #[.slice A0 l0.length c0, .slice A1 l1.length c1] w fun e w' => e = .returned (.int .i64 r) ∧ BelG w.heap.size w w' := by
 have HR0 := aM hr0
 have HC0 := aM hc0
 clear hr0 hc0
 have HR1 := aM hr1
 have HC1 := aM hc1
 clear hr1 hc1
 have HB := aM (BelG.refl w.heap.size w)
 have H : (if (l0.length : Int) = (l1.length : Int) then ((impl_Cell_85__impl_compareCells.f k l0 l1).bind fun t208 => (some t208)) else (if (l0.length : Int) < (l1.length : Int) then (some (-1)) else (some 1))) = some r := h
 clear h
 by_cases c3 : (l0.length : Int) = (l1.length : Int)
 ·rw [if_pos c3] at H
  have c3b0 : ((l0.length : Int) == (l1.length : Int)) = true := beq_iff_eq.mpr c3
  have c3b1 : ((l0.length : Int) != (l1.length : Int)) = false := bne_eq_false_iff_eq.mpr c3
  have c3b2 : (l0.length == l1.length) = true := by first | simpa using c3 | (simp at c3 ⊢; omega)
  clear c3
  replace H := Option.bind_eq_some_iff.mp H
  obtain ⟨t208, A40, H⟩ := H
  replace H : (some t208) = some r := H
  have A4 := aM A40
  clear A40
  obtain rfl := Option.some.inj H
  go_enter Tryz.func65, Tryz.ntmps65
  go_wp2_with (first | ((with_reducible refine gate_callee (f := 85) rfl ?_); refine goesL_ (some 17) rfl rfl Tryz.func85 (by kernel_rfl) rfl #[.slice A0 l0.length c0, .slice A1 l1.length c1, .func (.func 48) #[] #[]] rfl zm ?_; (with_reducible refine (impl_Cell_85__impl_compareCells.callsG k _ _ l0 _ _ l1  t208 _ ?side1 ?side2 ?side3 ?side4 A4.out).mono ?_); (case side1 => repeat (first | exact HR0.out | (with_reducible refine Kd.C_alloc ?_ _) | (with_reducible refine Kd.C_drewN ?_ _) | (with_reducible refine Kd.C_drew ?_))); (case side2 => exact HC0.out); (case side3 => repeat (first | exact HR1.out | (with_reducible refine Kd.C_alloc ?_ _) | (with_reducible refine Kd.C_drewN ?_ _) | (with_reducible refine Kd.C_drew ?_))); (case side4 => exact HC1.out); rintro e w5 ⟨rfl, hb⟩; refine ⟨_, rfl, ?_⟩; have n0_ := aM (belG_step zg hb); clear HB; have HB := n0_; clear n0_; (try clear hb); (try clear hb2); (try clear hk); (try clear hi)))
  go_ret
  exact ⟨zw, zg⟩
 rw [if_neg c3] at H
 have c3b0 : ((l0.length : Int) == (l1.length : Int)) = false := beq_eq_false_iff_ne.mpr c3
 have c3b1 : ((l0.length : Int) != (l1.length : Int)) = true := bne_iff_ne.mpr c3
 have c3b2 : (l0.length == l1.length) = false := by first | simpa using c3 | (simp at c3 ⊢; omega)
 by_cases c6 : (l0.length : Int) < (l1.length : Int)
 ·rw [if_pos c6] at H
  have c6b0 : decide ((l0.length : Int) < (l1.length : Int)) = true := decide_eq_true c6
  have c6b1 : decide (l0.length < l1.length) = true := decide_eq_true (Int.ofNat_lt.mp c6)
  clear c6
  obtain rfl := Option.some.inj H
  go_enter Tryz.func65, Tryz.ntmps65
  go_wp2
  go_ret
  exact ⟨zw, zg⟩
 rw [if_neg c6] at H
 have c6b0 : decide ((l0.length : Int) < (l1.length : Int)) = false := decide_eq_false c6
 have c6b1 : decide (l0.length < l1.length) = false := decide_eq_false (fun h => c6 (Int.ofNat_lt.mpr h))
 clear c6
 obtain rfl := Option.some.inj H
 go_enter Tryz.func65, Tryz.ntmps65
 go_wp2
 go_ret
 exact ⟨zw, zg⟩
end Go.Proofs.YtlnliahadgmbcaaGreat.F
end
section
namespace Go.Proofs.YtlnliahadgmbcaaGreat.F
open Go.RowKit Go.Proofs.YtlnliahadgmbcaaGreatW.PrintWords Go.Proofs.YtlnliahadgmbcaaGreatW.PrintLast Go.Proofs.YtlnliahadgmbcaaGreatW.PrintMore
attribute [local go_sem] max2_int min2_int max_two min_two max_three min_three max_four min_four
set_option linter.unusedVariables false
set_option linter.unusedSimpArgs false
attribute [local go_sem high] eqA25
def sortS_lays_ren : Go.Shelf.Ren := ⟨fun | 6 => 64 | 15 => 61 | 14 => 84 | 28 => 79 | 29 => 80 | 20 => 92 | 21 => 93 | 22 => 94 | 23 => 95 | 24 => 96 | 25 => 97 | 26 => 98 | 27 => 99 | 46 => 101 | 47 => 87 | 48 => 88 | 49 => 102 | 50 => 103 | 57 => 104 | n => n, fun | 22 => 39 | 24 => 27 | 25 => 83 | 3 => 3 | 39 => 79 | 0 => 0 | 53 => 96 | 55 => 98 | 4 => 4 | 46 => 89 | 45 => 88 | 50 => 93 | 5 => 5 | 9 => 9 | 66 => 102 | 70 => 106 | 76 => 114 | 77 => 115 | n => n, fun n => n⟩
theorem sortS_lays : SlLaysF.n6 Tryz.prog sortS_lays_ren where
  mixed := by kernel_rfl
  f6 := ⟨Tryz.f64.name, by kernel_rfl, Tryz.func64.trans (congrArg some (by kernel_rfl))⟩
  f14 := ⟨Tryz.f84.name, by kernel_rfl, Tryz.func84.trans (congrArg some (by kernel_rfl))⟩
  f15 := Tryz.func61.trans (congrArg some (by kernel_rfl))
  f20 := ⟨Tryz.f92.name, by kernel_rfl, Tryz.func92.trans (congrArg some (by kernel_rfl))⟩
  f21 := ⟨Tryz.f93.name, by kernel_rfl, Tryz.func93.trans (congrArg some (by kernel_rfl))⟩
  f22 := ⟨Tryz.f94.name, by kernel_rfl, Tryz.func94.trans (congrArg some (by kernel_rfl))⟩
  f23 := ⟨Tryz.f95.name, by kernel_rfl, Tryz.func95.trans (congrArg some (by kernel_rfl))⟩
  f24 := ⟨Tryz.f96.name, by kernel_rfl, Tryz.func96.trans (congrArg some (by kernel_rfl))⟩
  f25 := ⟨Tryz.f97.name, by kernel_rfl, Tryz.func97.trans (congrArg some (by kernel_rfl))⟩
  f26 := ⟨Tryz.f98.name, by kernel_rfl, Tryz.func98.trans (congrArg some (by kernel_rfl))⟩
  f27 := ⟨Tryz.f99.name, by kernel_rfl, Tryz.func99.trans (congrArg some (by kernel_rfl))⟩
  f28 := Tryz.func79.trans (congrArg some (by kernel_rfl))
  f29 := Tryz.func80.trans (congrArg some (by kernel_rfl))
  f46 := ⟨Tryz.f101.name, by kernel_rfl, Tryz.func101.trans (congrArg some (by kernel_rfl))⟩
  f47 := Tryz.func87.trans (congrArg some (by kernel_rfl))
  f48 := Tryz.func88.trans (congrArg some (by kernel_rfl))
  f49 := ⟨Tryz.f102.name, by kernel_rfl, Tryz.func102.trans (congrArg some (by kernel_rfl))⟩
  f50 := ⟨Tryz.f103.name, by kernel_rfl, Tryz.func103.trans (congrArg some (by kernel_rfl))⟩
  f57 := ⟨Tryz.f104.name, by kernel_rfl, Tryz.func104.trans (congrArg some (by kernel_rfl))⟩
  t0 := Tryz.underlying0
  a0 := Tryz.isAgg0
  z0 := Tryz.sizeOf0
  v0 := Tryz.zeroValue0
  t3 := Tryz.underlying3
  a3 := Tryz.isAgg3
  z3 := Tryz.sizeOf3
  v3 := Tryz.zeroValue3
  t4 := Tryz.underlying4
  a4 := Tryz.isAgg4
  z4 := Tryz.sizeOf4
  v4 := Tryz.zeroValue4
  t5 := Tryz.underlying5
  a5 := Tryz.isAgg5
  z5 := Tryz.sizeOf5
  v5 := Tryz.zeroValue5
  t9 := Tryz.underlying9
  a9 := Tryz.isAgg9
  z9 := Tryz.sizeOf9
  v9 := Tryz.zeroValue9
  t22 := Tryz.underlying39
  a22 := Tryz.isAgg39
  z22 := Tryz.sizeOf39
  v22 := Tryz.zeroValue39
  a24 := Tryz.isAgg27
  z24 := Tryz.sizeOf27
  t25 := Tryz.underlying83
  a25 := Tryz.isAgg83
  z25 := Tryz.sizeOf83
  v25 := Tryz.zeroValue83
  t39 := Tryz.underlying79
  a39 := Tryz.isAgg79
  z39 := Tryz.sizeOf79
  v39 := Tryz.zeroValue79
  t45 := Tryz.underlying88
  a45 := Tryz.isAgg88
  z45 := Tryz.sizeOf88
  v45 := Tryz.zeroValue88
  t46 := Tryz.underlying89
  a46 := Tryz.isAgg89
  z46 := Tryz.sizeOf89
  v46 := Tryz.zeroValue89
  t50 := Tryz.underlying93
  a50 := Tryz.isAgg93
  z50 := Tryz.sizeOf93
  v50 := Tryz.zeroValue93
  t53 := Tryz.underlying96
  a53 := Tryz.isAgg96
  z53 := Tryz.sizeOf96
  v53 := Tryz.zeroValue96
  t55 := Tryz.underlying98
  a55 := Tryz.isAgg98
  z55 := Tryz.sizeOf98
  v55 := Tryz.zeroValue98
  t66 := Tryz.underlying102
  a66 := Tryz.isAgg102
  z66 := Tryz.sizeOf102
  v66 := Tryz.zeroValue102
  t70 := Tryz.underlying106
  a70 := Tryz.isAgg106
  z70 := Tryz.sizeOf106
  v70 := Tryz.zeroValue106
  t76 := Tryz.underlying114
  a76 := Tryz.isAgg114
  z76 := Tryz.sizeOf114
  v76 := Tryz.zeroValue114
  t77 := Tryz.underlying115
  a77 := Tryz.isAgg115
  z77 := Tryz.sizeOf115
  v77 := Tryz.zeroValue115
open Go.Sort
def ordL : List S25 → List S25 → Int
  | [], _ => 0
  | _ :: _, [] => 0
  | a :: r, b :: s => if cmpV a b = 0 then ordL r s else cmpV a b
def ordS (a b : List S25) : Int := if a.length = b.length then ordL a b else if a.length < b.length then -1 else 1
theorem cI_self (a : Int) : cI a a = 0 := by unfold cI; simp
theorem cI_anti (a b : Int) : cI b a = -cI a b := by unfold cI; repeat' split
                                                     all_goals omega
theorem cmpV_self (x : S25) : cmpV x x = 0 := by unfold cmpV; simp [cI_self]
theorem cmpV_anti (x y : S25) : cmpV y x = -cmpV x y := by
  unfold cmpV
  have h0 := cI_anti x.f0 y.f0
  have h1 := cI_anti x.f1 y.f1
  try have h2 := cI_anti x.f2 y.f2
  repeat' split
  all_goals omega
theorem lt_iff (x y : S25) : ltOf cmpV x y = false ↔ 0 ≤ cmpV x y := by
  unfold ltOf
  rw [decide_eq_false_iff_not]
  omega
theorem cmpV_zero {x y : S25} (h : cmpV x y = 0) : x = y := antiV x y ((lt_iff x y).2 (by omega)) ((lt_iff y x).2 (by rw [cmpV_anti]; omega))
theorem cmpV_trans {x y z : S25} (h1 : cmpV x y ≤ 0) (h2 : cmpV y z ≤ 0) : cmpV x z ≤ 0 := by
  have h := (lt_iff z x).1 (swoV.ntrans z y x ((lt_iff z y).2 (by rw [cmpV_anti]; omega)) ((lt_iff y x).2 (by rw [cmpV_anti]; omega)))
  rw [cmpV_anti] at h
  omega
theorem ordL_self : ∀ a : List S25, ordL a a = 0
  | [] => rfl
  | a :: r => by unfold ordL; rw [cmpV_self, if_pos rfl, ordL_self r]
theorem ordL_anti : ∀ a b : List S25, a.length = b.length → ordL b a = -ordL a b
  | [], [], _ => rfl
  | [], b :: s, h => by simp at h
  | a :: r, [], h => by simp at h
  | a :: r, b :: s, h => by
    unfold ordL
    have ih := ordL_anti r s (by simpa using h)
    have hc := cmpV_anti a b
    by_cases e : cmpV a b = 0
    · rw [if_pos e, if_pos (by omega)]; exact ih
    · rw [if_neg e, if_neg (by omega)]; exact hc
theorem ordL_zero : ∀ a b : List S25, a.length = b.length → ordL a b = 0 → a = b
  | [], [], _, _ => rfl
  | [], b :: s, h, _ => by simp at h
  | a :: r, [], h, _ => by simp at h
  | a :: r, b :: s, h, h0 => by
    unfold ordL at h0
    by_cases e : cmpV a b = 0
    · rw [if_pos e] at h0
      rw [cmpV_zero e, ordL_zero r s (by simpa using h) h0]
    · rw [if_neg e] at h0
      exact absurd h0 e
theorem ordL_trans : ∀ a b c : List S25, a.length = b.length → b.length = c.length → ordL a b ≤ 0 → ordL b c ≤ 0 → ordL a c ≤ 0
  | [], _, _, _, _, _, _ => by unfold ordL; omega
  | a :: r, [], _, h, _, _, _ => by simp at h
  | a :: r, b :: s, [], _, h, _, _ => by simp at h
  | a :: r, b :: s, c :: t, h1, h2, h3, h4 => by
    unfold ordL at h3 h4 ⊢
    have hab := cmpV_anti a b
    have hbc := cmpV_anti b c
    have hac := cmpV_anti a c
    by_cases e1 : cmpV a b = 0
    · obtain rfl := cmpV_zero e1
      rw [if_pos e1] at h3
      by_cases e2 : cmpV a c = 0
      · rw [if_pos e2] at h4 ⊢
        exact ordL_trans r s t (by simpa using h1) (by simpa using h2) h3 h4
      · rw [if_neg e2] at h4 ⊢
        exact h4
    · rw [if_neg e1] at h3
      by_cases e2 : cmpV b c = 0
      · obtain rfl := cmpV_zero e2
        rw [if_neg e1]
        exact h3
      · rw [if_neg e2] at h4
        have h5 := cmpV_trans h3 h4
        by_cases e3 : cmpV a c = 0
        · obtain rfl := cmpV_zero e3
          omega
        · rw [if_neg e3]
          exact h5
theorem ordS_self (a : List S25) : ordS a a = 0 := by unfold ordS; rw [if_pos rfl, ordL_self]
theorem ordS_anti (a b : List S25) : ordS b a = -ordS a b := by
  unfold ordS
  by_cases e : a.length = b.length
  · rw [if_pos e, if_pos e.symm, ordL_anti a b e]
  · rw [if_neg e, if_neg (fun x => e x.symm)]
    repeat' split
    all_goals omega
theorem ordS_zero {a b : List S25} (h : ordS a b = 0) : a = b := by
  unfold ordS at h
  by_cases e : a.length = b.length
  · rw [if_pos e] at h; exact ordL_zero a b e h
  · rw [if_neg e] at h
    split at h <;> omega
theorem ordS_trans {a b c : List S25} (h1 : ordS a b ≤ 0) (h2 : ordS b c ≤ 0) : ordS a c ≤ 0 := by
  unfold ordS at h1 h2 ⊢
  by_cases e1 : a.length = b.length
  · rw [if_pos e1] at h1
    by_cases e2 : b.length = c.length
    · rw [if_pos e2] at h2
      rw [if_pos (e1.trans e2)]
      exact ordL_trans a b c e1 e2 h1 h2
    · rw [if_neg e2] at h2
      rw [if_neg (by omega)]
      split at h2 <;> split <;> omega
  · rw [if_neg e1] at h1
    by_cases e2 : b.length = c.length
    · rw [if_neg (by omega)]
      split at h1 <;> split <;> omega
    · rw [if_neg e2] at h2
      split at h1
      · split at h2
        · rw [if_neg (by omega), if_pos (by omega)]; omega
        · omega
      · omega
theorem ltS_iff (x y : List S25) : ltOf ordS x y = false ↔ 0 ≤ ordS x y := by
  unfold ltOf
  rw [decide_eq_false_iff_not]
  omega
theorem swoS : SWO (ltOf ordS) where
  irrefl x := by rw [ltS_iff, ordS_self]; omega
  trans x y z h1 h2 := by
    unfold ltOf at *
    rw [decide_eq_true_eq] at *
    have h3 := ordS_trans (a := x) (b := y) (c := z) (by omega) (by omega)
    by_cases e : ordS x z = 0
    · have := ordS_zero e
      subst this
      have := ordS_anti x y
      omega
    · omega
  ntrans x y z h1 h2 := by
    rw [ltS_iff] at *
    have h3 := ordS_trans (a := z) (b := y) (c := x) (by rw [ordS_anti]; omega) (by rw [ordS_anti]; omega)
    rw [ordS_anti] at h3
    omega
theorem antiS (x y : List S25) (h1 : ltOf ordS x y = false) (h2 : ltOf ordS y x = false) : x = y := by
  rw [ltS_iff] at *
  rw [ordS_anti] at h2
  exact ordS_zero (by omega)
def sortS (l : List (List S25)) : List (List S25) := l.mergeSort fun x y => !ltOf ordS y x
structure El (W0 : World) (ok : Nat → Prop) where
  v : Value
  l : List S25
  j : Nat
  has : Kd.FK (Kd.slice 25 k25) W0 ok l [v]
theorem FK_nil0 (W0 : World) (ok : Nat → Prop) : Kd.FK (Kd.slice 25 k25) W0 ok [] [.slice none 0 0] := fun W' _ => ⟨none, 0, rfl, Nat.le_refl _, Kd.C_nil _ _⟩
instance instEl (W0 : World) (ok : Nat → Prop) : Inhabited (El W0 ok) := ⟨⟨.slice none 0 0, [], 0, FK_nil0 _ _⟩⟩
section
variable {W0 w W : World} {ok : Nat → Prop} {base g cap n m : Nat} {os : Array Obj}
theorem El.one (x : El W0 ok) : x.v.oneCell' = true := (Kd.slice 25 k25).K_one (Kd.FK_now x.has) x.v (by simp)
def Same (W0 w : World) (ok : Nat → Prop) : Prop := ∀ k, ok k → k < W0.heap.size → w.heap[k]? = W0.heap[k]?
theorem Same.refl (w : World) (ok : Nat → Prop) : Same w w ok := fun _ _ _ => rfl
theorem Same.grown (h : Same W0 w ok) (hg : w.grownBy W (some g)) (hok : ¬ ok g) : Same W0 W ok := fun k hk hlt =>
  (hg.block k (heap_lt (h k hk hlt) hlt) (fun e => hok (by injection e with e; exact e ▸ hk))).trans (h k hk hlt)
theorem El.now (x : El W0 ok) (h : Same W0 w ok) : ∃ A c, x.v = .slice A x.l.length c ∧ x.l.length ≤ c ∧ Kd.C k25 w A x.l.length x.l := by
  obtain ⟨A, c, e, h1, h2⟩ := Kd.FK_now (Kd.FK_step x.has h)
  exact ⟨A, c, by simpa using e, h1, h2⟩
def cfE (x y : El W0 ok) : Int := ordS x.l y.l
theorem swoE : SWO (ltOf (cfE (W0 := W0) (ok := ok))) where
  irrefl x := swoS.irrefl x.l
  trans x y z := swoS.trans x.l y.l z.l
  ntrans x y z := swoS.ntrans x.l y.l z.l
theorem sortW1_grown {α : Type} [Inhabited α] (enc : α → Value) (w : World) (g n : Nat) (d : Array α) (os : Array Obj) : w.grownBy (sortWorld enc w g 0 n d os) (some g) := by
  refine ⟨rfl, rfl, rfl, ?_, fun k hk hne => ?_⟩
  · show w.heap.size ≤ ((w.heap.modify g _) ++ os).size
    simp
  · show ((w.heap.modify g _) ++ os)[k]? = w.heap[k]?
    rw [Array.getElem?_append_left (by simpa using hk), Array.getElem?_modify, if_neg]
    intro e
    exact hne (by rw [e])
theorem sortW1_heap {α : Type} [Inhabited α] (enc : α → Value) (w : World) (g n : Nat) (d : Array α) (os : Array Obj) {cur : Array Value} {e : TypeId} {fr : Nat × Nat} (h : w.heap[g]? = some (.cells cur e fr)) : (sortWorld enc w g 0 n d os).heap[g]? = some (.cells (Go.Sort.putCells enc 0 d cur) e fr) := by
  have hlt : g < w.heap.size := (Array.getElem?_eq_some_iff.1 h).1
  show ((w.heap.modify g _) ++ os)[g]? = _
  rw [Array.getElem?_append_left (by simpa using hlt), Array.getElem?_modify, if_pos rfl, h]
  rfl
theorem putCells1_take {α : Type} [Inhabited α] (enc : α → Value) (d : Array α) (cur : Array Value) (h : d.size ≤ cur.size) : (Go.Sort.putCells enc 0 d cur).toList.take d.size = d.toList.map enc := by
  apply List.ext_getElem?
  intro i
  by_cases hi : i < d.size
  · rw [List.getElem?_take_of_lt hi]
    simp only [Go.Sort.putCells, Array.getElem?_toList, Array.getElem?_mapIdx, List.getElem?_map]
    rw [Array.getElem?_eq_getElem (show i < cur.size by omega), Array.getElem?_eq_getElem hi, Option.map_some, Option.map_some, if_pos (by omega)]
    simp [getElem!_pos d i hi]
  · rw [List.getElem?_eq_none (by simp; omega), List.getElem?_eq_none (by simp; omega)]
structure At (w : World) (base g cap : Nat) (d : Array (El W0 ok)) : Prop where
  base : base ≤ g
  max : cap ≤ maxLen
  size : d.size ≤ cap
  cells : ∃ cur, w.heap[g]? = some (.cells cur 27 (0, 0)) ∧ cur.size = cap ∧ cur.toList.take d.size = d.toList.map El.v
theorem At.lt {d : Array (El W0 ok)} (h : At w base g cap d) : g < w.heap.size := by
  obtain ⟨cur, h1, _⟩ := h.cells
  exact (Array.getElem?_eq_some_iff.1 h1).1
theorem At.holds {d : Array (El W0 ok)} (h : At w base g cap d) : Holds El.v w g 0 d := by
  obtain ⟨cur, h1, h2, h3⟩ := h.cells
  intro t ht
  refine ⟨?_, by rw [Nat.zero_add]; exact blk_frozen h1 t⟩
  rw [Nat.zero_add, blk_cell h1 t]
  have e1 : cur[t]? = (d.toList.map El.v)[t]? := by
    rw [← h3, List.getElem?_take_of_lt ht, Array.getElem?_toList]
  rw [e1, List.getElem?_map, Array.getElem?_toList, Array.getElem?_eq_getElem ht, getElem!_pos d t ht]
  rfl
theorem At.sorted {d d' : Array (El W0 ok)} (h : At w base g cap d) (hs : d'.size = d.size) : At (sortWorld El.v w g 0 n d' os) base g cap d' := by
  obtain ⟨cur, h1, h2, h3⟩ := h.cells
  refine ⟨h.base, h.max, hs ▸ h.size, _, sortW1_heap El.v w g n d' os h1, by simpa [Go.Sort.putCells] using h2, putCells1_take El.v d' cur ?_⟩
  have := h.size
  omega
theorem At.cut {d : Array (El W0 ok)} (h : At w base g cap d) (q : Nat) (hq : q ≤ d.size) : At w base g cap (d.toList.take q).toArray := by
  obtain ⟨cur, h1, h2, h3⟩ := h.cells
  have hs := h.size
  refine ⟨h.base, h.max, by simp; omega, cur, h1, h2, ?_⟩
  have e : (d.toList.take q).toArray.size = q := by simp; omega
  rw [e]
  show _ = (d.toList.take q).map El.v
  rw [List.map_take, ← h3, List.take_take, Nat.min_eq_left hq]
theorem At.raw {d : Array (El W0 ok)} (h : At w base g cap d) : (Kd.raw 1).R 27 w base (fun k => some k = (Value.slice (some ⟨g, 0, none⟩) d.size cap).ownBlock) (.slice (some ⟨g, 0, none⟩) d.size cap) (d.toList.map fun x => [x.v]) := by
  obtain ⟨cur, h1, h2, h3⟩ := h.cells
  have hl : (d.toList.map fun x : El W0 ok => [x.v]).length = d.size := by simp
  refine ⟨fun k hk => hk.symm, d.toList.map El.v, ⟨by rw [hl]; simp [Kd.raw], .inr ⟨g, cap, cur, by rw [hl], h.base, h1, by rw [hl]; exact h.size, h.max, by simpa [Kd.raw] using h2, by rw [hl]; simpa [Kd.raw] using h3⟩⟩, by rw [hl]; simp [Kd.raw], ?_⟩
  intro j p hp
  rw [List.getElem?_map, Option.map_eq_some_iff] at hp
  obtain ⟨x, hx, rfl⟩ := hp
  have hj : j < (d.toList.map El.v).length := by
    have := (List.getElem?_eq_some_iff.1 hx).1
    simpa using this
  have e : ((d.toList.map El.v).drop (j * (Kd.raw 1).sz)).take (Kd.raw 1).sz = [x.v] := by
    show ((d.toList.map El.v).drop (j * 1)).take 1 = _
    rw [Nat.mul_one, List.drop_eq_getElem_cons hj]
    have : (d.toList.map El.v)[j]? = some x.v := by rw [List.getElem?_map, hx]; rfl
    rw [List.getElem?_eq_getElem hj] at this
    simp [Option.some.inj this]
  rw [e]
  exact ⟨rfl, rfl, fun u hu => by rw [List.mem_singleton.1 hu]; exact x.one⟩
end
section
variable {w W : World} {ok : Nat → Prop} {base g cap n : Nat} {xs : List (List S25)}
abbrev inn (ok : Nat → Prop) (g : Nat) : Nat → Prop := fun k => ok k ∧ k ≠ g
theorem inn_of {k : Nat} {c : Nat} (h : ok k ∧ some k ≠ (Value.slice (some ⟨g, 0, none⟩) n c).ownBlock) : inn ok g k := ⟨h.1, fun e => h.2 (by rw [e]; rfl)⟩
theorem inn_to {k : Nat} {c : Nat} (h : inn ok g k) : ok k ∧ some k ≠ (Value.slice (some ⟨g, 0, none⟩) n c).ownBlock := ⟨h.1, fun e => h.2 (by injection e)⟩
theorem N_open (h : Kd.N (Kd.slice 25 k25) 27 w base ok (.slice (some ⟨g, 0, none⟩) n cap) xs) : ok g ∧ n = xs.length ∧ ∃ d : Array (El w (inn ok g)), d.toList.map El.l = xs ∧ At w base g cap d := by
  obtain ⟨h0, rows, hl, hR, hf⟩ := h
  obtain ⟨h1, inner, ⟨h2, h3⟩, h4, h5⟩ := hR
  rcases h3 with ⟨h3, _⟩ | ⟨g', cap', cur, h3, h6, h7, h8, h9, h10, h11⟩
  · cases h3
  injection h3 with h3 h13 h12
  injection h3 with h3
  injection h3 with h3
  subst h3 h12
  have hs1 : (Kd.raw (Kd.slice 25 k25).sz).sz = 1 := rfl
  rw [hs1, Nat.mul_one] at h2 h4
  rw [hs1, Nat.mul_one] at h11
  rw [hs1, Nat.mul_one] at h10
  rw [hl] at h13 h2 h4 h8 h11
  refine ⟨h0 g rfl, h13, ?_⟩
  have hrow : ∀ j (hj : j < xs.length), rows[j]'(by omega) = [inner[j]'(by omega)] := fun j hj => by
    obtain ⟨e, _⟩ := h5 j (rows[j]'(by omega)) (List.getElem?_eq_getElem (by omega))
    rw [← e, hs1, Nat.mul_one, List.drop_eq_getElem_cons (by omega)]
    rfl
  have hel : ∀ j : Fin xs.length, Kd.FK (Kd.slice 25 k25) w (inn ok g) xs[j.1] [inner[j.1]'(by omega)] := fun j => by
    have h := hf j.1 xs[j.1] (rows[j.1]'(by omega)) (List.getElem?_eq_getElem j.2) (List.getElem?_eq_getElem (by omega))
    rw [hrow j.1 j.2] at h
    exact Kd.FK_mono h (fun k hk => inn_of hk)
  refine ⟨Array.ofFn fun j : Fin xs.length => El.mk (inner[j.1]'(by omega)) xs[j.1] j.1 (hel j), ?_, h6, h9, by rw [Array.size_ofFn]; exact h8, cur, h7, h10, ?_⟩
  · apply List.ext_getElem
    · simp
    · intro i hi hi2
      simp
  · rw [Array.size_ofFn, h11]
    apply List.ext_getElem
    · simp; omega
    · intro i hi hi2
      simp
theorem N_close {d0 : World} {d : Array (El d0 (inn ok g))} (hok : ok g) (h : At w base g cap d) (hs : Same d0 w (inn ok g)) : Kd.N (Kd.slice 25 k25) 27 w base ok (.slice (some ⟨g, 0, none⟩) d.size cap) (d.toList.map El.l) := by
  refine ⟨fun k hk => ?_, d.toList.map fun x : El d0 (inn ok g) => [x.v], by simp, h.raw, fun j x c hx hc => ?_⟩
  · simp [Value.ownBlock] at hk
    exact hk ▸ hok
  · rw [List.getElem?_map, Option.map_eq_some_iff] at hx hc
    obtain ⟨y, hy, rfl⟩ := hx
    obtain ⟨z, hz, rfl⟩ := hc
    rw [hy] at hz
    obtain rfl := Option.some.inj hz
    exact Kd.FK_mono (Kd.FK_step y.has hs) (fun k hk => inn_to hk)
end
theorem compareF_rounds (a b : List S25) (hl : a.length = b.length) (hs : a.length ≤ 9223372036854775807) : ∀ (suf pre : List S25), a = pre ++ suf → ∀ k, suf.length < k → impl_Cell_85__impl_compareCells.l0 k a b a (a.length : Int) (pre.length : Int) = some (ordL suf (b.drop pre.length)) := by
  intro suf
  induction suf with
  | nil =>
    intro pre hx k hk
    obtain ⟨k, rfl⟩ : ∃ m, k = m + 1 := ⟨k - 1, by omega⟩
    rw [List.append_nil] at hx
    subst hx
    simp only [impl_Cell_85__impl_compareCells.l0]
    rw [if_neg (by omega), if_neg (by omega)]
    rfl
  | cons c suf ih =>
    intro pre hx k hk
    obtain ⟨k, rfl⟩ : ∃ m, k = m + 1 := ⟨k - 1, by omega⟩
    have hla : a.length = pre.length + (suf.length + 1) := by rw [hx]; simp
    have hpb : pre.length < b.length := by omega
    have ea : rd_T25 a (pre.length : Int) = c := by
      unfold rd_T25
      rw [hx]
      simp [List.getD]
    have eb : rd_T25 b (pre.length : Int) = b[pre.length] := by
      unfold rd_T25
      rw [List.getD_eq_getElem?_getD, Int.toNat_natCast, List.getElem?_eq_getElem hpb]
      rfl
    have ew : wrap64 ((pre.length : Int) + 1) = ((pre ++ [c]).length : Int) := by
      rw [List.length_append, List.length_singleton]
      simp only [wrap64]
      omega
    have hi := ih (pre ++ [c]) (by rw [hx]; simp) k (by simp at hk; omega)
    simp only [impl_Cell_85__impl_compareCells.l0]
    rw [if_pos (by omega), if_pos (by omega), if_pos (by omega), if_neg (by omega), if_pos (by omega), ea, eb, cmpV_eq, Option.bind_some, ew, hi, List.drop_eq_getElem_cons hpb, ordL, List.length_append, List.length_singleton]
    split <;> rfl
theorem compare_rounds (a b : List S25) (hs : a.length ≤ 9223372036854775807) : ∃ k, impl_compareShapes.f k a b = some (ordS a b) := by
  refine ⟨a.length + 1, ?_⟩
  unfold impl_compareShapes.f ordS
  by_cases hl : a.length = b.length
  · rw [if_pos hl, if_pos (by omega)]
    have := compareF_rounds a b hl hs a [] rfl (a.length + 1) (by omega)
    unfold impl_Cell_85__impl_compareCells.f
    simp only [List.length_nil, Int.natCast_zero, List.drop_zero] at this
    rw [this]
    rfl
  · rw [if_neg hl, if_neg (by omega)]
    split
    · rw [if_pos (by omega)]
    · rw [if_neg (by omega)]
set_option maxHeartbeats 4000000 in
theorem impl_Cell_64__impl_compareShapes.raw {W0 w : World} {ok : Nat → Prop} {base g cap : Nat} (d : Array (El W0 ok)) (hA : At w base g cap d) (hS : Same W0 w ok) (hg : ¬ ok g) (hsz : d.size < 4611686018427387904) :
    Calls Tryz.prog 64 #[.slice (some ⟨g, 0, none⟩) d.size cap, .func (.func 65) #[] #[]] w fun e w' => e = .returned (.tuple #[]) ∧ ∃ (d' : Array (El W0 ok)) (n : Nat) (os : Array Obj), d'.toList.Perm d.toList ∧ d'.toList.map El.l = sortS (d.toList.map El.l) ∧ w' = sortWorld El.v w g 0 n d' os := by
  have eg : ∀ args w, (callFunc 65 args).run Tryz.prog w = .ok (.enter 65 args) w := enters_of Tryz.func65 (by kernel_rfl) rfl
  have hcmp : CmpLays1 Tryz.prog 65 #[] El.v cfE g 0 d.size w := fun m os dk hdk x y => by
    have hgw := sortW1_grown El.v w g m dk os
    obtain ⟨A0, c0, e0, hc0, hC0⟩ := x.now (hS.grown hgw hg)
    obtain ⟨A1, c1, e1, hc1, hC1⟩ := y.now (hS.grown hgw hg)
    obtain ⟨k, hk⟩ := compare_rounds x.l y.l hC0.2.1
    rw [e0, e1]
    exact (impl_compareShapes.callsG k A0 c0 x.l A1 c1 y.l (ordS x.l y.l) _ hC0 hc0 hC1 hc1 hk).mono fun _ _ hh => ⟨hh.1, hh.2.gr⟩
  have hcon := Any.slices_SortFunc sortS_lays El.v El.one cfE swoE 65 #[] g 0 cap d w eg hcmp hA.holds hA.lt hsz
  refine (show Calls Tryz.prog 64 #[.slice (some ⟨g, 0, none⟩) d.size cap, .func (.func 65) #[] #[]] w _ from hcon).mono ?_
  rintro e w' ⟨rfl, d', n, os, hp, hs', rfl⟩
  have hP : d'.toList.Perm d.toList := by
    have := hp.2.2
    have e1 : d'.extract 0 d.size = d' := by rw [← hp.1]; exact Array.extract_size
    have e2 : d.extract 0 d.size = d := Array.extract_size
    rwa [e1, e2] at this
  refine ⟨rfl, d', n, os, hP, ?_, rfl⟩
  refine List.Perm.eq_of_pairwise (le := fun x y => (!ltOf ordS y x) = true) ?_ ?_ ?_ ((hP.map El.l).trans (List.mergeSort_perm _ _).symm)
  · intro a b _ _ h1 h2
    simp only [Bool.not_eq_true'] at h1 h2
    exact antiS a b h2 h1
  · rw [List.pairwise_map, List.pairwise_iff_getElem]
    intro i j hi hj hij
    have hi' : i < d'.size := by simpa using hi
    have hj' : j < d'.size := by simpa using hj
    have := hs' i j (Nat.zero_le _) hij (by rw [← hp.1]; exact hj')
    rw [getElem!_pos d' i hi', getElem!_pos d' j hj'] at this
    simp only [Bool.not_eq_true', Array.getElem_toList]
    exact this
  · have := List.pairwise_mergeSort (le := fun x y : List S25 => !ltOf ordS y x) (fun a b c h1 h2 => by
      simp only [Bool.not_eq_true'] at *
      exact swoS.ntrans c b a h2 h1) (fun a b => by
      rw [Bool.or_eq_true]
      by_cases e : ltOf ordS b a = true
      · right
        simp only [Bool.not_eq_true']
        rw [ltS_iff]
        unfold ltOf at e
        rw [decide_eq_true_eq] at e
        rw [ordS_anti]
        omega
      · left
        simpa using e) (d.toList.map El.l)
    exact this
def impl_Cell_37.l0 : Nat → List (S25) → List (S25) → Int → Int → Option (Bool)
 | 0, _, _, _, _ => none
 | k + 1, x0, x1, x12, x13 => if x13 < x12 then (if 0 ≤ x13 then (if x13 < (x0.length : Int) then (if x13 < (x1.length : Int) then (if (!(((rd_T25 x0 x13).f0) == ((rd_T25 x1 x13).f0)) || (!(((rd_T25 x0 x13).f1) == ((rd_T25 x1 x13).f1)))) = true then (some false) else (impl_Cell_37.l0 k x0 x1 x12 (wrap64 (x13 + 1)))) else (none)) else (none)) else (none)) else (some true)
def impl_Cell_37.f (k : Nat) (l0 : List (S25)) (l1 : List (S25)) : Option (Bool) := if (l0.length : Int) = (l1.length : Int) then (impl_Cell_37.l0 k l0 l1 (l0.length : Int) 0) else (some false)
theorem impl_Cell_37.calls (k : Nat) (A0 : Option Addr) (c0 : Nat) (l0 : List (S25)) (A1 : Option Addr) (c1 : Nat) (l1 : List (S25)) (r : Bool) (w : World) (hr0 : Kd.C k25 w A0 l0.length l0) (hc0 : l0.length ≤ c0) (hr1 : Kd.C k25 w A1 l1.length l1) (hc1 : l1.length ≤ c1) (h : impl_Cell_37.f k l0 l1 = some r) :
  Calls Tryz.prog 37 #[.slice A0 l0.length c0, .slice A1 l1.length c1] w fun e w' => e = .returned (.bool r) ∧ Drawn0 w w' := by
 have hu25 := Tryz.underlying25
 have HR0 := aM hr0
 have HC0 := aM hc0
 clear hr0 hc0
 have HR1 := aM hr1
 have HC1 := aM hc1
 clear hr1 hc1
 have H : (if (l0.length : Int) = (l1.length : Int) then (impl_Cell_37.l0 k l0 l1 (l0.length : Int) 0) else (some false)) = some r := h
 clear h
 by_cases c3 : (l0.length : Int) = (l1.length : Int)
 rotate_left
 ·rw [if_neg c3] at H
  have c3b0 : ((l0.length : Int) == (l1.length : Int)) = false := beq_eq_false_iff_ne.mpr c3
  have c3b1 : ((l0.length : Int) != (l1.length : Int)) = true := bne_iff_ne.mpr c3
  have c3b2 : (l0.length == l1.length) = false := by first | simpa using c3 | (simp at c3 ⊢; omega)
  obtain rfl := Option.some.inj H
  go_enter Tryz.func37, Tryz.ntmps37
  go_wp2
  repeat (go_quiet (fail); try go_wp2)
  go_ret
  exact ⟨by first | rfl | (simp; done) | (simp [*]; done), by repeat (first | exact Drawn0.refl _ | apply Drawn0.step)⟩
 rw [if_pos c3] at H
 have c3b0 : ((l0.length : Int) == (l1.length : Int)) = true := beq_iff_eq.mpr c3
 have c3b1 : ((l0.length : Int) != (l1.length : Int)) = false := bne_eq_false_iff_eq.mpr c3
 have c3b2 : (l0.length == l1.length) = true := by first | simpa using c3 | (simp at c3 ⊢; omega)
 clear c3
 have H' := aM H
 clear H
 go_enter Tryz.func37, Tryz.ntmps37
 go_wp2
 repeat (go_quiet (fail); try go_wp2)
 go_loopg [13] k (fun kq v13 w' => ∃ (x13_1 : Int), v13 = .int .i64 x13_1 ∧ Aside0 (impl_Cell_37.l0 kq l0 l1 (l0.length : Int) x13_1 = some r) ∧ Aside0 (kq ≤ k) ∧ Drawn0 w w')
 case atStart => exact ⟨(0), zr, H', ⟨Nat.le_refl _⟩, by repeat (first | exact Drawn0.refl _ | apply Drawn0.step)⟩
 case round =>
  clear H'
  try clear c1
  try clear p2
  try clear c3
  try clear c3b0
  try clear c3b1
  try clear c3b2
  obtain ⟨x13_1, rfl, HA, HK1, ⟨m1, rfl⟩⟩ := hrel
  cases gk with
  | zero => exact absurd HA.out (by simp [impl_Cell_37.l0])
  | succ k1 =>
   have H := HA.out
   clear HA
   simp only [impl_Cell_37.l0] at H
   by_cases c4 : x13_1 < (l0.length : Int)
   rotate_left
   ·rw [if_neg c4] at H
    have c4b0 : decide (x13_1 < (l0.length : Int)) = false := decide_eq_false c4
    clear c4
    obtain rfl := Option.some.inj H
    go_wp2
    repeat (go_quiet (fail); try go_wp2)
    go_ret
    exact ⟨by first | rfl | (simp; done) | (simp [*]; done), by repeat (first | exact Drawn0.refl _ | apply Drawn0.step)⟩
   rw [if_pos c4] at H
   have c4b0 : decide (x13_1 < (l0.length : Int)) = true := decide_eq_true c4
   clear c4
   by_cases c5 : 0 ≤ x13_1
   rotate_left
   ·rw [if_neg c5] at H
    exact absurd H (by simp)
   rw [if_pos c5] at H
   have c5b0 : decide (0 ≤ x13_1) = true := decide_eq_true c5
   clear c5
   by_cases c6 : x13_1 < (l0.length : Int)
   rotate_left
   ·rw [if_neg c6] at H
    exact absurd H (by simp)
   rw [if_pos c6] at H
   have c6b0 : decide (x13_1 < (l0.length : Int)) = true := decide_eq_true c6
   clear c6
   by_cases c7 : x13_1 < (l1.length : Int)
   rotate_left
   ·rw [if_neg c7] at H
    exact absurd H (by simp)
   rw [if_pos c7] at H
   have c7b0 : decide (x13_1 < (l1.length : Int)) = true := decide_eq_true c7
   clear c7
   by_cases c8 : (!(((rd_T25 l0 x13_1).f0) == ((rd_T25 l1 x13_1).f0)) || (!(((rd_T25 l0 x13_1).f1) == ((rd_T25 l1 x13_1).f1)))) = true
   ·rw [if_pos c8] at H
    have c8b0 : (!(((rd_T25 l0 x13_1).f0) == ((rd_T25 l1 x13_1).f0)) || (!(((rd_T25 l0 x13_1).f1) == ((rd_T25 l1 x13_1).f1)))) = true := c8
    clear c8
    obtain rfl := Option.some.inj H
    have p209 : 0 ≤ (x13_1 : Int) := of_decide_eq_true za
    have q209 : x13_1 < (l0.length : Int) := of_decide_eq_true za
    obtain ⟨ad209, e209, hx209_0, hx209_1⟩ := at_T25 HR0.out x13_1 p209 q209
    cases e209
    replace p209 := eq_true p209
    replace q209 := eq_true q209
    have p210 : 0 ≤ (x13_1 : Int) := of_decide_eq_true za
    have q210 : x13_1 < (l1.length : Int) := of_decide_eq_true za
    obtain ⟨ad210, e210, hx210_0, hx210_1⟩ := at_T25 HR1.out x13_1 p210 q210
    cases e210
    replace p210 := eq_true p210
    replace q210 := eq_true q210
    go_wp2
    repeat (go_quiet (fail); try go_wp2)
    go_ret
    exact ⟨by first | rfl | (simp; done) | (simp [*]; done), by repeat (first | exact Drawn0.refl _ | apply Drawn0.step)⟩
   rw [if_neg c8] at H
   have c8b0 : (!(((rd_T25 l0 x13_1).f0) == ((rd_T25 l1 x13_1).f0)) || (!(((rd_T25 l0 x13_1).f1) == ((rd_T25 l1 x13_1).f1)))) = false := by simpa using c8
   clear c8
   have H' := aM H
   clear H
   have p209 : 0 ≤ (x13_1 : Int) := of_decide_eq_true za
   have q209 : x13_1 < (l0.length : Int) := of_decide_eq_true za
   obtain ⟨ad209, e209, hx209_0, hx209_1⟩ := at_T25 HR0.out x13_1 p209 q209
   cases e209
   replace p209 := eq_true p209
   replace q209 := eq_true q209
   have p210 : 0 ≤ (x13_1 : Int) := of_decide_eq_true za
   have q210 : x13_1 < (l1.length : Int) := of_decide_eq_true za
   obtain ⟨ad210, e210, hx210_0, hx210_1⟩ := at_T25 HR1.out x13_1 p210 q210
   cases e210
   replace p210 := eq_true p210
   replace q210 := eq_true q210
   go_wp2
   repeat (go_quiet (fail); try go_wp2)
   go_roundg k1
   case measure => have := HK1.out; omega
   case rel => exact ⟨(wrap64 (x13_1 + 1)), zr, H', ⟨by have := HK1.out; omega⟩, by repeat (first | exact Drawn0.refl _ | apply Drawn0.step)⟩
def impl_equalShapes.f (k : Nat) (l0 : List (S25)) (l1 : List (S25)) : Option (Bool) := (impl_Cell_37.f k l0 l1).bind fun t211 => (some t211)
theorem impl_equalShapes.calls (k : Nat) (A0 : Option Addr) (c0 : Nat) (l0 : List (S25)) (A1 : Option Addr) (c1 : Nat) (l1 : List (S25)) (r : Bool) (w : World) (hr0 : Kd.C k25 w A0 l0.length l0) (hc0 : l0.length ≤ c0) (hr1 : Kd.C k25 w A1 l1.length l1) (hc1 : l1.length ≤ c1) (h : impl_equalShapes.f k l0 l1 = some r) :
  Calls Tryz.prog 67 #[.slice A0 l0.length c0, .slice A1 l1.length c1] w fun e w' => e = .returned (.bool r) ∧ Drawn0 w w' := by
 have HR0 := aM hr0
 have HC0 := aM hc0
 clear hr0 hc0
 have HR1 := aM hr1
 have HC1 := aM hc1
 clear hr1 hc1
 have H : ((impl_Cell_37.f k l0 l1).bind fun t211 => (some t211)) = some r := h
 clear h
 replace H := Option.bind_eq_some_iff.mp H
 obtain ⟨t211, A30, H⟩ := H
 replace H : (some t211) = some r := H
 have A3 := aM A30
 clear A30
 obtain rfl := Option.some.inj H
 go_enter Tryz.func67, Tryz.ntmps67
 go_wp2_with (first | ((with_reducible refine gate_callee (f := 37) rfl ?_); refine goesL_ (some 7) rfl rfl Tryz.func37 (by kernel_rfl) rfl #[.slice A0 l0.length c0, .slice A1 l1.length c1] rfl zm ?_; (with_reducible refine (impl_Cell_37.calls k _ _ l0 _ _ l1 t211 _ ?side1 ?side2 ?side3 ?side4 A3.out).mono ?_); (case side1 => repeat (first | exact HR0.out | (with_reducible refine Kd.C_alloc ?_ _) | (with_reducible refine Kd.C_drewN ?_ _) | (with_reducible refine Kd.C_drew ?_))); (case side2 => exact HC0.out); (case side3 => repeat (first | exact HR1.out | (with_reducible refine Kd.C_alloc ?_ _) | (with_reducible refine Kd.C_drewN ?_ _) | (with_reducible refine Kd.C_drew ?_))); (case side4 => exact HC1.out); rintro e w' ⟨rfl, ⟨nd, rfl⟩⟩; refine ⟨_, rfl, ?_⟩))
 go_ret
 exact ⟨by first | rfl | (simp; done) | (simp [*]; done), by repeat (first | exact Drawn0.refl _ | apply Drawn0.step)⟩
end Go.Proofs.YtlnliahadgmbcaaGreat.F
end
section
namespace Go.Proofs.YtlnliahadgmbcaaGreat.F
open Go.RowKit Go.Proofs.YtlnliahadgmbcaaGreatW.PrintWords Go.Proofs.YtlnliahadgmbcaaGreatW.PrintLast Go.Proofs.YtlnliahadgmbcaaGreatW.PrintMore
attribute [local go_sem] max2_int min2_int max_two min_two max_three min_three max_four min_four
set_option linter.unusedVariables false
set_option linter.unusedSimpArgs false
open Go.Sort
def compG {β : Type} [DecidableEq β] (p : β) : List β → List β
  | [] => []
  | b :: r => if b = p then compG b r else b :: compG b r
def compF {β : Type} [DecidableEq β] : List β → List β
  | [] => []
  | a :: r => a :: compG a r
theorem compG_snoc {β : Type} [DecidableEq β] : ∀ (l : List β) (p b : β), compG p (l ++ [b]) = if b = (p :: l).getLast (by simp) then compG p l else compG p l ++ [b]
  | [], p, b => by
    by_cases h : b = p
    · simp [compG, h]
    · simp [compG, h]
  | a :: r, p, b => by
    have ih := compG_snoc r a b
    rw [List.cons_append, compG, compG, ih]
    have e : (p :: a :: r).getLast (by simp) = (a :: r).getLast (by simp) := List.getLast_cons (by simp)
    rw [e]
    by_cases h : a = p
    · rw [if_pos h, if_pos h]
    · rw [if_neg h, if_neg h]
      split
      · rfl
      · rfl
theorem compF_snoc {β : Type} [DecidableEq β] (l : List β) (b : β) (h : l ≠ []) : compF (l ++ [b]) = if b = l.getLast h then compF l else compF l ++ [b] := by
  cases l with
  | nil => exact absurd rfl h
  | cons a r =>
    rw [List.cons_append, compF, compF, compG_snoc]
    split
    · rfl
    · rfl
theorem compG_len {β : Type} [DecidableEq β] : ∀ (l : List β) (p : β), (compG p l).length ≤ l.length
  | [], _ => Nat.le_refl _
  | a :: r, p => by
    rw [compG]
    have := compG_len r a
    split
    · rw [List.length_cons]; omega
    · rw [List.length_cons, List.length_cons]; omega
theorem compF_len {β : Type} [DecidableEq β] (l : List β) : (compF l).length ≤ l.length := by
  cases l with
  | nil => exact Nat.le_refl _
  | cons a r => rw [compF, List.length_cons, List.length_cons]; have := compG_len r a; omega
theorem take_snoc_get {β : Type} (l : List β) (m : Nat) (h : m < l.length) : l.take (m + 1) = l.take m ++ [l[m]] := by
  rw [List.take_succ_eq_append_getElem h]
theorem compF_step {β : Type} [DecidableEq β] (l : List β) (m : Nat) (h : m < l.length) (h0 : 0 < m) : compF (l.take (m + 1)) = if l[m] = l[m - 1]'(by omega) then compF (l.take m) else compF (l.take m) ++ [l[m]] := by
  have hn : l.take m ≠ [] := by
    intro e
    have := congrArg List.length e
    rw [List.length_take, List.length_nil] at this
    omega
  rw [take_snoc_get l m h, compF_snoc _ _ hn]
  have e : (l.take m).getLast hn = l[m - 1]'(by omega) := by
    rw [List.getLast_eq_getElem]
    simp only [List.length_take, List.getElem_take]
    congr 1
    omega
  rw [e]
theorem take_sub {β : Type} (l : List β) {n m : Nat} (h : n ≤ m) : (l.take n).Sublist (l.take m) := by
  have : l.take n = (l.take m).take n := by rw [List.take_take, Nat.min_eq_left h]
  rw [this]
  exact List.take_sublist _ _
structure CompIv {α β : Type} [Inhabited α] [DecidableEq β] (key : α → β) (d : Array α) (m kk : Nat) (dk : Array α) : Prop where
  size : dk.size = d.size
  lt : kk < m
  le : m ≤ d.size
  low : (dk.toList.take kk).map key = compF ((d.toList.map key).take m)
  high : ∀ j, kk ≤ j → dk[j]! = d[j]!
  sub : (dk.toList.take kk).Sublist (d.toList.take m)
section
variable {α β : Type} [Inhabited α] [DecidableEq β] {key : α → β} {d dk : Array α} {m kk : Nat}
def AllKeep (key : α → β) (d : Array α) (m : Nat) : Prop := m ≤ d.size ∧ compF ((d.toList.map key).take m) = (d.toList.map key).take m
omit [Inhabited α] in
theorem AllKeep.one (h : 1 ≤ d.size) : AllKeep key d 1 := by
  refine ⟨h, ?_⟩
  cases hd : d.toList with
  | nil =>
    have e : d.toList.length = 0 := by rw [hd]; rfl
    rw [Array.length_toList] at e
    omega
  | cons a r => simp [compF, compG]
omit [DecidableEq β] in
theorem key_get (h : m < d.size) : (d.toList.map key)[m]'(by simpa using h) = key d[m]! := by
  rw [List.getElem_map, getElem!_pos d m h]
  simp
theorem AllKeep.step (h : AllKeep key d m) (h0 : 0 < m) (hm : m < d.size) (hk : key d[m]! ≠ key d[m - 1]!) : AllKeep key d (m + 1) := by
  refine ⟨hm, ?_⟩
  have hl : m < (d.toList.map key).length := by simpa using hm
  rw [compF_step _ m hl h0, key_get hm, key_get (by omega), if_neg hk, h.2, take_snoc_get _ m hl, key_get hm]
theorem CompIv.start (h : AllKeep key d kk) (h0 : 0 < kk) (hm : kk < d.size) (hk : key d[kk]! = key d[kk - 1]!) : CompIv key d (kk + 1) kk d where
  size := rfl
  lt := Nat.lt_succ_self _
  le := hm
  low := by
    have hl : kk < (d.toList.map key).length := by simpa using hm
    rw [compF_step _ kk hl h0, key_get hm, key_get (by omega), if_pos hk, h.2, List.map_take]
  high := fun _ _ => rfl
  sub := take_sub _ (Nat.le_succ _)
theorem CompIv.skip (h : CompIv key d m kk dk) (hm : m < d.size) (hk : key d[m]! = key d[m - 1]!) : CompIv key d (m + 1) kk dk where
  size := h.size
  lt := by have := h.lt; omega
  le := hm
  low := by
    have hl : m < (d.toList.map key).length := by simpa using hm
    have := h.lt
    rw [compF_step _ m hl (by omega), key_get hm, key_get (by omega), if_pos hk, h.low]
  high := h.high
  sub := h.sub.trans (take_sub _ (Nat.le_succ _))
omit [Inhabited α] in
theorem take_set {l : List α} {k : Nat} {x : α} (h : k < l.length) : (l.set k x).take (k + 1) = l.take k ++ [x] := by
  rw [take_snoc_get _ k (by simpa using h), List.take_set_of_le (Nat.le_refl _)]
  simp
theorem CompIv.keep (h : CompIv key d m kk dk) (hm : m < d.size) (hk : key d[m]! ≠ key d[m - 1]!) : CompIv key d (m + 1) (kk + 1) (dk.setIfInBounds kk d[m]!) where
  size := by simp [h.size]
  lt := by have := h.lt; omega
  le := hm
  low := by
    have hl : m < (d.toList.map key).length := by simpa using hm
    have h1 := h.lt
    have h2 := h.size
    rw [compF_step _ m hl (by omega), key_get hm, key_get (by omega), if_neg hk, ← h.low]
    have hkk : kk < dk.toList.length := by simp; omega
    rw [Array.toList_setIfInBounds, take_set hkk, List.map_append]
    rfl
  high := fun j hj => by rw [Go.Sort.getElem!_set_other dk kk j _ (by omega), h.high j (by omega)]
  sub := by
    have h1 := h.lt
    have h2 := h.size
    have hkk : kk < dk.toList.length := by simp; omega
    have hmm : m < d.toList.length := by simpa using hm
    rw [Array.toList_setIfInBounds, take_set hkk, take_snoc_get _ m hmm]
    refine h.sub.append ?_
    rw [getElem!_pos d m hm]
    simp
end
section
variable {α : Type} [Inhabited α] {enc : α → Value} {w0 W : World} {blk off : Nat} {dk : Array α}
theorem SW_set (h : SW enc w0 blk off dk W) (hblk : blk < w0.heap.size) (i : Nat) (hi : i < dk.size) (x : α) : SW enc w0 blk off (dk.setIfInBounds i x) (W.setCell ⟨blk, off + i, none⟩ (enc x)) := by
  obtain ⟨n, os, rfl⟩ := h
  refine ⟨n, os, ?_⟩
  unfold sortWorld
  rw [← putRow_grow enc (Go.Sort.ahead w0 n) os blk off dk hblk, Go.Sort.putRow_set enc _ blk off dk i x hi, putRow_grow enc (Go.Sort.ahead w0 n) os blk off _ hblk]
theorem SW_clear (h : SW enc w0 blk off dk W) (hblk : blk < w0.heap.size) (k : Nat) (xs : List α) (hk : k + xs.length ≤ dk.size) : ∃ dk' : Array α, dk'.size = dk.size ∧ dk'.toList.take k = dk.toList.take k ∧ SW enc w0 blk off dk' (W.setCells blk (off + k) (xs.map enc)) := by
  obtain ⟨m, os, rfl⟩ := h
  have hs : (Go.Lib.lay dk k xs).size = dk.size := by
    have : ∀ (xs : List α) (d : Array α) (k : Nat), (Go.Lib.lay d k xs).size = d.size := by
      intro xs
      induction xs with
      | nil => intro d k; rfl
      | cons x r ih => intro d k; rw [Go.Lib.lay, ih]; simp
    exact this _ _ _
  refine ⟨Go.Lib.lay dk k xs, hs, ?_, m, os, ?_⟩
  · apply List.ext_getElem?
    intro j
    by_cases hj : j < k
    · rw [List.getElem?_take_of_lt hj, List.getElem?_take_of_lt hj, Array.getElem?_toList, Go.Lib.lay_get? _ _ _ _ hk, if_neg (by omega), Array.getElem?_toList]
    · rw [List.getElem?_eq_none (by simp; omega), List.getElem?_eq_none (by simp; omega)]
  · unfold sortWorld
    rw [← putRow_grow enc (Go.Sort.ahead w0 m) os blk off dk hblk, Go.Lib.putRow_setCells enc _ blk off _ dk k hk, putRow_grow enc (Go.Sort.ahead w0 m) os blk off _ hblk]
end
theorem quietAt {P : Program} {f : FuncId} {args : Array Value} {w : World} {q a : Nat} {v : Value} (h : Calls P f args (w.drewN (q + a)) fun e w' => e = .returned v ∧ ∃ n, w' = (w.drewN (q + a)).drewN n) : Calls P f args (w.drewN (q + a)) fun e w' => e = .returned v ∧ ∃ n, w' = w.drewN (q + n) :=
  h.mono fun _ _ ⟨he, m, hm⟩ => ⟨he, a + m, by rw [hm, World.drewN_drewN, Nat.add_assoc]⟩
open Go.Sort
instance instDecC : DecidableEq S25 := fun a b => if h : a.f0 = b.f0 ∧ a.f1 = b.f1 then .isTrue (by obtain ⟨a0, a1⟩ := a; obtain ⟨b0, b1⟩ := b; simp_all) else .isFalse (fun e => h (by rw [e]; exact ⟨rfl, rfl⟩))
theorem flat_at {d : Array S25} {i : Nat} (hi : i < d.size) : (flatK encC 2 d)[i * 2]! = .int .i64 d[i]!.f0 ∧ (flatK encC 2 d)[i * 2 + 1]! = .int .i64 d[i]!.f1 := by
  rw [get_flatK encC 2 d (i * 2) (by omega), get_flatK encC 2 d (i * 2 + 1) (by omega), show i * 2 / 2 = i by omega, show i * 2 % 2 = 0 by omega, show (i * 2 + 1) / 2 = i by omega, show (i * 2 + 1) % 2 = 1 by omega]
  exact ⟨rfl, rfl⟩
end Go.Proofs.YtlnliahadgmbcaaGreat.F
end
