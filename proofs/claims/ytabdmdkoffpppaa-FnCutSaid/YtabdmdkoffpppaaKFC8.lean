/- The row of FnCut, with what it needs: text 9 of 11. -/
import Derived.Test.YtabdmdkoffpppaaKFC7
import Derived.ChangeArms
import Derived.ChangeSame
import Derived.Deep.Fields
import Derived.Deep.Slices
import Derived.Deep.Strs
import Derived.WideShapes
set_option maxHeartbeats 8000000
set_option maxRecDepth 100000
section
namespace Go.Proofs.Ytabdmdkoffpppaa.F
open Go.RowKit Go.Proofs.YtabdmdkoffpppaaW.PrintWords Go.Proofs.YtabdmdkoffpppaaW.PrintLast Go.Proofs.YtabdmdkoffpppaaW.PrintMore
attribute [local go_sem] max2_int min2_int max_two min_two max_three min_three max_four min_four
set_option linter.unusedVariables false
set_option linter.unusedSimpArgs false
theorem impl_Cell_154__impl_compareCells.calls (k : Nat) (A0 : Option Addr) (c0 : Nat) (l0 : List (S59)) (a1_0 : Int) (a1_1 : Int)  (r1 : Int) (r2 : Bool) (w : World) (hr0 : Kd.C k59 w A0 l0.length l0) (hc0 : l0.length ≤ c0) (h : impl_Cell_154__impl_compareCells.f k l0 a1_0 a1_1 = some (r1, r2)) :
  Calls Try.prog 154 #[.slice A0 l0.length c0, .agg #[.int .i64 a1_0, .int .i64 a1_1], .func (.func 142) #[] #[]] w fun e w' => e = .returned (.tuple #[.int .i64 r1, .bool r2]) ∧ Below w.heap.size w w' := by
 have hu59 := Try.underlying59
 have HR0 := aM hr0
 have HC0 := aM hc0
 clear hr0 hc0
 have HB := aM (Below.refl w.heap.size w)
 have H : (impl_Cell_154__impl_compareCells.l0 k l0 (l0.length : Int) 0 (l0.length : Int) a1_0 a1_1) = some (r1, r2) := h
 clear h
 have H' := aM H
 clear H
 go_enter Try.func154, Try.ntmps154
 go_wp2_with (first | ((with_reducible refine gate_dst (N := 4) rfl ?_); refine box_event ?hg (N := 4) ?hd (cs := #[.int .i64 a1_0, .int .i64 a1_1]) (t := 59) ?hr ?_; (case hd => rfl); (case hg => rfl); (case hr => first | (go_simp; done) | (go_simp; rfl)); intro gb1231 hg w4 hbox hb; have n0_ := aM (below_step zb hb); have n1_ := aM (hbox); have n2_ := aM ((ze : w.heap.size ≤ gb1231)); have n3_ := aM ((ze : w.heap.size ≤ gb1231)); clear HB; have HB := n0_; have BK1231 := n1_; have GW1231 := n2_; have GE1231 := n3_; clear n0_ n1_ n2_ n3_; clear hb hbox hg))
 go_loopg [9, 10] k (fun kq v9 v10 w' => ∃ (x9_1 : Int) (x10_1 : Int), v9 = .int .i64 x9_1 ∧ v10 = .int .i64 x10_1 ∧ Aside0 (impl_Cell_154__impl_compareCells.l0 kq l0 (l0.length : Int) x9_1 x10_1 a1_0 a1_1 = some (r1, r2)) ∧ Aside0 (kq ≤ k) ∧ Aside0 (w'.heap[gb1231]? = some (.cells #[.int .i64 a1_0, .int .i64 a1_1] 59 (0, 0))) ∧ Aside0 (Below w.heap.size w w'))
 case atStart => exact ⟨(0), ((l0.length : Int)), zr, zr, H', ⟨Nat.le_refl _⟩, ⟨mB_ BK1231.out⟩, ⟨zs GE1231.out⟩⟩
 case round =>
  clear H'
  try clear p2
  obtain ⟨x9_1, x10_1, rfl, rfl, HA, HK1, BK1231, HB⟩ := hrel
  cases gk with
  | zero => exact absurd HA.out (by simp [impl_Cell_154__impl_compareCells.l0])
  | succ k1 =>
   have H := HA.out
   clear HA
   simp only [impl_Cell_154__impl_compareCells.l0] at H
   by_cases c5 : x9_1 < x10_1
   ·rw [if_pos c5] at H
    have c5b0 : decide (x9_1 < x10_1) = true := decide_eq_true c5
    clear c5
    obtain ⟨ji6, hji6⟩ : ∃ j_ : Int, (wrap64 ((IntKind.u64.wrap (wrap64 (x9_1 + x10_1))) / 2)) = j_ := ⟨_, rfl⟩
    replace H : (if 0 ≤ (ji6) then (if (ji6) < (l0.length : Int) then ((impl_compareCells.f ((rd_T59 l0 (ji6)).f0) ((rd_T59 l0 (ji6)).f1) a1_0 a1_1).bind fun t1233 => (if t1233 < 0 then (impl_Cell_154__impl_compareCells.l0 k1 l0 (l0.length : Int) (wrap64 ((ji6) + 1)) x10_1 a1_0 a1_1) else (impl_Cell_154__impl_compareCells.l0 k1 l0 (l0.length : Int) x9_1 ji6 a1_0 a1_1))) else (none)) else (none)) = some (r1, r2) := by first | (rw [hji6] at H; exact H) | (simp only [hji6] at H ⊢; exact H)
    have hji6w : (IntKind.i64.wrap ((IntKind.u64.wrap (wrap64 (x9_1 + x10_1))) / 2)) = ji6 := (i64_w _).trans hji6
    by_cases c7 : 0 ≤ (ji6)
    rotate_left
    ·rw [if_neg c7] at H
     exact absurd H (by simp)
    rw [if_pos c7] at H
    have c7b0 : decide (0 ≤ (ji6)) = true := decide_eq_true c7
    clear c7
    by_cases c8 : (ji6) < (l0.length : Int)
    rotate_left
    ·rw [if_neg c8] at H
     exact absurd H (by simp)
    rw [if_pos c8] at H
    have c8b0 : decide ((ji6) < (l0.length : Int)) = true := decide_eq_true c8
    clear c8
    replace H := Option.bind_eq_some_iff.mp H
    obtain ⟨t1233, A90, H⟩ := H
    replace H : (if t1233 < 0 then (impl_Cell_154__impl_compareCells.l0 k1 l0 (l0.length : Int) (wrap64 ((ji6) + 1)) x10_1 a1_0 a1_1) else (impl_Cell_154__impl_compareCells.l0 k1 l0 (l0.length : Int) x9_1 ji6 a1_0 a1_1)) = some (r1, r2) := H
    have A9 := aM A90
    clear A90
    by_cases c10 : t1233 < 0
    ·rw [if_pos c10] at H
     have c10b0 : decide (t1233 < 0) = true := decide_eq_true c10
     clear c10
     have H' := aM H
     clear H
     try go_wp2
     have n0_ := aM (blk_drew BK1231.out)
     have n1_ := aM (below_drew1 HB.out)
     clear BK1231
     clear HB
     have BK1231 := n0_
     have HB := n1_
     clear n0_ n1_
     have p1232 : 0 ≤ ((ji6) : Int) := of_decide_eq_true za
     have q1232 : (ji6) < (l0.length : Int) := of_decide_eq_true za
     obtain ⟨ad1232, e1232, hx1232_0, hx1232_1⟩ := at_T59 HR0.out (ji6) p1232 q1232
     have hw1232_1 := hx1232_1
     have hw1232_0 := hx1232_0
     cases e1232
     replace hx1232_0 := (HB.out.cell (World.block_lt_of_cell? w _ hx1232_0)).trans hx1232_0
     replace hx1232_1 := (HB.out.cell (World.block_lt_of_cell? w _ hx1232_1)).trans hx1232_1
     replace p1232 := eq_true p1232
     replace q1232 := eq_true q1232
     refine start_ (n := 8) (S := fun w' => w'.cell? ⟨gb1231, 0, none⟩ = some (.int .i64 a1_0) ∧ w'.cell? ⟨gb1231, 1, none⟩ = some (.int .i64 a1_1) ∧ w'.cell? (ad1232.add (((ji6)).toNat * 2)) = some (.int .i64 ((rd_T59 l0 (ji6)).f0)) ∧ w'.cell? ⟨(ad1232.add (((ji6)).toNat * 2)).block, (ad1232.add (((ji6)).toNat * 2)).off + 1, none⟩ = some (.int .i64 ((rd_T59 l0 (ji6)).f1))) (ds := []) #[false, false, false, false, false, false, false, false] (by kernel_rfl) rfl rfl ⟨(blk_cell BK1231.out 0).trans rfl, (blk_cell BK1231.out 1).trans rfl, ((HB.out.cell (World.block_lt_of_cell? w _ hw1232_0)).trans hw1232_0), ((HB.out.cell (World.block_lt_of_cell? w _ hw1232_1)).trans hw1232_1)⟩ (fun hHeld => ?_); refine with_tabW impl_Cell_154__impl_compareCells.tab5 impl_Cell_154__impl_compareCells.bits5 (fun HT_ HW_ => ?_)
     generalize wr.drew = w11 at BK1231 HB hx1232_0 hx1232_1 hHeld ⊢
     refine pure_ (i := 0) (N := some 24) (v := ?_) (a' := ?_) #[true, false, false, false, false, false, false, false] rfl rfl zz (fun _ _ _ h => h) (Or.inl ⟨by rfl, ?_⟩) ?_ ?_
     rotate_left
     ·intro w'
      go_simp
      with_reducible rfl
     rotate_left
     ·simp only [Act.put, xA, xB, xC, i64_w, i32_w]
      rfl
     refine pure_ (i := 1) (N := some 25) (v := ?_) (a' := ?_) #[true, true, false, false, false, false, false, false] rfl rfl zz (fun _ _ _ h => h) (Or.inl ⟨by rfl, ?_⟩) ?_ ?_
     rotate_left
     ·intro w'
      go_simp
      with_reducible rfl
     rotate_left
     ·simp only [Act.put, xA, xB, xC, i64_w, i32_w]
      rfl
     refine pure_ (i := 2) (N := some 26) (v := ?_) (a' := ?_) #[true, true, true, false, false, false, false, false] rfl rfl zz (fun _ _ _ h => h) (Or.inl ⟨by rfl, ?_⟩) ?_ ?_
     rotate_left
     ·intro w'
      go_simp
      with_reducible rfl
     rotate_left
     ·simp only [Act.put, xA, xB, xC, i64_w, i32_w]
      rfl
     refine pure_ (i := 3) (N := some 27) (v := ?_) (a' := ?_) #[true, true, true, true, false, false, false, false] rfl rfl zz (fun _ _ _ h => h) (Or.inl ⟨by rfl, ?_⟩) ?_ ?_
     rotate_left
     ·intro w'
      go_simp
      with_reducible rfl
     rotate_left
     ·simp only [Act.put, xA, xB, xC, i64_w, i32_w]
      rfl
     refine take_ (i := 4) (N := some 28) (v := ?_) (a' := ?_) #[true, true, true, true, true, false, false, false] rfl rfl (take_ofW HT_.out HW_.out (by kernel_rfl)) (fun _ _ _ h => h) (Or.inl ⟨by rfl, ?_⟩) hHeld ?_ ?_
     rotate_left
     ·rintro w' ⟨s0, s1, s2, s3⟩
      go_simp
      with_reducible rfl
     rotate_left
     ·simp only [Act.put, xA, xB, xC, i64_w, i32_w]
      rfl
     refine take_ (i := 5) (N := some 29) (v := ?_) (a' := ?_) #[true, true, true, true, true, true, false, false] rfl rfl (take_ofW HT_.out HW_.out (by kernel_rfl)) (fun _ _ _ h => h) (Or.inl ⟨by rfl, ?_⟩) hHeld ?_ ?_
     rotate_left
     ·rintro w' ⟨s0, s1, s2, s3⟩
      go_simp
      with_reducible rfl
     rotate_left
     ·simp only [Act.put, xA, xB, xC, i64_w, i32_w]
      rfl
     refine one_ (i := 6) (N := some 30) #[true, true, true, true, true, true, true, false] rfl rfl (one_of HT_.out (by kernel_rfl)) (by decide) (fun K hK => ?_)
     first | refine goesV_ Try.func142 (by kernel_rfl) rfl #[.agg #[.int .i64 ((rd_T59 l0 (ji6)).f0), .int .i64 ((rd_T59 l0 (ji6)).f1)], .agg #[.int .i64 a1_0, .int .i64 a1_1]] (by rfl) rfl _ rfl rfl (by (try simp only [mA, mB, mC]); first | done | (simp only [hji6]; rfl) | rfl | (simp only [lD, lT]; rfl)) ?_ | refine goes_ Try.func142 (by kernel_rfl) rfl #[.agg #[.int .i64 ((rd_T59 l0 (ji6)).f0), .int .i64 ((rd_T59 l0 (ji6)).f1)], .agg #[.int .i64 a1_0, .int .i64 a1_1]] (by rfl) rfl rfl (by (try simp only [mA, mB, mC]); first | done | (simp only [hji6]; rfl) | rfl | (simp only [lD, lT]; rfl)) ?_
     with_reducible refine (impl_compareCells.calls ((rd_T59 l0 (ji6)).f0) ((rd_T59 l0 (ji6)).f1) a1_0 a1_1 t1233 _ A9.out).mono ?_
     rintro e w12 ⟨rfl, hb⟩
     refine ⟨_, rfl, ?_⟩
     have n0_ := aM (blk_below (g := gb1231) (o := .cells #[.int .i64 a1_0, .int .i64 a1_1] 59 (0, 0)) (mB_ BK1231.out) hb)
     have n1_ := aM (below_step (zs GE1231.out) hb)
     clear BK1231
     clear HB
     have BK1231 := n0_
     have HB := n1_
     clear n0_ n1_
     (try clear hb)
     (try clear hb2)
     (try clear hk)
     (try clear hi)
     refine hK.out _ _ ⟨(blk_cell BK1231.out 0).trans rfl, (blk_cell BK1231.out 1).trans rfl, ((HB.out.cell (World.block_lt_of_cell? w _ hw1232_0)).trans hw1232_0), ((HB.out.cell (World.block_lt_of_cell? w _ hw1232_1)).trans hw1232_1)⟩ (fun hHeld => ?_)
     clear hK K
     refine norm_ (a' := ?_) ?_ ?_
     rotate_left
     ·show Act.put _ (some 30) _ = _
      simp only [Act.put, xA, xB, xC, i64_w, i32_w]
      rfl
     refine pure_ (i := 7) (N := some 31) (v := ?_) (a' := ?_) #[true, true, true, true, true, true, true, true] rfl rfl zz (fun _ _ _ h => h) (Or.inl ⟨by rfl, ?_⟩) ?_ ?_
     rotate_left
     ·intro w'
      go_simp
      with_reducible rfl
     rotate_left
     ·simp only [Act.put, xA, xB, xC, i64_w, i32_w]
      rfl
     refine done_ (done_of HT_.out (by kernel_rfl)) ?_
     try go_wp2
     go_roundg k1
     case measure => have := HK1.out; omega
     case rel => exact ⟨(wrap64 ((ji6) + 1)), (x10_1), (by first | rfl | (simp; done) | (simp only [← hji6] <;> (first | rfl | simp)) | (simp [*]; done)), zr, H', ⟨by have := HK1.out; omega⟩, ⟨mB_ BK1231.out⟩, ⟨zs GE1231.out⟩⟩
    rw [if_neg c10] at H
    have c10b0 : decide (t1233 < 0) = false := decide_eq_false c10
    clear c10
    have H' := aM H
    clear H
    try go_wp2
    have n0_ := aM (blk_drew BK1231.out)
    have n1_ := aM (below_drew1 HB.out)
    clear BK1231
    clear HB
    have BK1231 := n0_
    have HB := n1_
    clear n0_ n1_
    have p1232 : 0 ≤ ((ji6) : Int) := of_decide_eq_true za
    have q1232 : (ji6) < (l0.length : Int) := of_decide_eq_true za
    obtain ⟨ad1232, e1232, hx1232_0, hx1232_1⟩ := at_T59 HR0.out (ji6) p1232 q1232
    have hw1232_1 := hx1232_1
    have hw1232_0 := hx1232_0
    cases e1232
    replace hx1232_0 := (HB.out.cell (World.block_lt_of_cell? w _ hx1232_0)).trans hx1232_0
    replace hx1232_1 := (HB.out.cell (World.block_lt_of_cell? w _ hx1232_1)).trans hx1232_1
    replace p1232 := eq_true p1232
    replace q1232 := eq_true q1232
    refine start_ (n := 8) (S := fun w' => w'.cell? ⟨gb1231, 0, none⟩ = some (.int .i64 a1_0) ∧ w'.cell? ⟨gb1231, 1, none⟩ = some (.int .i64 a1_1) ∧ w'.cell? (ad1232.add (((ji6)).toNat * 2)) = some (.int .i64 ((rd_T59 l0 (ji6)).f0)) ∧ w'.cell? ⟨(ad1232.add (((ji6)).toNat * 2)).block, (ad1232.add (((ji6)).toNat * 2)).off + 1, none⟩ = some (.int .i64 ((rd_T59 l0 (ji6)).f1))) (ds := []) #[false, false, false, false, false, false, false, false] (by kernel_rfl) rfl rfl ⟨(blk_cell BK1231.out 0).trans rfl, (blk_cell BK1231.out 1).trans rfl, ((HB.out.cell (World.block_lt_of_cell? w _ hw1232_0)).trans hw1232_0), ((HB.out.cell (World.block_lt_of_cell? w _ hw1232_1)).trans hw1232_1)⟩ (fun hHeld => ?_); refine with_tabW impl_Cell_154__impl_compareCells.tab5 impl_Cell_154__impl_compareCells.bits5 (fun HT_ HW_ => ?_)
    generalize wr.drew = w13 at BK1231 HB hx1232_0 hx1232_1 hHeld ⊢
    refine pure_ (i := 0) (N := some 24) (v := ?_) (a' := ?_) #[true, false, false, false, false, false, false, false] rfl rfl zz (fun _ _ _ h => h) (Or.inl ⟨by rfl, ?_⟩) ?_ ?_
    rotate_left
    ·intro w'
     go_simp
     with_reducible rfl
    rotate_left
    ·simp only [Act.put, xA, xB, xC, i64_w, i32_w]
     rfl
    refine pure_ (i := 1) (N := some 25) (v := ?_) (a' := ?_) #[true, true, false, false, false, false, false, false] rfl rfl zz (fun _ _ _ h => h) (Or.inl ⟨by rfl, ?_⟩) ?_ ?_
    rotate_left
    ·intro w'
     go_simp
     with_reducible rfl
    rotate_left
    ·simp only [Act.put, xA, xB, xC, i64_w, i32_w]
     rfl
    refine pure_ (i := 2) (N := some 26) (v := ?_) (a' := ?_) #[true, true, true, false, false, false, false, false] rfl rfl zz (fun _ _ _ h => h) (Or.inl ⟨by rfl, ?_⟩) ?_ ?_
    rotate_left
    ·intro w'
     go_simp
     with_reducible rfl
    rotate_left
    ·simp only [Act.put, xA, xB, xC, i64_w, i32_w]
     rfl
    refine pure_ (i := 3) (N := some 27) (v := ?_) (a' := ?_) #[true, true, true, true, false, false, false, false] rfl rfl zz (fun _ _ _ h => h) (Or.inl ⟨by rfl, ?_⟩) ?_ ?_
    rotate_left
    ·intro w'
     go_simp
     with_reducible rfl
    rotate_left
    ·simp only [Act.put, xA, xB, xC, i64_w, i32_w]
     rfl
    refine take_ (i := 4) (N := some 28) (v := ?_) (a' := ?_) #[true, true, true, true, true, false, false, false] rfl rfl (take_ofW HT_.out HW_.out (by kernel_rfl)) (fun _ _ _ h => h) (Or.inl ⟨by rfl, ?_⟩) hHeld ?_ ?_
    rotate_left
    ·rintro w' ⟨s0, s1, s2, s3⟩
     go_simp
     with_reducible rfl
    rotate_left
    ·simp only [Act.put, xA, xB, xC, i64_w, i32_w]
     rfl
    refine take_ (i := 5) (N := some 29) (v := ?_) (a' := ?_) #[true, true, true, true, true, true, false, false] rfl rfl (take_ofW HT_.out HW_.out (by kernel_rfl)) (fun _ _ _ h => h) (Or.inl ⟨by rfl, ?_⟩) hHeld ?_ ?_
    rotate_left
    ·rintro w' ⟨s0, s1, s2, s3⟩
     go_simp
     with_reducible rfl
    rotate_left
    ·simp only [Act.put, xA, xB, xC, i64_w, i32_w]
     rfl
    refine one_ (i := 6) (N := some 30) #[true, true, true, true, true, true, true, false] rfl rfl (one_of HT_.out (by kernel_rfl)) (by decide) (fun K hK => ?_)
    first | refine goesV_ Try.func142 (by kernel_rfl) rfl #[.agg #[.int .i64 ((rd_T59 l0 (ji6)).f0), .int .i64 ((rd_T59 l0 (ji6)).f1)], .agg #[.int .i64 a1_0, .int .i64 a1_1]] (by rfl) rfl _ rfl rfl (by (try simp only [mA, mB, mC]); first | done | (simp only [hji6]; rfl) | rfl | (simp only [lD, lT]; rfl)) ?_ | refine goes_ Try.func142 (by kernel_rfl) rfl #[.agg #[.int .i64 ((rd_T59 l0 (ji6)).f0), .int .i64 ((rd_T59 l0 (ji6)).f1)], .agg #[.int .i64 a1_0, .int .i64 a1_1]] (by rfl) rfl rfl (by (try simp only [mA, mB, mC]); first | done | (simp only [hji6]; rfl) | rfl | (simp only [lD, lT]; rfl)) ?_
    with_reducible refine (impl_compareCells.calls ((rd_T59 l0 (ji6)).f0) ((rd_T59 l0 (ji6)).f1) a1_0 a1_1 t1233 _ A9.out).mono ?_
    rintro e w14 ⟨rfl, hb⟩
    refine ⟨_, rfl, ?_⟩
    have n0_ := aM (blk_below (g := gb1231) (o := .cells #[.int .i64 a1_0, .int .i64 a1_1] 59 (0, 0)) (mB_ BK1231.out) hb)
    have n1_ := aM (below_step (zs GE1231.out) hb)
    clear BK1231
    clear HB
    have BK1231 := n0_
    have HB := n1_
    clear n0_ n1_
    (try clear hb)
    (try clear hb2)
    (try clear hk)
    (try clear hi)
    refine hK.out _ _ ⟨(blk_cell BK1231.out 0).trans rfl, (blk_cell BK1231.out 1).trans rfl, ((HB.out.cell (World.block_lt_of_cell? w _ hw1232_0)).trans hw1232_0), ((HB.out.cell (World.block_lt_of_cell? w _ hw1232_1)).trans hw1232_1)⟩ (fun hHeld => ?_)
    clear hK K
    refine norm_ (a' := ?_) ?_ ?_
    rotate_left
    ·show Act.put _ (some 30) _ = _
     simp only [Act.put, xA, xB, xC, i64_w, i32_w]
     rfl
    refine pure_ (i := 7) (N := some 31) (v := ?_) (a' := ?_) #[true, true, true, true, true, true, true, true] rfl rfl zz (fun _ _ _ h => h) (Or.inl ⟨by rfl, ?_⟩) ?_ ?_
    rotate_left
    ·intro w'
     go_simp
     with_reducible rfl
    rotate_left
    ·simp only [Act.put, xA, xB, xC, i64_w, i32_w]
     rfl
    refine done_ (done_of HT_.out (by kernel_rfl)) ?_
    try go_wp2
    go_roundg k1
    case measure => have := HK1.out; omega
    case rel => exact ⟨(x9_1), (ji6), zr, (by first | rfl | (simp; done) | (simp only [← hji6] <;> (first | rfl | simp)) | (simp [*]; done)), H', ⟨by have := HK1.out; omega⟩, ⟨mB_ BK1231.out⟩, ⟨zs GE1231.out⟩⟩
   rw [if_neg c5] at H
   have c5b0 : decide (x9_1 < x10_1) = false := decide_eq_false c5
   clear c5
   by_cases c15 : x9_1 < (l0.length : Int)
   rotate_left
   ·rw [if_neg c15] at H
    have c15b0 : decide (x9_1 < (l0.length : Int)) = false := decide_eq_false c15
    clear c15
    simp only [Option.some.injEq, Prod.mk.injEq] at H
    obtain ⟨rfl, rfl⟩ := H
    try go_wp2
    have n0_ := aM (blk_drew BK1231.out)
    have n1_ := aM (below_drew1 HB.out)
    clear BK1231
    clear HB
    have BK1231 := n0_
    have HB := n1_
    clear n0_ n1_
    refine start_ (n := 16) (S := fun w' => True) (ds := []) #[false, false, false, false, false, false, false, false, false, false, false, false, false, false, false, false] (by kernel_rfl) rfl rfl trivial (fun hHeld => ?_); refine with_tabW impl_Cell_154__impl_compareCells.tab8 impl_Cell_154__impl_compareCells.bits8 (fun HT_ HW_ => ?_)
    generalize wr.drew = w21 at BK1231 HB hHeld ⊢
    refine pure_ (i := 0) (N := some 35) (v := ?_) (a' := ?_) #[true, false, false, false, false, false, false, false, false, false, false, false, false, false, false, false] rfl rfl zz (fun _ _ _ h => h) (Or.inl ⟨by rfl, ?_⟩) ?_ ?_
    rotate_left
    ·intro w'
     go_simp
     with_reducible rfl
    rotate_left
    ·simp only [Act.put, xA, xB, xC, i64_w, i32_w]
     rfl
    refine pure_ (i := 1) (N := some 36) (v := ?_) (a' := ?_) #[true, true, false, false, false, false, false, false, false, false, false, false, false, false, false, false] rfl rfl zz (fun _ _ _ h => h) (Or.inl ⟨by rfl, ?_⟩) ?_ ?_
    rotate_left
    ·intro w'
     go_simp
     with_reducible rfl
    rotate_left
    ·simp only [Act.put, xA, xB, xC, i64_w, i32_w]
     rfl
    refine pure_ (i := 2) (N := some 37) (v := ?_) (a' := ?_) #[true, true, true, false, false, false, false, false, false, false, false, false, false, false, false, false] rfl rfl zz (fun _ _ _ h => h) (Or.inl ⟨by rfl, ?_⟩) ?_ ?_
    rotate_left
    ·intro w'
     go_simp
     with_reducible rfl
    rotate_left
    ·simp only [Act.put, xA, xB, xC, i64_w, i32_w]
     rfl
    refine pure_ (i := 3) (N := some 38) (v := ?_) (a' := ?_) #[true, true, true, true, false, false, false, false, false, false, false, false, false, false, false, false] rfl rfl zz (fun _ _ _ h => h) (Or.inl ⟨by rfl, ?_⟩) ?_ ?_
    rotate_left
    ·intro w'
     go_simp
     with_reducible rfl
    rotate_left
    ·simp only [Act.put, xA, xB, xC, i64_w, i32_w]
     rfl
    refine pure_ (i := 4) (N := some 39) (v := ?_) (a' := ?_) #[true, true, true, true, true, false, false, false, false, false, false, false, false, false, false, false] rfl rfl zz (fun _ _ _ h => h) (Or.inl ⟨by rfl, ?_⟩) ?_ ?_
    rotate_left
    ·intro w'
     go_simp
     with_reducible rfl
    rotate_left
    ·simp only [Act.put, xA, xB, xC, i64_w, i32_w]
     rfl
    refine pure_ (i := 5) (N := some 40) (v := undef) (a' := ?_) #[true, true, true, true, true, true, false, false, false, false, false, false, false, false, false, false] rfl rfl zz (fun _ _ _ h => h) (Or.inr ⟨by rfl, rfl⟩) ?_ ?_
    rotate_left
    ·simp only [Act.put, xA, xB, xC, i64_w, i32_w]
     rfl
    refine pure_ (i := 6) (N := some 41) (v := undef) (a' := ?_) #[true, true, true, true, true, true, true, false, false, false, false, false, false, false, false, false] rfl rfl zz (fun _ _ _ h => h) (Or.inr ⟨by rfl, rfl⟩) ?_ ?_
    rotate_left
    ·simp only [Act.put, xA, xB, xC, i64_w, i32_w]
     rfl
    refine pure_ (i := 7) (N := some 42) (v := undef) (a' := ?_) #[true, true, true, true, true, true, true, true, false, false, false, false, false, false, false, false] rfl rfl zz (fun _ _ _ h => h) (Or.inr ⟨by rfl, rfl⟩) ?_ ?_
    rotate_left
    ·simp only [Act.put, xA, xB, xC, i64_w, i32_w]
     rfl
    refine pure_ (i := 8) (N := some 43) (v := undef) (a' := ?_) #[true, true, true, true, true, true, true, true, true, false, false, false, false, false, false, false] rfl rfl zz (fun _ _ _ h => h) (Or.inr ⟨by rfl, rfl⟩) ?_ ?_
    rotate_left
    ·simp only [Act.put, xA, xB, xC, i64_w, i32_w]
     rfl
    refine pure_ (i := 9) (N := some 44) (v := undef) (a' := ?_) #[true, true, true, true, true, true, true, true, true, true, false, false, false, false, false, false] rfl rfl zz (fun _ _ _ h => h) (Or.inr ⟨by rfl, rfl⟩) ?_ ?_
    rotate_left
    ·simp only [Act.put, xA, xB, xC, i64_w, i32_w]
     rfl
    refine pure_ (i := 10) (N := some 45) (v := undef) (a' := ?_) #[true, true, true, true, true, true, true, true, true, true, true, false, false, false, false, false] rfl rfl zz (fun _ _ _ h => h) (Or.inr ⟨by rfl, rfl⟩) ?_ ?_
    rotate_left
    ·simp only [Act.put, xA, xB, xC, i64_w, i32_w]
     rfl
    refine pure_ (i := 11) (N := some 46) (v := undef) (a' := ?_) #[true, true, true, true, true, true, true, true, true, true, true, true, false, false, false, false] rfl rfl zz (fun _ _ _ h => h) (Or.inr ⟨by rfl, rfl⟩) ?_ ?_
    rotate_left
    ·simp only [Act.put, xA, xB, xC, i64_w, i32_w]
     rfl
    refine pure_ (i := 12) (N := some 47) (v := undef) (a' := ?_) #[true, true, true, true, true, true, true, true, true, true, true, true, true, false, false, false] rfl rfl zz (fun _ _ _ h => h) (Or.inr ⟨by rfl, rfl⟩) ?_ ?_
    rotate_left
    ·simp only [Act.put, xA, xB, xC, i64_w, i32_w]
     rfl
    refine pure_ (i := 13) (N := some 48) (v := ?_) (a' := ?_) #[true, true, true, true, true, true, true, true, true, true, true, true, true, true, false, false] rfl rfl zz (fun _ _ _ h => h) (Or.inl ⟨by rfl, ?_⟩) ?_ ?_
    rotate_left
    ·intro w'
     go_simp
     with_reducible rfl
    rotate_left
    ·simp only [Act.put, xA, xB, xC, i64_w, i32_w]
     rfl
    refine pure_ (i := 14) (N := some 6) (v := ?_) (a' := ?_) #[true, true, true, true, true, true, true, true, true, true, true, true, true, true, true, false] rfl rfl zz (fun _ _ _ h => h) (Or.inl ⟨by rfl, ?_⟩) ?_ ?_
    rotate_left
    ·intro w'
     go_simp
     with_reducible rfl
    rotate_left
    ·simp only [Act.put, xA, xB, xC, i64_w, i32_w]
     rfl
    refine pure_ (i := 15) (N := some 7) (v := ?_) (a' := ?_) #[true, true, true, true, true, true, true, true, true, true, true, true, true, true, true, true] rfl rfl zz (fun _ _ _ h => h) (Or.inl ⟨by rfl, ?_⟩) ?_ ?_
    rotate_left
    ·intro w'
     go_simp
     with_reducible rfl
    rotate_left
    ·simp only [Act.put, xA, xB, xC, i64_w, i32_w]
     rfl
    refine done_ (done_of HT_.out (by kernel_rfl)) ?_
    try go_wp2
    go_ret2
    exact ⟨zw, zs GE1231.out⟩
   rw [if_pos c15] at H
   have c15b0 : decide (x9_1 < (l0.length : Int)) = true := decide_eq_true c15
   clear c15
   by_cases c16 : 0 ≤ x9_1
   rotate_left
   ·rw [if_neg c16] at H
    exact absurd H (by simp)
   rw [if_pos c16] at H
   have c16b0 : decide (0 ≤ x9_1) = true := decide_eq_true c16
   clear c16
   by_cases c17 : x9_1 < (l0.length : Int)
   rotate_left
   ·rw [if_neg c17] at H
    exact absurd H (by simp)
   rw [if_pos c17] at H
   have c17b0 : decide (x9_1 < (l0.length : Int)) = true := decide_eq_true c17
   clear c17
   replace H := Option.bind_eq_some_iff.mp H
   obtain ⟨t1235, A180, H⟩ := H
   replace H : (some (x9_1, (t1235 == 0))) = some (r1, r2) := H
   have A18 := aM A180
   clear A180
   simp only [Option.some.injEq, Prod.mk.injEq] at H
   obtain ⟨rfl, rfl⟩ := H
   try go_wp2
   have n0_ := aM (blk_drew BK1231.out)
   have n1_ := aM (below_drew1 HB.out)
   clear BK1231
   clear HB
   have BK1231 := n0_
   have HB := n1_
   clear n0_ n1_
   have p1234 : 0 ≤ (x9_1 : Int) := of_decide_eq_true za
   have q1234 : x9_1 < (l0.length : Int) := of_decide_eq_true za
   obtain ⟨ad1234, e1234, hx1234_0, hx1234_1⟩ := at_T59 HR0.out x9_1 p1234 q1234
   have hw1234_1 := hx1234_1
   have hw1234_0 := hx1234_0
   cases e1234
   replace hx1234_0 := (HB.out.cell (World.block_lt_of_cell? w _ hx1234_0)).trans hx1234_0
   replace hx1234_1 := (HB.out.cell (World.block_lt_of_cell? w _ hx1234_1)).trans hx1234_1
   replace p1234 := eq_true p1234
   replace q1234 := eq_true q1234
   refine start_ (n := 16) (S := fun w' => w'.cell? ⟨gb1231, 0, none⟩ = some (.int .i64 a1_0) ∧ w'.cell? ⟨gb1231, 1, none⟩ = some (.int .i64 a1_1) ∧ w'.cell? (ad1234.add ((x9_1).toNat * 2)) = some (.int .i64 ((rd_T59 l0 x9_1).f0)) ∧ w'.cell? ⟨(ad1234.add ((x9_1).toNat * 2)).block, (ad1234.add ((x9_1).toNat * 2)).off + 1, none⟩ = some (.int .i64 ((rd_T59 l0 x9_1).f1))) (ds := []) #[false, false, false, false, false, false, false, false, false, false, false, false, false, false, false, false] (by kernel_rfl) rfl rfl ⟨(blk_cell BK1231.out 0).trans rfl, (blk_cell BK1231.out 1).trans rfl, ((HB.out.cell (World.block_lt_of_cell? w _ hw1234_0)).trans hw1234_0), ((HB.out.cell (World.block_lt_of_cell? w _ hw1234_1)).trans hw1234_1)⟩ (fun hHeld => ?_); refine with_tabW impl_Cell_154__impl_compareCells.tab8 impl_Cell_154__impl_compareCells.bits8 (fun HT_ HW_ => ?_)
   generalize wr.drew = w19 at BK1231 HB hx1234_0 hx1234_1 hHeld ⊢
   refine pure_ (i := 0) (N := some 35) (v := ?_) (a' := ?_) #[true, false, false, false, false, false, false, false, false, false, false, false, false, false, false, false] rfl rfl zz (fun _ _ _ h => h) (Or.inl ⟨by rfl, ?_⟩) ?_ ?_
   rotate_left
   ·intro w'
    go_simp
    with_reducible rfl
   rotate_left
   ·simp only [Act.put, xA, xB, xC, i64_w, i32_w]
    rfl
   refine pure_ (i := 1) (N := some 36) (v := ?_) (a' := ?_) #[true, true, false, false, false, false, false, false, false, false, false, false, false, false, false, false] rfl rfl zz (fun _ _ _ h => h) (Or.inl ⟨by rfl, ?_⟩) ?_ ?_
   rotate_left
   ·intro w'
    go_simp
    with_reducible rfl
   rotate_left
   ·simp only [Act.put, xA, xB, xC, i64_w, i32_w]
    rfl
   refine pure_ (i := 2) (N := some 37) (v := ?_) (a' := ?_) #[true, true, true, false, false, false, false, false, false, false, false, false, false, false, false, false] rfl rfl zz (fun _ _ _ h => h) (Or.inl ⟨by rfl, ?_⟩) ?_ ?_
   rotate_left
   ·intro w'
    go_simp
    with_reducible rfl
   rotate_left
   ·simp only [Act.put, xA, xB, xC, i64_w, i32_w]
    rfl
   refine pure_ (i := 3) (N := some 38) (v := ?_) (a' := ?_) #[true, true, true, true, false, false, false, false, false, false, false, false, false, false, false, false] rfl rfl zz (fun _ _ _ h => h) (Or.inl ⟨by rfl, ?_⟩) ?_ ?_
   rotate_left
   ·intro w'
    go_simp
    with_reducible rfl
   rotate_left
   ·simp only [Act.put, xA, xB, xC, i64_w, i32_w]
    rfl
   refine pure_ (i := 4) (N := some 39) (v := ?_) (a' := ?_) #[true, true, true, true, true, false, false, false, false, false, false, false, false, false, false, false] rfl rfl zz (fun _ _ _ h => h) (Or.inl ⟨by rfl, ?_⟩) ?_ ?_
   rotate_left
   ·intro w'
    go_simp
    with_reducible rfl
   rotate_left
   ·simp only [Act.put, xA, xB, xC, i64_w, i32_w]
    rfl
   refine pure_ (i := 5) (N := some 40) (v := ?_) (a' := ?_) #[true, true, true, true, true, true, false, false, false, false, false, false, false, false, false, false] rfl rfl zz (fun _ _ _ h => h) (Or.inl ⟨by rfl, ?_⟩) ?_ ?_
   rotate_left
   ·intro w'
    go_simp
    with_reducible rfl
   rotate_left
   ·simp only [Act.put, xA, xB, xC, i64_w, i32_w]
    rfl
   refine pure_ (i := 6) (N := some 41) (v := ?_) (a' := ?_) #[true, true, true, true, true, true, true, false, false, false, false, false, false, false, false, false] rfl rfl zz (fun _ _ _ h => h) (Or.inl ⟨by rfl, ?_⟩) ?_ ?_
   rotate_left
   ·intro w'
    go_simp
    with_reducible rfl
   rotate_left
   ·simp only [Act.put, xA, xB, xC, i64_w, i32_w]
    rfl
   refine pure_ (i := 7) (N := some 42) (v := ?_) (a' := ?_) #[true, true, true, true, true, true, true, true, false, false, false, false, false, false, false, false] rfl rfl zz (fun _ _ _ h => h) (Or.inl ⟨by rfl, ?_⟩) ?_ ?_
   rotate_left
   ·intro w'
    go_simp
    with_reducible rfl
   rotate_left
   ·simp only [Act.put, xA, xB, xC, i64_w, i32_w]
    rfl
   refine pure_ (i := 8) (N := some 43) (v := ?_) (a' := ?_) #[true, true, true, true, true, true, true, true, true, false, false, false, false, false, false, false] rfl rfl zz (fun _ _ _ h => h) (Or.inl ⟨by rfl, ?_⟩) ?_ ?_
   rotate_left
   ·intro w'
    go_simp
    with_reducible rfl
   rotate_left
   ·simp only [Act.put, xA, xB, xC, i64_w, i32_w]
    rfl
   refine take_ (i := 9) (N := some 44) (v := ?_) (a' := ?_) #[true, true, true, true, true, true, true, true, true, true, false, false, false, false, false, false] rfl rfl (take_ofW HT_.out HW_.out (by kernel_rfl)) (fun _ _ _ h => h) (Or.inl ⟨by rfl, ?_⟩) hHeld ?_ ?_
   rotate_left
   ·rintro w' ⟨s0, s1, s2, s3⟩
    go_simp
    with_reducible rfl
   rotate_left
   ·simp only [Act.put, xA, xB, xC, i64_w, i32_w]
    rfl
   refine take_ (i := 10) (N := some 45) (v := ?_) (a' := ?_) #[true, true, true, true, true, true, true, true, true, true, true, false, false, false, false, false] rfl rfl (take_ofW HT_.out HW_.out (by kernel_rfl)) (fun _ _ _ h => h) (Or.inl ⟨by rfl, ?_⟩) hHeld ?_ ?_
   rotate_left
   ·rintro w' ⟨s0, s1, s2, s3⟩
    go_simp
    with_reducible rfl
   rotate_left
   ·simp only [Act.put, xA, xB, xC, i64_w, i32_w]
    rfl
   refine one_ (i := 11) (N := some 46) #[true, true, true, true, true, true, true, true, true, true, true, true, false, false, false, false] rfl rfl (one_of HT_.out (by kernel_rfl)) (by decide) (fun K hK => ?_)
   first | refine goesV_ Try.func142 (by kernel_rfl) rfl #[.agg #[.int .i64 ((rd_T59 l0 x9_1).f0), .int .i64 ((rd_T59 l0 x9_1).f1)], .agg #[.int .i64 a1_0, .int .i64 a1_1]] (by rfl) rfl _ rfl rfl zm ?_ | refine goes_ Try.func142 (by kernel_rfl) rfl #[.agg #[.int .i64 ((rd_T59 l0 x9_1).f0), .int .i64 ((rd_T59 l0 x9_1).f1)], .agg #[.int .i64 a1_0, .int .i64 a1_1]] (by rfl) rfl rfl zm ?_
   with_reducible refine (impl_compareCells.calls ((rd_T59 l0 x9_1).f0) ((rd_T59 l0 x9_1).f1) a1_0 a1_1 t1235 _ A18.out).mono ?_
   rintro e w20 ⟨rfl, hb⟩
   refine ⟨_, rfl, ?_⟩
   have n0_ := aM (blk_below (g := gb1231) (o := .cells #[.int .i64 a1_0, .int .i64 a1_1] 59 (0, 0)) (mB_ BK1231.out) hb)
   have n1_ := aM (below_step (zs GE1231.out) hb)
   clear BK1231
   clear HB
   have BK1231 := n0_
   have HB := n1_
   clear n0_ n1_
   (try clear hb)
   (try clear hb2)
   (try clear hk)
   (try clear hi)
   refine hK.out _ _ ⟨(blk_cell BK1231.out 0).trans rfl, (blk_cell BK1231.out 1).trans rfl, ((HB.out.cell (World.block_lt_of_cell? w _ hw1234_0)).trans hw1234_0), ((HB.out.cell (World.block_lt_of_cell? w _ hw1234_1)).trans hw1234_1)⟩ (fun hHeld => ?_)
   clear hK K
   refine norm_ (a' := ?_) ?_ ?_
   rotate_left
   ·show Act.put _ (some 46) _ = _
    simp only [Act.put, xA, xB, xC, i64_w, i32_w]
    rfl
   refine pure_ (i := 12) (N := some 47) (v := ?_) (a' := ?_) #[true, true, true, true, true, true, true, true, true, true, true, true, true, false, false, false] rfl rfl zz (fun _ _ _ h => h) (Or.inl ⟨by rfl, ?_⟩) ?_ ?_
   rotate_left
   ·intro w'
    go_simp
    with_reducible rfl
   rotate_left
   ·simp only [Act.put, xA, xB, xC, i64_w, i32_w]
    rfl
   refine pure_ (i := 13) (N := some 48) (v := ?_) (a' := ?_) #[true, true, true, true, true, true, true, true, true, true, true, true, true, true, false, false] rfl rfl zz (fun _ _ _ h => h) (Or.inl ⟨by rfl, ?_⟩) ?_ ?_
   rotate_left
   ·intro w'
    go_simp
    with_reducible rfl
   rotate_left
   ·simp only [Act.put, xA, xB, xC, i64_w, i32_w]
    rfl
   refine pure_ (i := 14) (N := some 6) (v := ?_) (a' := ?_) #[true, true, true, true, true, true, true, true, true, true, true, true, true, true, true, false] rfl rfl zz (fun _ _ _ h => h) (Or.inl ⟨by rfl, ?_⟩) ?_ ?_
   rotate_left
   ·intro w'
    go_simp
    with_reducible rfl
   rotate_left
   ·simp only [Act.put, xA, xB, xC, i64_w, i32_w]
    rfl
   refine pure_ (i := 15) (N := some 7) (v := ?_) (a' := ?_) #[true, true, true, true, true, true, true, true, true, true, true, true, true, true, true, true] rfl rfl zz (fun _ _ _ h => h) (Or.inl ⟨by rfl, ?_⟩) ?_ ?_
   rotate_left
   ·intro w'
    go_simp
    with_reducible rfl
   rotate_left
   ·simp only [Act.put, xA, xB, xC, i64_w, i32_w]
    rfl
   refine done_ (done_of HT_.out (by kernel_rfl)) ?_
   try go_wp2
   go_ret2
   exact ⟨zw, zs GE1231.out⟩
def impl_cellsToSet.l0 : Nat → List (S59) → List Int → List (S59) → Int → Int → Option (List Int × Bool)
 | 0, _, _, _, _, _ => none
 | k + 1, x0, x6, x12, x13, x14 => if x14 < x13 then (if 0 ≤ x14 then (if x14 < (x12.length : Int) then ((impl_Cell_154__impl_compareCells.f k x0 ((rd_T59 x12 x14).f0) ((rd_T59 x12 x14).f1)).bind fun bt1241 => (if bt1241.2 = true then (if x6.length < 17592186044416 then (impl_cellsToSet.l0 k x0 (x6 ++ [bt1241.1]) x12 x13 (wrap64 (x14 + 1))) else (none)) else (some (([] : List Int), false)))) else (none)) else (none)) else (some (x6, true))
def impl_cellsToSet.f (k : Nat) (l0 : List (S59)) (l1 : List (S59)) : Option (List Int × Bool) := impl_cellsToSet.l0 k l0 (([] : List Int)) l1 (l1.length : Int) 0
theorem impl_cellsToSet.calls (k : Nat) (A0 : Option Addr) (c0 : Nat) (l0 : List (S59)) (A1 : Option Addr) (c1 : Nat) (l1 : List (S59)) (r1 : List Int) (r2 : Bool) (w : World) (hr0 : Kd.C k59 w A0 l0.length l0) (hc0 : l0.length ≤ c0) (hr1 : Kd.C k59 w A1 l1.length l1) (hc1 : l1.length ≤ c1) (h : impl_cellsToSet.f k l0 l1 = some (r1, r2)) :
  Calls Try.prog 121 #[.slice A0 l0.length c0, .slice A1 l1.length c1] w fun e w' => ∃ v0_ : Value, e = .returned (.tuple #[v0_, .bool r2]) ∧ Kd.R (Kd.int .i64) 2 w' w.heap.size (fun _ => True) v0_ r1 ∧ Below w.heap.size w w' := by
 have hu59 := Try.underlying59
 have HR0 := aM hr0
 have HC0 := aM hc0
 clear hr0 hc0
 have HR1 := aM hr1
 have HC1 := aM hc1
 clear hr1 hc1
 have HB := aM (Below.refl w.heap.size w)
 have H : (impl_cellsToSet.l0 k l0 (([] : List Int)) l1 (l1.length : Int) 0) = some (r1, r2) := h
 clear h
 obtain ⟨y1236, hy1236⟩ : ∃ y_ : List Int, y_ = (([] : List Int)) := ⟨_, rfl⟩
 replace H : (impl_cellsToSet.l0 k l0 y1236 l1 (l1.length : Int) 0) = some (r1, r2) := zy H hy1236
 have Ny1236 := aM hy1236
 clear hy1236
 have H' := aM H
 clear H
 go_enter Try.func121, Try.ntmps121
 go_wp2_with (first | ((with_reducible refine gate_dst (N := 11) rfl ?_); refine Kd.R_lit (Kd.int .i64) _ 2 ?hg (N := 11) ?hd (xs := ([] : List Int)) (inner := []) (ok := fun _ => True) (okp := fun _ => True) ?hr ?hp (fun _ hk => hk) trivial (Below.refl _ _) (Nat.le_refl _) (by simp) ?_; (case hd => rfl); (case hg => rfl); (case hr => first | (go_simp; done) | (go_simp; rfl)); (case hp => exact (Reps.none _ _)); intro v1237 w3 ho4 hb hg_ hnew_; clear hg_ hnew_; (first | rw [← Ny1236.out] at ho4 | (simp only [Int.reduceToNat] at ho4; rw [← Ny1236.out] at ho4)); have n0_ := aM (Kd.R_lower ho4 (below_size zb)); have n1_ := aM (below_step zb hb); clear HB; have HO1238 := n0_; have HB := n1_; clear n0_ n1_; clear hb ho4))
 go_loopg [6, 14] k (fun kq v6 v14 w' => ∃ (x6_1 : List Int) (x14_1 : Int), v14 = .int .i64 x14_1 ∧ Aside0 (impl_cellsToSet.l0 kq l0 x6_1 l1 (l1.length : Int) x14_1 = some (r1, r2)) ∧ Aside0 (kq ≤ k) ∧ Aside0 (Kd.R (Kd.int .i64) 2 w' w.heap.size (fun _ => True) v6 x6_1) ∧ Aside0 (Below w.heap.size w w'))
 case atStart => exact ⟨(y1236), (0), zr, H', ⟨Nat.le_refl _⟩, ⟨mR_ HO1238.out⟩, ⟨zb⟩⟩
 case round =>
  clear H'
  try clear c1
  try clear p2
  obtain ⟨x6_1, x14_1, rfl, HA, HK1, HO_6, HB⟩ := hrel
  cases gk with
  | zero => exact absurd HA.out (by simp [impl_cellsToSet.l0])
  | succ k1 =>
   have H := HA.out
   clear HA
   simp only [impl_cellsToSet.l0] at H
   by_cases c5 : x14_1 < (l1.length : Int)
   rotate_left
   ·rw [if_neg c5] at H
    have c5b0 : decide (x14_1 < (l1.length : Int)) = false := decide_eq_false c5
    clear c5
    simp only [Option.some.injEq, Prod.mk.injEq] at H
    obtain ⟨rfl, rfl⟩ := H
    go_wp2
    go_ret2
    exact ⟨_, zw, mR_ HO_6.out, zb⟩
   rw [if_pos c5] at H
   have c5b0 : decide (x14_1 < (l1.length : Int)) = true := decide_eq_true c5
   clear c5
   by_cases c6 : 0 ≤ x14_1
   rotate_left
   ·rw [if_neg c6] at H
    exact absurd H (by simp)
   rw [if_pos c6] at H
   have c6b0 : decide (0 ≤ x14_1) = true := decide_eq_true c6
   clear c6
   by_cases c7 : x14_1 < (l1.length : Int)
   rotate_left
   ·rw [if_neg c7] at H
    exact absurd H (by simp)
   rw [if_pos c7] at H
   have c7b0 : decide (x14_1 < (l1.length : Int)) = true := decide_eq_true c7
   clear c7
   replace H := Option.bind_eq_some_iff.mp H
   obtain ⟨⟨t1241, t1242⟩, A80, H⟩ := H
   replace H : (if t1242 = true then (if x6_1.length < 17592186044416 then (impl_cellsToSet.l0 k1 l0 (x6_1 ++ [t1241]) l1 (l1.length : Int) (wrap64 (x14_1 + 1))) else (none)) else (some (([] : List Int), false))) = some (r1, r2) := H
   have A8 := aM A80
   clear A80
   by_cases c9 : t1242 = true
   rotate_left
   ·replace c9 := Bool.eq_false_iff.mpr c9
    subst c9
    have H1 : (some (([] : List Int), false)) = some (r1, r2) := by rw [if_neg (show ¬ (false = true) by decide)] at H; exact H
    clear H
    have H := H1
    clear H1
    simp only [Option.some.injEq, Prod.mk.injEq] at H
    obtain ⟨rfl, rfl⟩ := H
    have p1239 : 0 ≤ (x14_1 : Int) := of_decide_eq_true za
    have q1239 : x14_1 < (l1.length : Int) := of_decide_eq_true za
    obtain ⟨ad1239, e1239, hx1239_0, hx1239_1⟩ := at_T59 HR1.out x14_1 p1239 q1239
    cases e1239
    replace hx1239_0 := (HB.out.cell (World.block_lt_of_cell? w _ hx1239_0)).trans hx1239_0
    replace hx1239_1 := (HB.out.cell (World.block_lt_of_cell? w _ hx1239_1)).trans hx1239_1
    replace p1239 := eq_true p1239
    replace q1239 := eq_true q1239
    go_wp2_with (first | ((with_reducible refine gate_dst (N := 8) rfl ?_); refine box_event ?hg (N := 8) ?hd (cs := #[.int .i64 0, .int .i64 0]) (t := 59) ?hr ?_; (case hd => rfl); (case hg => rfl); (case hr => first | (go_simp; done) | (go_simp; rfl)); intro gb1240 hg w15 hbox hb; have n0_ := aM (Kd.R_below (mR_ HO_6.out) hb); have n1_ := aM (below_step zb hb); have n2_ := aM (hbox); have n3_ := aM ((ze : w.heap.size ≤ gb1240)); have n4_ := aM ((ze : w.heap.size ≤ gb1240)); clear HO_6; clear HB; have HO_6 := n0_; have HB := n1_; have BK1240 := n2_; have GW1240 := n3_; have GE1240 := n4_; clear n0_ n1_ n2_ n3_ n4_; clear hb hbox hg; have hcz16_0 : w15.cell? ⟨gb1240, 0, none⟩ = some (.int .i64 0) := (blk_cell BK1240.out 0).trans rfl; have hcz16_1 : w15.cell? ⟨gb1240, 1, none⟩ = some (.int .i64 0) := (blk_cell BK1240.out 1).trans rfl; have hfz16_0 := blk_frozen BK1240.out 0; have hfz16_1 := blk_frozen BK1240.out 1) | ((with_reducible refine gate_callee (f := 154) rfl ?_); refine goesL_ (some 21) rfl rfl Try.func154 (by kernel_rfl) rfl #[.slice A0 l0.length c0, .agg #[.int .i64 ((rd_T59 l1 x14_1).f0), .int .i64 ((rd_T59 l1 x14_1).f1)], .func (.func 142) #[] #[]] rfl zm ?_; (with_reducible refine (impl_Cell_154__impl_compareCells.calls k1 _ _ l0 ((rd_T59 l1 x14_1).f0) ((rd_T59 l1 x14_1).f1)  t1241 false _ ?side1 ?side2 A8.out).mono ?_); (case side1 => exact Kd.C_below HR0.out (zs GE1240.out)); (case side2 => exact HC0.out); rintro e w17 ⟨rfl, hb⟩; refine ⟨_, rfl, ?_⟩; have n0_ := aM (Kd.R_below (by (with_reducible repeat (first | apply Kd.R_alloc | apply Kd.R_drewN | apply Kd.R_drew)); exact (Kd.R_mono (Kd.R_far (p := ⟨gb1240, 1, none⟩) (Kd.R_far (p := ⟨gb1240, 0, none⟩) (Kd.R_types HO_6.out BK1240.out (by decide)) (fun _ hk => hk.2) (.int .i64 ((rd_T59 l1 x14_1).f0))) (fun _ hk => hk.2) (.int .i64 ((rd_T59 l1 x14_1).f1))) (fun _ h_ => h_.1))) hb); have n1_ := aM (blk_below (g := gb1240) (o := .cells #[.int .i64 ((rd_T59 l1 x14_1).f0), .int .i64 ((rd_T59 l1 x14_1).f1)] 59 (0, 0)) (by (with_reducible repeat (first | refine blk_drewN ?_ _ | refine blk_drew ?_ | refine blk_alloc ?_ _)); refine blk_put (cs := #[.int .i64 ((rd_T59 l1 x14_1).f0), .int .i64 0]) ?_ 1 _ rfl; (with_reducible repeat (first | refine blk_drewN ?_ _ | refine blk_drew ?_ | refine blk_alloc ?_ _)); refine blk_put (cs := #[.int .i64 0, .int .i64 0]) ?_ 0 _ rfl; (with_reducible repeat (first | refine blk_drewN ?_ _ | refine blk_drew ?_ | refine blk_alloc ?_ _)); exact BK1240.out) hb); have n2_ := aM (below_step (zs GE1240.out) hb); clear HO_6; clear BK1240; clear HB; have HO_6 := n0_; have BK1240 := n1_; have HB := n2_; clear n0_ n1_ n2_; (try clear hb); (try clear hb2); (try clear hk); (try clear hi)))
    go_ret2
    exact ⟨_, zw, by first | exact Kd.R_nil _ _ _ _ _ | exact Kd.N_nil _ _ _ _ _ | exact Kd.V_nil _ _ _ _ _ | exact Kd.Q_nil _ _ _ _ _ | exact Kd.S_nil _ _ _ _ _, zs GE1240.out⟩
   subst c9
   have H1 : (if x6_1.length < 17592186044416 then (impl_cellsToSet.l0 k1 l0 (x6_1 ++ [t1241]) l1 (l1.length : Int) (wrap64 (x14_1 + 1))) else (none)) = some (r1, r2) := by rw [if_pos rfl] at H; exact H
   clear H
   have H := H1
   clear H1
   by_cases c10 : x6_1.length < 17592186044416
   rotate_left
   ·rw [if_neg c10] at H
    exact absurd H (by simp)
   rw [if_pos c10] at H
   have LMc10 := aM c10
   clear c10
   obtain ⟨y1243, hy1243⟩ : ∃ y_ : List Int, y_ = (x6_1 ++ [t1241]) := ⟨_, rfl⟩
   replace H : (impl_cellsToSet.l0 k1 l0 y1243 l1 (l1.length : Int) (wrap64 (x14_1 + 1))) = some (r1, r2) := zy H hy1243
   have Ny1243 := aM hy1243
   clear hy1243
   have H' := aM H
   clear H
   have p1239 : 0 ≤ (x14_1 : Int) := of_decide_eq_true za
   have q1239 : x14_1 < (l1.length : Int) := of_decide_eq_true za
   obtain ⟨ad1239, e1239, hx1239_0, hx1239_1⟩ := at_T59 HR1.out x14_1 p1239 q1239
   cases e1239
   replace hx1239_0 := (HB.out.cell (World.block_lt_of_cell? w _ hx1239_0)).trans hx1239_0
   replace hx1239_1 := (HB.out.cell (World.block_lt_of_cell? w _ hx1239_1)).trans hx1239_1
   replace p1239 := eq_true p1239
   replace q1239 := eq_true q1239
   go_wp2_with (first | ((with_reducible refine gate_dst (N := 8) rfl ?_); refine box_event ?hg (N := 8) ?hd (cs := #[.int .i64 0, .int .i64 0]) (t := 59) ?hr ?_; (case hd => rfl); (case hg => rfl); (case hr => first | (go_simp; done) | (go_simp; rfl)); intro gb1240 hg w11 hbox hb; have n0_ := aM (Kd.R_below (mR_ HO_6.out) hb); have n1_ := aM (below_step zb hb); have n2_ := aM (hbox); have n3_ := aM ((ze : w.heap.size ≤ gb1240)); have n4_ := aM ((ze : w.heap.size ≤ gb1240)); clear HO_6; clear HB; have HO_6 := n0_; have HB := n1_; have BK1240 := n2_; have GW1240 := n3_; have GE1240 := n4_; clear n0_ n1_ n2_ n3_ n4_; clear hb hbox hg; have hcz12_0 : w11.cell? ⟨gb1240, 0, none⟩ = some (.int .i64 0) := (blk_cell BK1240.out 0).trans rfl; have hcz12_1 : w11.cell? ⟨gb1240, 1, none⟩ = some (.int .i64 0) := (blk_cell BK1240.out 1).trans rfl; have hfz12_0 := blk_frozen BK1240.out 0; have hfz12_1 := blk_frozen BK1240.out 1) | ((with_reducible refine gate_callee (f := 154) rfl ?_); refine goesL_ (some 21) rfl rfl Try.func154 (by kernel_rfl) rfl #[.slice A0 l0.length c0, .agg #[.int .i64 ((rd_T59 l1 x14_1).f0), .int .i64 ((rd_T59 l1 x14_1).f1)], .func (.func 142) #[] #[]] rfl zm ?_; (with_reducible refine (impl_Cell_154__impl_compareCells.calls k1 _ _ l0 ((rd_T59 l1 x14_1).f0) ((rd_T59 l1 x14_1).f1)  t1241 true _ ?side1 ?side2 A8.out).mono ?_); (case side1 => exact Kd.C_below HR0.out (zs GE1240.out)); (case side2 => exact HC0.out); rintro e w13 ⟨rfl, hb⟩; refine ⟨_, rfl, ?_⟩; have n0_ := aM (Kd.R_below (by (with_reducible repeat (first | apply Kd.R_alloc | apply Kd.R_drewN | apply Kd.R_drew)); exact (Kd.R_mono (Kd.R_far (p := ⟨gb1240, 1, none⟩) (Kd.R_far (p := ⟨gb1240, 0, none⟩) (Kd.R_types HO_6.out BK1240.out (by decide)) (fun _ hk => hk.2) (.int .i64 ((rd_T59 l1 x14_1).f0))) (fun _ hk => hk.2) (.int .i64 ((rd_T59 l1 x14_1).f1))) (fun _ h_ => h_.1))) hb); have n1_ := aM (blk_below (g := gb1240) (o := .cells #[.int .i64 ((rd_T59 l1 x14_1).f0), .int .i64 ((rd_T59 l1 x14_1).f1)] 59 (0, 0)) (by (with_reducible repeat (first | refine blk_drewN ?_ _ | refine blk_drew ?_ | refine blk_alloc ?_ _)); refine blk_put (cs := #[.int .i64 ((rd_T59 l1 x14_1).f0), .int .i64 0]) ?_ 1 _ rfl; (with_reducible repeat (first | refine blk_drewN ?_ _ | refine blk_drew ?_ | refine blk_alloc ?_ _)); refine blk_put (cs := #[.int .i64 0, .int .i64 0]) ?_ 0 _ rfl; (with_reducible repeat (first | refine blk_drewN ?_ _ | refine blk_drew ?_ | refine blk_alloc ?_ _)); exact BK1240.out) hb); have n2_ := aM (below_step (zs GE1240.out) hb); clear HO_6; clear BK1240; clear HB; have HO_6 := n0_; have BK1240 := n1_; have HB := n2_; clear n0_ n1_ n2_; (try clear hb); (try clear hb2); (try clear hk); (try clear hi)) | ((with_reducible refine gate_builtin (b := .append) (xs := #[.tmp 26, .tmp 28]) rfl ?_); at_builtin; refine Kd.R_append (Kd.int .i64) (w0 := w) w.heap.size rfl (.tmp 26) (.tmp 28) 22 2 (.int .i64 0) 8 rfl Try.underlying22 info2 rfl (by decide) (by omega) u6 x6_1 t1241 [.int .i64 t1241] (fun _ => True) (fun _ => False) rfl rfl ?aP (fun _ hk => hk.elim) ?aF ?aO ?aB ?aS ?aL ?_; (case aP => exact rfl); (case aB => exact (zs GE1240.out)); (case aF => exact (fun _ _ => trivial)); (case aO => exact (mR_ HO_6.out)); (case aS => exact (below_size (zs GE1240.out))); (case aL => have := LMc10.out; omega); intro v1244 w14 ho hb hg hat; rw [← Ny1243.out] at ho; have n0_ := aM (blk_grown (g := gb1240) (o := .cells #[.int .i64 ((rd_T59 l1 x14_1).f0), .int .i64 ((rd_T59 l1 x14_1).f1)] 59 (0, 0)) (mB_ BK1240.out) hg (Kd.R_ne HO_6.out BK1240.out (by decide))); have n1_ := aM (hb); have n2_ := aM (ho); clear BK1240; clear HB; clear HO_6; have BK1240 := n0_; have HB := n1_; have HO1245 := n2_; clear n0_ n1_ n2_; clear ho hb hg hat))
   go_roundg k1
   case measure => have := HK1.out; omega
   case rel => exact ⟨(y1243), (wrap64 (x14_1 + 1)), zr, H', ⟨by have := HK1.out; omega⟩, ⟨mR_ HO1245.out⟩, ⟨zs GE1240.out⟩⟩
def impl_CellsToSet.f (k : Nat) (l0 : List (S59)) (l1 : List (S59)) : Option (List Int × Int) := (impl_IsRegion.f k l0).bind fun t1246 => (if t1246 = true then ((impl_IsShape.f k l1).bind fun t1247 => (if t1247 = true then ((impl_cellsToSet.f k l0 l1).bind fun bt1248 => (if bt1248.2 = true then (some (bt1248.1, 0)) else (some (([] : List Int), 4)))) else (some (([] : List Int), 4)))) else (some (([] : List Int), 1)))
theorem impl_CellsToSet.calls (k : Nat) (A0 : Option Addr) (c0 : Nat) (l0 : List (S59)) (A1 : Option Addr) (c1 : Nat) (l1 : List (S59)) (r1 : List Int) (r2 : Int) (w : World) (hr0 : Kd.C k59 w A0 l0.length l0) (hc0 : l0.length ≤ c0) (hr1 : Kd.C k59 w A1 l1.length l1) (hc1 : l1.length ≤ c1) (h : impl_CellsToSet.f k l0 l1 = some (r1, r2)) :
  Calls Try.prog 58 #[.slice A0 l0.length c0, .slice A1 l1.length c1] w fun e w' => ∃ v0_ : Value, e = .returned (.tuple #[v0_, .int .i64 r2]) ∧ Kd.R (Kd.int .i64) 2 w' w.heap.size (fun _ => True) v0_ r1 ∧ Below w.heap.size w w' := by
 have HR0 := aM hr0
 have HC0 := aM hc0
 clear hr0 hc0
 have HR1 := aM hr1
 have HC1 := aM hc1
 clear hr1 hc1
 have HB := aM (Below.refl w.heap.size w)
 have H : ((impl_IsRegion.f k l0).bind fun t1246 => (if t1246 = true then ((impl_IsShape.f k l1).bind fun t1247 => (if t1247 = true then ((impl_cellsToSet.f k l0 l1).bind fun bt1248 => (if bt1248.2 = true then (some (bt1248.1, 0)) else (some (([] : List Int), 4)))) else (some (([] : List Int), 4)))) else (some (([] : List Int), 1)))) = some (r1, r2) := h
 clear h
 replace H := Option.bind_eq_some_iff.mp H
 obtain ⟨t1246, A30, H⟩ := H
 replace H : (if t1246 = true then ((impl_IsShape.f k l1).bind fun t1247 => (if t1247 = true then ((impl_cellsToSet.f k l0 l1).bind fun bt1248 => (if bt1248.2 = true then (some (bt1248.1, 0)) else (some (([] : List Int), 4)))) else (some (([] : List Int), 4)))) else (some (([] : List Int), 1))) = some (r1, r2) := H
 have A3 := aM A30
 clear A30
 by_cases c4 : t1246 = true
 rotate_left
 ·replace c4 := Bool.eq_false_iff.mpr c4
  subst c4
  have H1 : (some (([] : List Int), 1)) = some (r1, r2) := by rw [if_neg (show ¬ (false = true) by decide)] at H; exact H
  clear H
  have H := H1
  clear H1
  simp only [Option.some.injEq, Prod.mk.injEq] at H
  obtain ⟨rfl, rfl⟩ := H
  go_enter Try.func58, Try.ntmps58
  go_wp2_with (first | ((with_reducible refine gate_callee (f := 62) rfl ?_); refine goesL_ (some 9) rfl rfl Try.func62 (by kernel_rfl) rfl #[.slice A0 l0.length c0] rfl zm ?_; (with_reducible refine (impl_IsRegion.calls k _ _ l0 false _ ?side1 ?side2 A3.out).mono ?_); (case side1 => repeat (first | exact HR0.out | (with_reducible refine Kd.C_alloc ?_ _) | (with_reducible refine Kd.C_drewN ?_ _) | (with_reducible refine Kd.C_drew ?_))); (case side2 => exact HC0.out); rintro e w17 ⟨rfl, hb⟩; refine ⟨_, rfl, ?_⟩; have n0_ := aM (below_step zb hb); clear HB; have HB := n0_; clear n0_; (try clear hb); (try clear hb2); (try clear hk); (try clear hi)))
  go_ret2
  exact ⟨_, zw, by first | exact Kd.R_nil _ _ _ _ _ | exact Kd.N_nil _ _ _ _ _ | exact Kd.V_nil _ _ _ _ _ | exact Kd.Q_nil _ _ _ _ _ | exact Kd.S_nil _ _ _ _ _, zb⟩
 subst c4
 have H1 : ((impl_IsShape.f k l1).bind fun t1247 => (if t1247 = true then ((impl_cellsToSet.f k l0 l1).bind fun bt1248 => (if bt1248.2 = true then (some (bt1248.1, 0)) else (some (([] : List Int), 4)))) else (some (([] : List Int), 4)))) = some (r1, r2) := by rw [if_pos rfl] at H; exact H
 clear H
 have H := H1
 clear H1
 replace H := Option.bind_eq_some_iff.mp H
 obtain ⟨t1247, A50, H⟩ := H
 replace H : (if t1247 = true then ((impl_cellsToSet.f k l0 l1).bind fun bt1248 => (if bt1248.2 = true then (some (bt1248.1, 0)) else (some (([] : List Int), 4)))) else (some (([] : List Int), 4))) = some (r1, r2) := H
 have A5 := aM A50
 clear A50
 by_cases c6 : t1247 = true
 rotate_left
 ·replace c6 := Bool.eq_false_iff.mpr c6
  subst c6
  have H1 : (some (([] : List Int), 4)) = some (r1, r2) := by rw [if_neg (show ¬ (false = true) by decide)] at H; exact H
  clear H
  have H := H1
  clear H1
  simp only [Option.some.injEq, Prod.mk.injEq] at H
  obtain ⟨rfl, rfl⟩ := H
  go_enter Try.func58, Try.ntmps58
  go_wp2_with (first | ((with_reducible refine gate_callee (f := 62) rfl ?_); refine goesL_ (some 9) rfl rfl Try.func62 (by kernel_rfl) rfl #[.slice A0 l0.length c0] rfl zm ?_; (with_reducible refine (impl_IsRegion.calls k _ _ l0 true _ ?side1 ?side2 A3.out).mono ?_); (case side1 => repeat (first | exact HR0.out | (with_reducible refine Kd.C_alloc ?_ _) | (with_reducible refine Kd.C_drewN ?_ _) | (with_reducible refine Kd.C_drew ?_))); (case side2 => exact HC0.out); rintro e w15 ⟨rfl, hb⟩; refine ⟨_, rfl, ?_⟩; have n0_ := aM (below_step zb hb); clear HB; have HB := n0_; clear n0_; (try clear hb); (try clear hb2); (try clear hk); (try clear hi)) | ((with_reducible refine gate_callee (f := 90) rfl ?_); refine goesL_ (some 12) rfl rfl Try.func90 (by kernel_rfl) rfl #[.slice A1 l1.length c1] rfl zm ?_; (with_reducible refine (impl_IsShape.calls k _ _ l1 false _ ?side1 ?side2 A5.out).mono ?_); (case side1 => repeat (first | exact (Kd.C_below HR1.out HB.out) | (with_reducible refine Kd.C_alloc ?_ _) | (with_reducible refine Kd.C_drewN ?_ _) | (with_reducible refine Kd.C_drew ?_))); (case side2 => exact HC1.out); rintro e w16 ⟨rfl, hb⟩; refine ⟨_, rfl, ?_⟩; have n0_ := aM (below_step zb hb); clear HB; have HB := n0_; clear n0_; (try clear hb); (try clear hb2); (try clear hk); (try clear hi)))
  go_ret2
  exact ⟨_, zw, by first | exact Kd.R_nil _ _ _ _ _ | exact Kd.N_nil _ _ _ _ _ | exact Kd.V_nil _ _ _ _ _ | exact Kd.Q_nil _ _ _ _ _ | exact Kd.S_nil _ _ _ _ _, zb⟩
 subst c6
 have H1 : ((impl_cellsToSet.f k l0 l1).bind fun bt1248 => (if bt1248.2 = true then (some (bt1248.1, 0)) else (some (([] : List Int), 4)))) = some (r1, r2) := by rw [if_pos rfl] at H; exact H
 clear H
 have H := H1
 clear H1
 replace H := Option.bind_eq_some_iff.mp H
 obtain ⟨⟨t1248, t1249⟩, A70, H⟩ := H
 replace H : (if t1249 = true then (some (t1248, 0)) else (some (([] : List Int), 4))) = some (r1, r2) := H
 have A7 := aM A70
 clear A70
 by_cases c8 : t1249 = true
 ·subst c8
  have H1 : (some (t1248, 0)) = some (r1, r2) := by rw [if_pos rfl] at H; exact H
  clear H
  have H := H1
  clear H1
  simp only [Option.some.injEq, Prod.mk.injEq] at H
  obtain ⟨rfl, rfl⟩ := H
  go_enter Try.func58, Try.ntmps58
  go_wp2_with (first | ((with_reducible refine gate_callee (f := 62) rfl ?_); refine goesL_ (some 9) rfl rfl Try.func62 (by kernel_rfl) rfl #[.slice A0 l0.length c0] rfl zm ?_; (with_reducible refine (impl_IsRegion.calls k _ _ l0 true _ ?side1 ?side2 A3.out).mono ?_); (case side1 => repeat (first | exact HR0.out | (with_reducible refine Kd.C_alloc ?_ _) | (with_reducible refine Kd.C_drewN ?_ _) | (with_reducible refine Kd.C_drew ?_))); (case side2 => exact HC0.out); rintro e w9 ⟨rfl, hb⟩; refine ⟨_, rfl, ?_⟩; have n0_ := aM (below_step zb hb); clear HB; have HB := n0_; clear n0_; (try clear hb); (try clear hb2); (try clear hk); (try clear hi)) | ((with_reducible refine gate_callee (f := 90) rfl ?_); refine goesL_ (some 12) rfl rfl Try.func90 (by kernel_rfl) rfl #[.slice A1 l1.length c1] rfl zm ?_; (with_reducible refine (impl_IsShape.calls k _ _ l1 true _ ?side1 ?side2 A5.out).mono ?_); (case side1 => repeat (first | exact (Kd.C_below HR1.out HB.out) | (with_reducible refine Kd.C_alloc ?_ _) | (with_reducible refine Kd.C_drewN ?_ _) | (with_reducible refine Kd.C_drew ?_))); (case side2 => exact HC1.out); rintro e w10 ⟨rfl, hb⟩; refine ⟨_, rfl, ?_⟩; have n0_ := aM (below_step zb hb); clear HB; have HB := n0_; clear n0_; (try clear hb); (try clear hb2); (try clear hk); (try clear hi)) | ((with_reducible refine gate_callee (f := 121) rfl ?_); refine goesL_ (some 17) rfl rfl Try.func121 (by kernel_rfl) rfl #[.slice A0 l0.length c0, .slice A1 l1.length c1] rfl zm ?_; (with_reducible refine (impl_cellsToSet.calls k _ _ l0 _ _ l1 t1248 true _ ?side1 ?side2 ?side3 ?side4 A7.out).mono ?_); (case side1 => repeat (first | exact (Kd.C_below HR0.out HB.out) | (with_reducible refine Kd.C_alloc ?_ _) | (with_reducible refine Kd.C_drewN ?_ _) | (with_reducible refine Kd.C_drew ?_))); (case side2 => exact HC0.out); (case side3 => repeat (first | exact (Kd.C_below HR1.out HB.out) | (with_reducible refine Kd.C_alloc ?_ _) | (with_reducible refine Kd.C_drewN ?_ _) | (with_reducible refine Kd.C_drew ?_))); (case side4 => exact HC1.out); rintro e w11 ⟨v1250, rfl, ho0, hb⟩; refine ⟨_, rfl, ?_⟩; have n0_ := aM (Kd.R_lower ho0 (below_size zb)); have n1_ := aM (below_step zb hb); clear HB; have HO1251 := n0_; have HB := n1_; clear n0_ n1_; (try clear hb); (try clear hb2); (try clear hk); (try clear hi); (try clear ho0)))
  go_ret2
  exact ⟨_, zw, mR_ HO1251.out, zb⟩
 replace c8 := Bool.eq_false_iff.mpr c8
 subst c8
 have H1 : (some (([] : List Int), 4)) = some (r1, r2) := by rw [if_neg (show ¬ (false = true) by decide)] at H; exact H
 clear H
 have H := H1
 clear H1
 simp only [Option.some.injEq, Prod.mk.injEq] at H
 obtain ⟨rfl, rfl⟩ := H
 go_enter Try.func58, Try.ntmps58
 go_wp2_with (first | ((with_reducible refine gate_callee (f := 62) rfl ?_); refine goesL_ (some 9) rfl rfl Try.func62 (by kernel_rfl) rfl #[.slice A0 l0.length c0] rfl zm ?_; (with_reducible refine (impl_IsRegion.calls k _ _ l0 true _ ?side1 ?side2 A3.out).mono ?_); (case side1 => repeat (first | exact HR0.out | (with_reducible refine Kd.C_alloc ?_ _) | (with_reducible refine Kd.C_drewN ?_ _) | (with_reducible refine Kd.C_drew ?_))); (case side2 => exact HC0.out); rintro e w12 ⟨rfl, hb⟩; refine ⟨_, rfl, ?_⟩; have n0_ := aM (below_step zb hb); clear HB; have HB := n0_; clear n0_; (try clear hb); (try clear hb2); (try clear hk); (try clear hi)) | ((with_reducible refine gate_callee (f := 90) rfl ?_); refine goesL_ (some 12) rfl rfl Try.func90 (by kernel_rfl) rfl #[.slice A1 l1.length c1] rfl zm ?_; (with_reducible refine (impl_IsShape.calls k _ _ l1 true _ ?side1 ?side2 A5.out).mono ?_); (case side1 => repeat (first | exact (Kd.C_below HR1.out HB.out) | (with_reducible refine Kd.C_alloc ?_ _) | (with_reducible refine Kd.C_drewN ?_ _) | (with_reducible refine Kd.C_drew ?_))); (case side2 => exact HC1.out); rintro e w13 ⟨rfl, hb⟩; refine ⟨_, rfl, ?_⟩; have n0_ := aM (below_step zb hb); clear HB; have HB := n0_; clear n0_; (try clear hb); (try clear hb2); (try clear hk); (try clear hi)) | ((with_reducible refine gate_callee (f := 121) rfl ?_); refine goesL_ (some 17) rfl rfl Try.func121 (by kernel_rfl) rfl #[.slice A0 l0.length c0, .slice A1 l1.length c1] rfl zm ?_; (with_reducible refine (impl_cellsToSet.calls k _ _ l0 _ _ l1 t1248 false _ ?side1 ?side2 ?side3 ?side4 A7.out).mono ?_); (case side1 => repeat (first | exact (Kd.C_below HR0.out HB.out) | (with_reducible refine Kd.C_alloc ?_ _) | (with_reducible refine Kd.C_drewN ?_ _) | (with_reducible refine Kd.C_drew ?_))); (case side2 => exact HC0.out); (case side3 => repeat (first | exact (Kd.C_below HR1.out HB.out) | (with_reducible refine Kd.C_alloc ?_ _) | (with_reducible refine Kd.C_drewN ?_ _) | (with_reducible refine Kd.C_drew ?_))); (case side4 => exact HC1.out); rintro e w14 ⟨v1250, rfl, ho0, hb⟩; refine ⟨_, rfl, ?_⟩; have n0_ := aM (Kd.R_lower ho0 (below_size zb)); have n1_ := aM (below_step zb hb); clear HB; have HO1251 := n0_; have HB := n1_; clear n0_ n1_; (try clear hb); (try clear hb2); (try clear hk); (try clear hi); (try clear ho0)))
 go_ret2
 exact ⟨_, zw, by first | exact Kd.R_nil _ _ _ _ _ | exact Kd.N_nil _ _ _ _ _ | exact Kd.V_nil _ _ _ _ _ | exact Kd.Q_nil _ _ _ _ _ | exact Kd.S_nil _ _ _ _ _, zb⟩
def spec_l10Set.l0 : Nat → List (S59) → List (S59) → List Int → Int → Option (List Int × Bool)
 | 0, _, _, _, _ => none
 | k + 1, x0, x1, x6, x7 => if x7 < (x1.length : Int) then (if 0 ≤ x7 then ((spec_l02Index.f k x0 ((rd_T59 x1 x7).f0) ((rd_T59 x1 x7).f1)).bind fun t1256 => (if t1256 < 0 then (some (([] : List Int), false)) else (if x6.length < 17592186044416 then (spec_l10Set.l0 k x0 x1 (x6 ++ [t1256]) (wrap64 (x7 + 1))) else (none)))) else (none)) else (some (x6, true))
def spec_l10Set.f (k : Nat) (l0 : List (S59)) (l1 : List (S59)) : Option (List Int × Bool) := spec_l10Set.l0 k l0 l1 (([] : List Int)) 0
theorem spec_l10Set.calls (k : Nat) (A0 : Option Addr) (c0 : Nat) (l0 : List (S59)) (A1 : Option Addr) (c1 : Nat) (l1 : List (S59)) (r1 : List Int) (r2 : Bool) (w : World) (hr0 : Kd.C k59 w A0 l0.length l0) (hc0 : l0.length ≤ c0) (hr1 : Kd.C k59 w A1 l1.length l1) (hc1 : l1.length ≤ c1) (h : spec_l10Set.f k l0 l1 = some (r1, r2)) :
  Calls Try.prog 122 #[.slice A0 l0.length c0, .slice A1 l1.length c1] w fun e w' => ∃ v0_ : Value, e = .returned (.tuple #[v0_, .bool r2]) ∧ Kd.R (Kd.int .i64) 2 w' w.heap.size (fun _ => True) v0_ r1 ∧ Below w.heap.size w w' := by
 have hu59 := Try.underlying59
 have HR0 := aM hr0
 have HC0 := aM hc0
 clear hr0 hc0
 have HR1 := aM hr1
 have HC1 := aM hc1
 clear hr1 hc1
 have HB := aM (Below.refl w.heap.size w)
 have H : (spec_l10Set.l0 k l0 l1 (([] : List Int)) 0) = some (r1, r2) := h
 clear h
 obtain ⟨y1252, hy1252⟩ : ∃ y_ : List Int, y_ = (([] : List Int)) := ⟨_, rfl⟩
 replace H : (spec_l10Set.l0 k l0 l1 y1252 0) = some (r1, r2) := zy H hy1252
 have Ny1252 := aM hy1252
 clear hy1252
 have H' := aM H
 clear H
 go_enter Try.func122, Try.ntmps122
 go_wp2_with (first | ((with_reducible refine gate_dst (N := 9) rfl ?_); refine Kd.R_lit (Kd.int .i64) _ 2 ?hg (N := 9) ?hd (xs := ([] : List Int)) (inner := []) (ok := fun _ => True) (okp := fun _ => True) ?hr ?hp (fun _ hk => hk) trivial (Below.refl _ _) (Nat.le_refl _) (by simp) ?_; (case hd => rfl); (case hg => rfl); (case hr => first | (go_simp; done) | (go_simp; rfl)); (case hp => exact (Reps.none _ _)); intro v1253 w3 ho4 hb hg_ hnew_; clear hg_ hnew_; (first | rw [← Ny1252.out] at ho4 | (simp only [Int.reduceToNat] at ho4; rw [← Ny1252.out] at ho4)); have n0_ := aM (Kd.R_lower ho4 (below_size zb)); have n1_ := aM (below_step zb hb); clear HB; have HO1254 := n0_; have HB := n1_; clear n0_ n1_; clear hb ho4))
 go_loopg [6, 7] k (fun kq v6 v7 w' => ∃ (x6_1 : List Int) (x7_1 : Int), v7 = .int .i64 x7_1 ∧ Aside0 (spec_l10Set.l0 kq l0 l1 x6_1 x7_1 = some (r1, r2)) ∧ Aside0 (kq ≤ k) ∧ Aside0 (Kd.R (Kd.int .i64) 2 w' w.heap.size (fun _ => True) v6 x6_1) ∧ Aside0 (Below w.heap.size w w'))
 case atStart => exact ⟨(y1252), (0), zr, H', ⟨Nat.le_refl _⟩, ⟨mR_ HO1254.out⟩, ⟨zb⟩⟩
 case round =>
  clear H'
  try clear c1
  try clear p2
  obtain ⟨x6_1, x7_1, rfl, HA, HK1, HO_6, HB⟩ := hrel
  cases gk with
  | zero => exact absurd HA.out (by simp [spec_l10Set.l0])
  | succ k1 =>
   have H := HA.out
   clear HA
   simp only [spec_l10Set.l0] at H
   by_cases c5 : x7_1 < (l1.length : Int)
   rotate_left
   ·rw [if_neg c5] at H
    have c5b0 : decide (x7_1 < (l1.length : Int)) = false := decide_eq_false c5
    clear c5
    simp only [Option.some.injEq, Prod.mk.injEq] at H
    obtain ⟨rfl, rfl⟩ := H
    go_wp2
    go_ret2
    exact ⟨_, zw, mR_ HO_6.out, zb⟩
   rw [if_pos c5] at H
   have c5b0 : decide (x7_1 < (l1.length : Int)) = true := decide_eq_true c5
   clear c5
   by_cases c6 : 0 ≤ x7_1
   rotate_left
   ·rw [if_neg c6] at H
    exact absurd H (by simp)
   rw [if_pos c6] at H
   have c6b0 : decide (0 ≤ x7_1) = true := decide_eq_true c6
   clear c6
   replace H := Option.bind_eq_some_iff.mp H
   obtain ⟨t1256, A70, H⟩ := H
   replace H : (if t1256 < 0 then (some (([] : List Int), false)) else (if x6_1.length < 17592186044416 then (spec_l10Set.l0 k1 l0 l1 (x6_1 ++ [t1256]) (wrap64 (x7_1 + 1))) else (none))) = some (r1, r2) := H
   have A7 := aM A70
   clear A70
   by_cases c8 : t1256 < 0
   ·rw [if_pos c8] at H
    have c8b0 : decide (t1256 < 0) = true := decide_eq_true c8
    clear c8
    simp only [Option.some.injEq, Prod.mk.injEq] at H
    obtain ⟨rfl, rfl⟩ := H
    have p1255 : 0 ≤ (x7_1 : Int) := of_decide_eq_true za
    have q1255 : x7_1 < (l1.length : Int) := of_decide_eq_true za
    obtain ⟨ad1255, e1255, hx1255_0, hx1255_1⟩ := at_T59 HR1.out x7_1 p1255 q1255
    cases e1255
    replace hx1255_0 := (HB.out.cell (World.block_lt_of_cell? w _ hx1255_0)).trans hx1255_0
    replace hx1255_1 := (HB.out.cell (World.block_lt_of_cell? w _ hx1255_1)).trans hx1255_1
    replace p1255 := eq_true p1255
    replace q1255 := eq_true q1255
    go_wp2_with (first | ((with_reducible refine gate_callee (f := 88) rfl ?_); refine goesL_ (some 21) rfl rfl Try.func88 (by kernel_rfl) rfl #[.slice A0 l0.length c0, .agg #[.int .i64 ((rd_T59 l1 x7_1).f0), .int .i64 ((rd_T59 l1 x7_1).f1)]] rfl zm ?_; (with_reducible refine (spec_l02Index.calls k1 _ _ l0 ((rd_T59 l1 x7_1).f0) ((rd_T59 l1 x7_1).f1) t1256 _ ?side1 ?side2 A7.out).mono ?_); (case side1 => repeat (first | exact (Kd.C_below HR0.out HB.out) | (with_reducible refine Kd.C_alloc ?_ _) | (with_reducible refine Kd.C_drewN ?_ _) | (with_reducible refine Kd.C_drew ?_))); (case side2 => exact HC0.out); rintro e w9 ⟨rfl, hb⟩; refine ⟨_, rfl, ?_⟩; have n0_ := aM (Kd.R_below (mR_ HO_6.out) hb); have n1_ := aM (below_step zb hb); clear HO_6; clear HB; have HO_6 := n0_; have HB := n1_; clear n0_ n1_; (try clear hb); (try clear hb2); (try clear hk); (try clear hi)))
    go_ret2
    exact ⟨_, zw, by first | exact Kd.R_nil _ _ _ _ _ | exact Kd.N_nil _ _ _ _ _ | exact Kd.V_nil _ _ _ _ _ | exact Kd.Q_nil _ _ _ _ _ | exact Kd.S_nil _ _ _ _ _, zb⟩
   rw [if_neg c8] at H
   have c8b0 : decide (t1256 < 0) = false := decide_eq_false c8
   clear c8
   by_cases c10 : x6_1.length < 17592186044416
   rotate_left
   ·rw [if_neg c10] at H
    exact absurd H (by simp)
   rw [if_pos c10] at H
   have LMc10 := aM c10
   clear c10
   obtain ⟨y1257, hy1257⟩ : ∃ y_ : List Int, y_ = (x6_1 ++ [t1256]) := ⟨_, rfl⟩
   replace H : (spec_l10Set.l0 k1 l0 l1 y1257 (wrap64 (x7_1 + 1))) = some (r1, r2) := zy H hy1257
   have Ny1257 := aM hy1257
   clear hy1257
   have H' := aM H
   clear H
   have p1255 : 0 ≤ (x7_1 : Int) := of_decide_eq_true za
   have q1255 : x7_1 < (l1.length : Int) := of_decide_eq_true za
   obtain ⟨ad1255, e1255, hx1255_0, hx1255_1⟩ := at_T59 HR1.out x7_1 p1255 q1255
   cases e1255
   replace hx1255_0 := (HB.out.cell (World.block_lt_of_cell? w _ hx1255_0)).trans hx1255_0
   replace hx1255_1 := (HB.out.cell (World.block_lt_of_cell? w _ hx1255_1)).trans hx1255_1
   replace p1255 := eq_true p1255
   replace q1255 := eq_true q1255
   go_wp2_with (first | ((with_reducible refine gate_callee (f := 88) rfl ?_); refine goesL_ (some 21) rfl rfl Try.func88 (by kernel_rfl) rfl #[.slice A0 l0.length c0, .agg #[.int .i64 ((rd_T59 l1 x7_1).f0), .int .i64 ((rd_T59 l1 x7_1).f1)]] rfl zm ?_; (with_reducible refine (spec_l02Index.calls k1 _ _ l0 ((rd_T59 l1 x7_1).f0) ((rd_T59 l1 x7_1).f1) t1256 _ ?side1 ?side2 A7.out).mono ?_); (case side1 => repeat (first | exact (Kd.C_below HR0.out HB.out) | (with_reducible refine Kd.C_alloc ?_ _) | (with_reducible refine Kd.C_drewN ?_ _) | (with_reducible refine Kd.C_drew ?_))); (case side2 => exact HC0.out); rintro e w11 ⟨rfl, hb⟩; refine ⟨_, rfl, ?_⟩; have n0_ := aM (Kd.R_below (mR_ HO_6.out) hb); have n1_ := aM (below_step zb hb); clear HO_6; clear HB; have HO_6 := n0_; have HB := n1_; clear n0_ n1_; (try clear hb); (try clear hb2); (try clear hk); (try clear hi)) | ((with_reducible refine gate_builtin (b := .append) (xs := #[.tmp 24, .tmp 26]) rfl ?_); at_builtin; refine Kd.R_append (Kd.int .i64) (w0 := w) w.heap.size rfl (.tmp 24) (.tmp 26) 22 2 (.int .i64 0) 8 rfl Try.underlying22 info2 rfl (by decide) (by omega) u6 x6_1 t1256 [.int .i64 t1256] (fun _ => True) (fun _ => False) rfl rfl ?aP (fun _ hk => hk.elim) ?aF ?aO ?aB ?aS ?aL ?_; (case aP => exact rfl); (case aB => exact zb); (case aF => exact (fun _ _ => trivial)); (case aO => exact (mR_ HO_6.out)); (case aS => exact (below_size zb)); (case aL => have := LMc10.out; omega); intro v1258 w12 ho hb hg hat; rw [← Ny1257.out] at ho; have n0_ := aM (hb); have n1_ := aM (ho); clear HB; clear HO_6; have HB := n0_; have HO1259 := n1_; clear n0_ n1_; clear ho hb hg hat))
   go_roundg k1
   case measure => have := HK1.out; omega
   case rel => exact ⟨(y1257), (wrap64 (x7_1 + 1)), zr, H', ⟨by have := HK1.out; omega⟩, ⟨mR_ HO1259.out⟩, ⟨zb⟩⟩
def spec_CellsToSet.f (k : Nat) (l0 : List (S59)) (l1 : List (S59)) : Option (List Int × Int) := (spec_IsRegion.f k l0).bind fun t1260 => (if t1260 = true then ((spec_l10Set.f k l0 l1).bind fun bt1261 => (if bt1261.2 = true then ((spec_IsShape.f k l1).bind fun t1265 => (if t1265 = true then (some (bt1261.1, 0)) else (some (([] : List Int), 4)))) else (some (([] : List Int), 4)))) else (some (([] : List Int), 1)))
theorem spec_CellsToSet.calls (k : Nat) (A0 : Option Addr) (c0 : Nat) (l0 : List (S59)) (A1 : Option Addr) (c1 : Nat) (l1 : List (S59)) (r1 : List Int) (r2 : Int) (w : World) (hr0 : Kd.C k59 w A0 l0.length l0) (hc0 : l0.length ≤ c0) (hr1 : Kd.C k59 w A1 l1.length l1) (hc1 : l1.length ≤ c1) (h : spec_CellsToSet.f k l0 l1 = some (r1, r2)) :
  Calls Try.prog 59 #[.slice A0 l0.length c0, .slice A1 l1.length c1] w fun e w' => ∃ v0_ : Value, e = .returned (.tuple #[v0_, .int .i64 r2]) ∧ Kd.R (Kd.int .i64) 2 w' w.heap.size (fun _ => True) v0_ r1 ∧ Below w.heap.size w w' := by
 have HR0 := aM hr0
 have HC0 := aM hc0
 clear hr0 hc0
 have HR1 := aM hr1
 have HC1 := aM hc1
 clear hr1 hc1
 have HB := aM (Below.refl w.heap.size w)
 have H : ((spec_IsRegion.f k l0).bind fun t1260 => (if t1260 = true then ((spec_l10Set.f k l0 l1).bind fun bt1261 => (if bt1261.2 = true then ((spec_IsShape.f k l1).bind fun t1265 => (if t1265 = true then (some (bt1261.1, 0)) else (some (([] : List Int), 4)))) else (some (([] : List Int), 4)))) else (some (([] : List Int), 1)))) = some (r1, r2) := h
 clear h
 replace H := Option.bind_eq_some_iff.mp H
 obtain ⟨t1260, A30, H⟩ := H
 replace H : (if t1260 = true then ((spec_l10Set.f k l0 l1).bind fun bt1261 => (if bt1261.2 = true then ((spec_IsShape.f k l1).bind fun t1265 => (if t1265 = true then (some (bt1261.1, 0)) else (some (([] : List Int), 4)))) else (some (([] : List Int), 4)))) else (some (([] : List Int), 1))) = some (r1, r2) := H
 have A3 := aM A30
 clear A30
 by_cases c4 : t1260 = true
 rotate_left
 ·replace c4 := Bool.eq_false_iff.mpr c4
  subst c4
  have H1 : (some (([] : List Int), 1)) = some (r1, r2) := by rw [if_neg (show ¬ (false = true) by decide)] at H; exact H
  clear H
  have H := H1
  clear H1
  simp only [Option.some.injEq, Prod.mk.injEq] at H
  obtain ⟨rfl, rfl⟩ := H
  go_enter Try.func59, Try.ntmps59
  go_wp2_with (first | ((with_reducible refine gate_callee (f := 63) rfl ?_); refine goesL_ (some 9) rfl rfl Try.func63 (by kernel_rfl) rfl #[.slice A0 l0.length c0] rfl zm ?_; (with_reducible refine (spec_IsRegion.calls k _ _ l0 false _ ?side1 ?side2 A3.out).mono ?_); (case side1 => repeat (first | exact HR0.out | (with_reducible refine Kd.C_alloc ?_ _) | (with_reducible refine Kd.C_drewN ?_ _) | (with_reducible refine Kd.C_drew ?_))); (case side2 => exact HC0.out); rintro e w17 ⟨rfl, hb⟩; refine ⟨_, rfl, ?_⟩; have n0_ := aM (below_step zb hb); clear HB; have HB := n0_; clear n0_; (try clear hb); (try clear hb2); (try clear hk); (try clear hi)))
  go_ret2
  exact ⟨_, zw, by first | exact Kd.R_nil _ _ _ _ _ | exact Kd.N_nil _ _ _ _ _ | exact Kd.V_nil _ _ _ _ _ | exact Kd.Q_nil _ _ _ _ _ | exact Kd.S_nil _ _ _ _ _, zb⟩
 subst c4
 have H1 : ((spec_l10Set.f k l0 l1).bind fun bt1261 => (if bt1261.2 = true then ((spec_IsShape.f k l1).bind fun t1265 => (if t1265 = true then (some (bt1261.1, 0)) else (some (([] : List Int), 4)))) else (some (([] : List Int), 4)))) = some (r1, r2) := by rw [if_pos rfl] at H; exact H
 clear H
 have H := H1
 clear H1
 replace H := Option.bind_eq_some_iff.mp H
 obtain ⟨⟨t1261, t1262⟩, A50, H⟩ := H
 replace H : (if t1262 = true then ((spec_IsShape.f k l1).bind fun t1265 => (if t1265 = true then (some (t1261, 0)) else (some (([] : List Int), 4)))) else (some (([] : List Int), 4))) = some (r1, r2) := H
 have A5 := aM A50
 clear A50
 by_cases c6 : t1262 = true
 rotate_left
 ·replace c6 := Bool.eq_false_iff.mpr c6
  subst c6
  have H1 : (some (([] : List Int), 4)) = some (r1, r2) := by rw [if_neg (show ¬ (false = true) by decide)] at H; exact H
  clear H
  have H := H1
  clear H1
  simp only [Option.some.injEq, Prod.mk.injEq] at H
  obtain ⟨rfl, rfl⟩ := H
  go_enter Try.func59, Try.ntmps59
  go_wp2_with (first | ((with_reducible refine gate_callee (f := 63) rfl ?_); refine goesL_ (some 9) rfl rfl Try.func63 (by kernel_rfl) rfl #[.slice A0 l0.length c0] rfl zm ?_; (with_reducible refine (spec_IsRegion.calls k _ _ l0 true _ ?side1 ?side2 A3.out).mono ?_); (case side1 => repeat (first | exact HR0.out | (with_reducible refine Kd.C_alloc ?_ _) | (with_reducible refine Kd.C_drewN ?_ _) | (with_reducible refine Kd.C_drew ?_))); (case side2 => exact HC0.out); rintro e w15 ⟨rfl, hb⟩; refine ⟨_, rfl, ?_⟩; have n0_ := aM (below_step zb hb); clear HB; have HB := n0_; clear n0_; (try clear hb); (try clear hb2); (try clear hk); (try clear hi)) | ((with_reducible refine gate_callee (f := 122) rfl ?_); refine goesL_ (some 14) rfl rfl Try.func122 (by kernel_rfl) rfl #[.slice A0 l0.length c0, .slice A1 l1.length c1] rfl zm ?_; (with_reducible refine (spec_l10Set.calls k _ _ l0 _ _ l1 t1261 false _ ?side1 ?side2 ?side3 ?side4 A5.out).mono ?_); (case side1 => repeat (first | exact (Kd.C_below HR0.out HB.out) | (with_reducible refine Kd.C_alloc ?_ _) | (with_reducible refine Kd.C_drewN ?_ _) | (with_reducible refine Kd.C_drew ?_))); (case side2 => exact HC0.out); (case side3 => repeat (first | exact (Kd.C_below HR1.out HB.out) | (with_reducible refine Kd.C_alloc ?_ _) | (with_reducible refine Kd.C_drewN ?_ _) | (with_reducible refine Kd.C_drew ?_))); (case side4 => exact HC1.out); rintro e w16 ⟨v1263, rfl, ho0, hb⟩; refine ⟨_, rfl, ?_⟩; have n0_ := aM (Kd.R_lower ho0 (below_size zb)); have n1_ := aM (below_step zb hb); clear HB; have HO1264 := n0_; have HB := n1_; clear n0_ n1_; (try clear hb); (try clear hb2); (try clear hk); (try clear hi); (try clear ho0)))
  go_ret2
  exact ⟨_, zw, by first | exact Kd.R_nil _ _ _ _ _ | exact Kd.N_nil _ _ _ _ _ | exact Kd.V_nil _ _ _ _ _ | exact Kd.Q_nil _ _ _ _ _ | exact Kd.S_nil _ _ _ _ _, zb⟩
 subst c6
 have H1 : ((spec_IsShape.f k l1).bind fun t1265 => (if t1265 = true then (some (t1261, 0)) else (some (([] : List Int), 4)))) = some (r1, r2) := by rw [if_pos rfl] at H; exact H
 clear H
 have H := H1
 clear H1
 replace H := Option.bind_eq_some_iff.mp H
 obtain ⟨t1265, A70, H⟩ := H
 replace H : (if t1265 = true then (some (t1261, 0)) else (some (([] : List Int), 4))) = some (r1, r2) := H
 have A7 := aM A70
 clear A70
 by_cases c8 : t1265 = true
 ·subst c8
  have H1 : (some (t1261, 0)) = some (r1, r2) := by rw [if_pos rfl] at H; exact H
  clear H
  have H := H1
  clear H1
  simp only [Option.some.injEq, Prod.mk.injEq] at H
  obtain ⟨rfl, rfl⟩ := H
  go_enter Try.func59, Try.ntmps59
  go_wp2_with (first | ((with_reducible refine gate_callee (f := 63) rfl ?_); refine goesL_ (some 9) rfl rfl Try.func63 (by kernel_rfl) rfl #[.slice A0 l0.length c0] rfl zm ?_; (with_reducible refine (spec_IsRegion.calls k _ _ l0 true _ ?side1 ?side2 A3.out).mono ?_); (case side1 => repeat (first | exact HR0.out | (with_reducible refine Kd.C_alloc ?_ _) | (with_reducible refine Kd.C_drewN ?_ _) | (with_reducible refine Kd.C_drew ?_))); (case side2 => exact HC0.out); rintro e w9 ⟨rfl, hb⟩; refine ⟨_, rfl, ?_⟩; have n0_ := aM (below_step zb hb); clear HB; have HB := n0_; clear n0_; (try clear hb); (try clear hb2); (try clear hk); (try clear hi)) | ((with_reducible refine gate_callee (f := 122) rfl ?_); refine goesL_ (some 14) rfl rfl Try.func122 (by kernel_rfl) rfl #[.slice A0 l0.length c0, .slice A1 l1.length c1] rfl zm ?_; (with_reducible refine (spec_l10Set.calls k _ _ l0 _ _ l1 t1261 true _ ?side1 ?side2 ?side3 ?side4 A5.out).mono ?_); (case side1 => repeat (first | exact (Kd.C_below HR0.out HB.out) | (with_reducible refine Kd.C_alloc ?_ _) | (with_reducible refine Kd.C_drewN ?_ _) | (with_reducible refine Kd.C_drew ?_))); (case side2 => exact HC0.out); (case side3 => repeat (first | exact (Kd.C_below HR1.out HB.out) | (with_reducible refine Kd.C_alloc ?_ _) | (with_reducible refine Kd.C_drewN ?_ _) | (with_reducible refine Kd.C_drew ?_))); (case side4 => exact HC1.out); rintro e w10 ⟨v1263, rfl, ho0, hb⟩; refine ⟨_, rfl, ?_⟩; have n0_ := aM (Kd.R_lower ho0 (below_size zb)); have n1_ := aM (below_step zb hb); clear HB; have HO1264 := n0_; have HB := n1_; clear n0_ n1_; (try clear hb); (try clear hb2); (try clear hk); (try clear hi); (try clear ho0)) | (go_at_call 87; (with_reducible refine (spec_IsShape.calls k _ _ l1 true _ ?side1 ?side2 A7.out).mono ?_); (case side1 => repeat (first | exact (Kd.C_below HR1.out HB.out) | (with_reducible refine Kd.C_alloc ?_ _) | (with_reducible refine Kd.C_drewN ?_ _) | (with_reducible refine Kd.C_drew ?_))); (case side2 => exact HC1.out); rintro e w11 ⟨rfl, hb⟩; have n0_ := aM (Kd.R_below (mR_ HO1264.out) hb); have n1_ := aM (below_step zb hb); clear HO1264; clear HB; have HO1264 := n0_; have HB := n1_; clear n0_ n1_; (try clear hb); (try clear hb2); (try clear hk); (try clear hi)))
  go_ret2
  exact ⟨_, zw, mR_ HO1264.out, zb⟩
 replace c8 := Bool.eq_false_iff.mpr c8
 subst c8
 have H1 : (some (([] : List Int), 4)) = some (r1, r2) := by rw [if_neg (show ¬ (false = true) by decide)] at H; exact H
 clear H
 have H := H1
 clear H1
 simp only [Option.some.injEq, Prod.mk.injEq] at H
 obtain ⟨rfl, rfl⟩ := H
 go_enter Try.func59, Try.ntmps59
 go_wp2_with (first | ((with_reducible refine gate_callee (f := 63) rfl ?_); refine goesL_ (some 9) rfl rfl Try.func63 (by kernel_rfl) rfl #[.slice A0 l0.length c0] rfl zm ?_; (with_reducible refine (spec_IsRegion.calls k _ _ l0 true _ ?side1 ?side2 A3.out).mono ?_); (case side1 => repeat (first | exact HR0.out | (with_reducible refine Kd.C_alloc ?_ _) | (with_reducible refine Kd.C_drewN ?_ _) | (with_reducible refine Kd.C_drew ?_))); (case side2 => exact HC0.out); rintro e w12 ⟨rfl, hb⟩; refine ⟨_, rfl, ?_⟩; have n0_ := aM (below_step zb hb); clear HB; have HB := n0_; clear n0_; (try clear hb); (try clear hb2); (try clear hk); (try clear hi)) | ((with_reducible refine gate_callee (f := 122) rfl ?_); refine goesL_ (some 14) rfl rfl Try.func122 (by kernel_rfl) rfl #[.slice A0 l0.length c0, .slice A1 l1.length c1] rfl zm ?_; (with_reducible refine (spec_l10Set.calls k _ _ l0 _ _ l1 t1261 true _ ?side1 ?side2 ?side3 ?side4 A5.out).mono ?_); (case side1 => repeat (first | exact (Kd.C_below HR0.out HB.out) | (with_reducible refine Kd.C_alloc ?_ _) | (with_reducible refine Kd.C_drewN ?_ _) | (with_reducible refine Kd.C_drew ?_))); (case side2 => exact HC0.out); (case side3 => repeat (first | exact (Kd.C_below HR1.out HB.out) | (with_reducible refine Kd.C_alloc ?_ _) | (with_reducible refine Kd.C_drewN ?_ _) | (with_reducible refine Kd.C_drew ?_))); (case side4 => exact HC1.out); rintro e w13 ⟨v1263, rfl, ho0, hb⟩; refine ⟨_, rfl, ?_⟩; have n0_ := aM (Kd.R_lower ho0 (below_size zb)); have n1_ := aM (below_step zb hb); clear HB; have HO1264 := n0_; have HB := n1_; clear n0_ n1_; (try clear hb); (try clear hb2); (try clear hk); (try clear hi); (try clear ho0)) | (go_at_call 87; (with_reducible refine (spec_IsShape.calls k _ _ l1 false _ ?side1 ?side2 A7.out).mono ?_); (case side1 => repeat (first | exact (Kd.C_below HR1.out HB.out) | (with_reducible refine Kd.C_alloc ?_ _) | (with_reducible refine Kd.C_drewN ?_ _) | (with_reducible refine Kd.C_drew ?_))); (case side2 => exact HC1.out); rintro e w14 ⟨rfl, hb⟩; have n0_ := aM (Kd.R_below (mR_ HO1264.out) hb); have n1_ := aM (below_step zb hb); clear HO1264; clear HB; have HO1264 := n0_; have HB := n1_; clear n0_ n1_; (try clear hb); (try clear hb2); (try clear hk); (try clear hi)))
 go_ret2
 exact ⟨_, zw, by first | exact Kd.R_nil _ _ _ _ _ | exact Kd.N_nil _ _ _ _ _ | exact Kd.V_nil _ _ _ _ _ | exact Kd.Q_nil _ _ _ _ _ | exact Kd.S_nil _ _ _ _ _, zb⟩
def impl_setToCells.l0 : Nat → List (S59) → List (S59) → List Int → Int → Int → Option ((List (S59)))
 | 0, _, _, _, _, _ => none
 | k + 1, x0, x5, x9, x10, x11 => if x11 < x10 then (if 0 ≤ x11 then (if x11 < (x9.length : Int) then (if 0 ≤ (rd x9 x11) then (if (rd x9 x11) < (x0.length : Int) then (if x5.length < 8796093022208 then (impl_setToCells.l0 k x0 (x5 ++ [(⟨(rd_T59 x0 (rd x9 x11)).f0, (rd_T59 x0 (rd x9 x11)).f1⟩ : S59)]) x9 x10 (wrap64 (x11 + 1))) else (none)) else (none)) else (none)) else (none)) else (none)) else (some x5)
def impl_setToCells.f (k : Nat) (l0 : List (S59)) (l1 : List Int) : Option ((List (S59))) := impl_setToCells.l0 k l0 (([] : List (S59))) l1 (l1.length : Int) 0
theorem impl_setToCells.calls (k : Nat) (A0 : Option Addr) (c0 : Nat) (l0 : List (S59)) (A1 : Option Addr) (c1 : Nat) (l1 : List Int) (r : List (S59)) (w : World) (hr0 : Kd.C k59 w A0 l0.length l0) (hc0 : l0.length ≤ c0) (hr1 : Kd.C (Kd.int .i64) w A1 l1.length l1) (hc1 : l1.length ≤ c1) (h : impl_setToCells.f k l0 l1 = some r) :
  Calls Try.prog 127 #[.slice A0 l0.length c0, .slice A1 l1.length c1] w fun e w' => ∃ v0_ : Value, e = .returned (v0_) ∧ Kd.R k59 59 w' w.heap.size (fun _ => True) v0_ r ∧ Below w.heap.size w w' := by
 have hu59 := Try.underlying59
 have HR0 := aM hr0
 have HC0 := aM hc0
 clear hr0 hc0
 have HR1 := aM hr1
 have HC1 := aM hc1
 clear hr1 hc1
 have HB := aM (Below.refl w.heap.size w)
 have H : (impl_setToCells.l0 k l0 (([] : List (S59))) l1 (l1.length : Int) 0) = some r := h
 clear h
 obtain ⟨y1268, hy1268⟩ : ∃ y_ : List (S59), y_ = (([] : List (S59))) := ⟨_, rfl⟩
 replace H : (impl_setToCells.l0 k l0 y1268 l1 (l1.length : Int) 0) = some r := zy H hy1268
 have Ny1268 := aM hy1268
 clear hy1268
 have H' := aM H
 clear H
 go_enter Try.func127, Try.ntmps127
 go_wp2_with (first | ((with_reducible refine gate_dst (N := 8) rfl ?_); refine Kd.R_lit k59 _ 59 ?hg (N := 8) ?hd (xs := ([] : List (S59))) (inner := []) (ok := fun _ => True) (okp := fun _ => True) ?hr ?hp (fun _ hk => hk) trivial (Below.refl _ _) (Nat.le_refl _) (by simp) ?_; (case hd => rfl); (case hg => rfl); (case hr => first | (go_simp; done) | (go_simp; rfl)); (case hp => exact (Reps.none _ _)); intro v1269 w3 ho4 hb hg_ hnew_; clear hg_ hnew_; (first | rw [← Ny1268.out] at ho4 | (simp only [Int.reduceToNat] at ho4; rw [← Ny1268.out] at ho4)); have n0_ := aM (Kd.R_lower ho4 (below_size zb)); have n1_ := aM (below_step zb hb); clear HB; have HO1270 := n0_; have HB := n1_; clear n0_ n1_; clear hb ho4))
 go_loopg [5, 11] k (fun kq v5 v11 w' => ∃ (x5_1 : List (S59)) (x11_1 : Int), v11 = .int .i64 x11_1 ∧ Aside0 (impl_setToCells.l0 kq l0 x5_1 l1 (l1.length : Int) x11_1 = some r) ∧ Aside0 (kq ≤ k) ∧ Aside0 (Kd.R k59 59 w' w.heap.size (fun _ => True) v5 x5_1) ∧ Aside0 (Below w.heap.size w w'))
 case atStart => exact ⟨(y1268), (0), zr, H', ⟨Nat.le_refl _⟩, ⟨mR_ HO1270.out⟩, ⟨zb⟩⟩
 case round =>
  clear H'
  try clear c1
  try clear p2
  obtain ⟨x5_1, x11_1, rfl, HA, HK1, HO_5, HB⟩ := hrel
  cases gk with
  | zero => exact absurd HA.out (by simp [impl_setToCells.l0])
  | succ k1 =>
   have H := HA.out
   clear HA
   simp only [impl_setToCells.l0] at H
   by_cases c5 : x11_1 < (l1.length : Int)
   rotate_left
   ·rw [if_neg c5] at H
    have c5b0 : decide (x11_1 < (l1.length : Int)) = false := decide_eq_false c5
    clear c5
    obtain rfl := Option.some.inj H
    go_wp2
    go_ret
    exact ⟨_, zw, mR_ HO_5.out, zb⟩
   rw [if_pos c5] at H
   have c5b0 : decide (x11_1 < (l1.length : Int)) = true := decide_eq_true c5
   clear c5
   by_cases c6 : 0 ≤ x11_1
   rotate_left
   ·rw [if_neg c6] at H
    exact absurd H (by simp)
   rw [if_pos c6] at H
   have c6b0 : decide (0 ≤ x11_1) = true := decide_eq_true c6
   clear c6
   by_cases c7 : x11_1 < (l1.length : Int)
   rotate_left
   ·rw [if_neg c7] at H
    exact absurd H (by simp)
   rw [if_pos c7] at H
   have c7b0 : decide (x11_1 < (l1.length : Int)) = true := decide_eq_true c7
   clear c7
   by_cases c8 : 0 ≤ (rd l1 x11_1)
   rotate_left
   ·rw [if_neg c8] at H
    exact absurd H (by simp)
   rw [if_pos c8] at H
   have c8b0 : decide (0 ≤ (rd l1 x11_1)) = true := decide_eq_true c8
   clear c8
   by_cases c9 : (rd l1 x11_1) < (l0.length : Int)
   rotate_left
   ·rw [if_neg c9] at H
    exact absurd H (by simp)
   rw [if_pos c9] at H
   have c9b0 : decide ((rd l1 x11_1) < (l0.length : Int)) = true := decide_eq_true c9
   clear c9
   by_cases c10 : x5_1.length < 8796093022208
   rotate_left
   ·rw [if_neg c10] at H
    exact absurd H (by simp)
   rw [if_pos c10] at H
   have LMc10 := aM c10
   clear c10
   obtain ⟨y1273, hy1273⟩ : ∃ y_ : List (S59), y_ = (x5_1 ++ [(⟨(rd_T59 l0 (rd l1 x11_1)).f0, (rd_T59 l0 (rd l1 x11_1)).f1⟩ : S59)]) := ⟨_, rfl⟩
   replace H : (impl_setToCells.l0 k1 l0 y1273 l1 (l1.length : Int) (wrap64 (x11_1 + 1))) = some r := zy H hy1273
   have Ny1273 := aM hy1273
   clear hy1273
   have H' := aM H
   clear H
   have p1271 : 0 ≤ (x11_1 : Int) := of_decide_eq_true za
   have q1271 : x11_1 < (l1.length : Int) := of_decide_eq_true za
   obtain ⟨ad1271, e1271, hx1271_0⟩ := Kd.at_int HR1.out x11_1 p1271 q1271
   cases e1271
   replace hx1271_0 := (HB.out.cell (World.block_lt_of_cell? w _ hx1271_0)).trans hx1271_0
   replace p1271 := eq_true p1271
   replace q1271 := eq_true q1271
   have p1272 : 0 ≤ ((rd l1 x11_1) : Int) := of_decide_eq_true za
   have q1272 : (rd l1 x11_1) < (l0.length : Int) := of_decide_eq_true za
   obtain ⟨ad1272, e1272, hx1272_0, hx1272_1⟩ := at_T59 HR0.out (rd l1 x11_1) p1272 q1272
   cases e1272
   replace hx1272_0 := (HB.out.cell (World.block_lt_of_cell? w _ hx1272_0)).trans hx1272_0
   replace hx1272_1 := (HB.out.cell (World.block_lt_of_cell? w _ hx1272_1)).trans hx1272_1
   replace p1272 := eq_true p1272
   replace q1272 := eq_true q1272
   go_wp2_with (first | ((with_reducible refine gate_builtin (b := .append) (xs := #[.tmp 15, .tmp 20]) rfl ?_); at_builtin; refine Kd.R_append k59 (w0 := w) w.heap.size rfl (.tmp 15) (.tmp 20) 43 59 (.agg #[(.int .i64 0), (.int .i64 0)]) 16 rfl Try.underlying43 info59 rfl (by decide) (by omega) u5 x5_1 (⟨(rd_T59 l0 (rd l1 x11_1)).f0, (rd_T59 l0 (rd l1 x11_1)).f1⟩ : S59) [.int .i64 ((rd_T59 l0 (rd l1 x11_1)).f0), .int .i64 ((rd_T59 l0 (rd l1 x11_1)).f1)] (fun _ => True) (fun _ => False) rfl rfl ?aP (fun _ hk => hk.elim) ?aF ?aO ?aB ?aS ?aL ?_; (case aP => exact k59_mkM _ _ _ (⟨(rd_T59 l0 (rd l1 x11_1)).f0, (rd_T59 l0 (rd l1 x11_1)).f1⟩ : S59)); (case aB => exact zb); (case aF => exact (fun _ _ => trivial)); (case aO => exact (mR_ HO_5.out)); (case aS => exact (below_size zb)); (case aL => have := LMc10.out; omega); intro v1274 w11 ho hb hg hat; rw [← Ny1273.out] at ho; have n0_ := aM (hb); have n1_ := aM (ho); clear HB; clear HO_5; have HB := n0_; have HO1275 := n1_; clear n0_ n1_; clear ho hb hg hat))
   go_roundg k1
   case measure => have := HK1.out; omega
   case rel => exact ⟨(y1273), (wrap64 (x11_1 + 1)), zr, H', ⟨by have := HK1.out; omega⟩, ⟨mR_ HO1275.out⟩, ⟨zb⟩⟩
def impl_SetToCells.f (k : Nat) (l0 : List (S59)) (l1 : List Int) : Option ((List (S59)) × Int) := (impl_setCode.f k l0 l1).bind fun t1276 => (if t1276 = 0 then ((impl_setToCells.f k l0 l1).bind fun t1277 => (some (t1277, 0))) else (some (([] : List (S59)), t1276)))
theorem impl_SetToCells.calls (k : Nat) (A0 : Option Addr) (c0 : Nat) (l0 : List (S59)) (A1 : Option Addr) (c1 : Nat) (l1 : List Int) (r1 : List (S59)) (r2 : Int) (w : World) (hr0 : Kd.C k59 w A0 l0.length l0) (hc0 : l0.length ≤ c0) (hr1 : Kd.C (Kd.int .i64) w A1 l1.length l1) (hc1 : l1.length ≤ c1) (h : impl_SetToCells.f k l0 l1 = some (r1, r2)) :
  Calls Try.prog 64 #[.slice A0 l0.length c0, .slice A1 l1.length c1] w fun e w' => ∃ v0_ : Value, e = .returned (.tuple #[v0_, .int .i64 r2]) ∧ Kd.R k59 59 w' w.heap.size (fun _ => True) v0_ r1 ∧ Below w.heap.size w w' := by
 have HR0 := aM hr0
 have HC0 := aM hc0
 clear hr0 hc0
 have HR1 := aM hr1
 have HC1 := aM hc1
 clear hr1 hc1
 have HB := aM (Below.refl w.heap.size w)
 have H : ((impl_setCode.f k l0 l1).bind fun t1276 => (if t1276 = 0 then ((impl_setToCells.f k l0 l1).bind fun t1277 => (some (t1277, 0))) else (some (([] : List (S59)), t1276)))) = some (r1, r2) := h
 clear h
 replace H := Option.bind_eq_some_iff.mp H
 obtain ⟨t1276, A30, H⟩ := H
 replace H : (if t1276 = 0 then ((impl_setToCells.f k l0 l1).bind fun t1277 => (some (t1277, 0))) else (some (([] : List (S59)), t1276))) = some (r1, r2) := H
 have A3 := aM A30
 clear A30
 by_cases c4 : t1276 = 0
 rotate_left
 ·rw [if_neg c4] at H
  have c4b0 : (t1276 == 0) = false := beq_eq_false_iff_ne.mpr c4
  have c4b1 : (t1276 != 0) = true := bne_iff_ne.mpr c4
  simp only [Option.some.injEq, Prod.mk.injEq] at H
  obtain ⟨rfl, rfl⟩ := H
  go_enter Try.func64, Try.ntmps64
  go_wp2_with (first | ((with_reducible refine gate_callee (f := 107) rfl ?_); refine goesL_ (some 9) rfl rfl Try.func107 (by kernel_rfl) rfl #[.slice A0 l0.length c0, .slice A1 l1.length c1] rfl zm ?_; (with_reducible refine (impl_setCode.calls k _ _ l0 _ _ l1 t1276 _ ?side1 ?side2 ?side3 ?side4 A3.out).mono ?_); (case side1 => repeat (first | exact HR0.out | (with_reducible refine Kd.C_alloc ?_ _) | (with_reducible refine Kd.C_drewN ?_ _) | (with_reducible refine Kd.C_drew ?_))); (case side2 => exact HC0.out); (case side3 => repeat (first | exact HR1.out | (with_reducible refine Kd.C_alloc ?_ _) | (with_reducible refine Kd.C_drewN ?_ _) | (with_reducible refine Kd.C_drew ?_))); (case side4 => exact HC1.out); rintro e w8 ⟨rfl, hb⟩; refine ⟨_, rfl, ?_⟩; have n0_ := aM (below_step zb hb); clear HB; have HB := n0_; clear n0_; (try clear hb); (try clear hb2); (try clear hk); (try clear hi)))
  go_ret2
  exact ⟨_, zw, by first | exact Kd.R_nil _ _ _ _ _ | exact Kd.N_nil _ _ _ _ _ | exact Kd.V_nil _ _ _ _ _ | exact Kd.Q_nil _ _ _ _ _ | exact Kd.S_nil _ _ _ _ _, zb⟩
 rw [if_pos c4] at H
 have c4b0 : (t1276 == 0) = true := beq_iff_eq.mpr c4
 have c4b1 : (t1276 != 0) = false := bne_eq_false_iff_eq.mpr c4
 clear c4
 replace H := Option.bind_eq_some_iff.mp H
 obtain ⟨t1277, A50, H⟩ := H
 replace H : (some (t1277, 0)) = some (r1, r2) := H
 have A5 := aM A50
 clear A50
 simp only [Option.some.injEq, Prod.mk.injEq] at H
 obtain ⟨rfl, rfl⟩ := H
 go_enter Try.func64, Try.ntmps64
 go_wp2_with (first | ((with_reducible refine gate_callee (f := 107) rfl ?_); refine goesL_ (some 9) rfl rfl Try.func107 (by kernel_rfl) rfl #[.slice A0 l0.length c0, .slice A1 l1.length c1] rfl zm ?_; (with_reducible refine (impl_setCode.calls k _ _ l0 _ _ l1 t1276 _ ?side1 ?side2 ?side3 ?side4 A3.out).mono ?_); (case side1 => repeat (first | exact HR0.out | (with_reducible refine Kd.C_alloc ?_ _) | (with_reducible refine Kd.C_drewN ?_ _) | (with_reducible refine Kd.C_drew ?_))); (case side2 => exact HC0.out); (case side3 => repeat (first | exact HR1.out | (with_reducible refine Kd.C_alloc ?_ _) | (with_reducible refine Kd.C_drewN ?_ _) | (with_reducible refine Kd.C_drew ?_))); (case side4 => exact HC1.out); rintro e w6 ⟨rfl, hb⟩; refine ⟨_, rfl, ?_⟩; have n0_ := aM (below_step zb hb); clear HB; have HB := n0_; clear n0_; (try clear hb); (try clear hb2); (try clear hk); (try clear hi)) | ((with_reducible refine gate_callee (f := 127) rfl ?_); refine goesL_ (some 15) rfl rfl Try.func127 (by kernel_rfl) rfl #[.slice A0 l0.length c0, .slice A1 l1.length c1] rfl zm ?_; (with_reducible refine (impl_setToCells.calls k _ _ l0 _ _ l1 t1277 _ ?side1 ?side2 ?side3 ?side4 A5.out).mono ?_); (case side1 => repeat (first | exact (Kd.C_below HR0.out HB.out) | (with_reducible refine Kd.C_alloc ?_ _) | (with_reducible refine Kd.C_drewN ?_ _) | (with_reducible refine Kd.C_drew ?_))); (case side2 => exact HC0.out); (case side3 => repeat (first | exact (Kd.C_below HR1.out HB.out) | (with_reducible refine Kd.C_alloc ?_ _) | (with_reducible refine Kd.C_drewN ?_ _) | (with_reducible refine Kd.C_drew ?_))); (case side4 => exact HC1.out); rintro e w7 ⟨v1278, rfl, ho0, hb⟩; refine ⟨_, rfl, ?_⟩; have n0_ := aM (Kd.R_lower ho0 (below_size zb)); have n1_ := aM (below_step zb hb); clear HB; have HO1279 := n0_; have HB := n1_; clear n0_ n1_; (try clear hb); (try clear hb2); (try clear hk); (try clear hi); (try clear ho0)))
 go_ret2
 exact ⟨_, zw, mR_ HO1279.out, zb⟩
mutual
def laws_FnCut.j0 : Nat → List (S59) → List Int → List (S59) → Int → Bool → Option (Bool)
 | 0, _, _, _, _, _ => none
 | k + 1, x3, x4, x5, x6, x81 => if x81 = true then (some false) else (if x6 = 0 then ((impl_SetToCells.f k x3 x4).bind fun bt1313 => (if bt1313.2 = 0 then (laws_FnCut.j1 k x3 x4 x5 bt1313.1 ((x5.length : Int) != (wrap64 ((x3.length : Int) - (x4.length : Int))))) else (laws_FnCut.j1 k x3 x4 x5 bt1313.1 true))) else (some true))
def laws_FnCut.j1 : Nat → List (S59) → List Int → List (S59) → List (S59) → Bool → Option (Bool)
 | 0, _, _, _, _, _ => none
 | k + 1, x3, x4, x5, x15, x101 => if x101 = true then (some false) else (if (x4.length : Int) = 0 then ((laws_likeCells.f k x5 x3).bind fun t1317 => (some t1317)) else ((impl_CellsToSet.f k x3 x15).bind fun bt1318 => (if bt1318.2 = 0 then ((laws_likeInts.f k bt1318.1 x4).bind fun t1322 => (some t1322)) else (some false))))
end
def laws_FnCut.f (k : Nat) (l0 : List Int) : Option (Bool) := (laws_big.f l0).bind fun t1280 => (if t1280 = true then (some true) else ((spec_DrawCutRegion.f k l0).bind fun bt1281 => ((impl_CutRegion.f k bt1281.1 bt1281.2).bind fun bt1287 => ((spec_CutRegion.f k bt1281.1 bt1281.2).bind fun bt1291 => ((spec_DrawCellsToSet.f k l0).bind fun bt1295 => ((impl_CellsToSet.f k bt1295.1 bt1295.2).bind fun bt1301 => ((spec_CellsToSet.f k bt1295.1 bt1295.2).bind fun bt1305 => (if bt1287.2 = bt1291.2 then ((laws_likeCells.f k bt1287.1 bt1291.1).bind fun t1309 => (if t1309 = true then (if bt1301.2 = bt1305.2 then ((laws_likeInts.f k bt1301.1 bt1305.1).bind fun t1310 => (if t1310 = true then ((impl_IsRegion.f k bt1281.1).bind fun t1311 => ((spec_IsRegion.f k bt1281.1).bind fun t1312 => (laws_FnCut.j0 k bt1281.1 bt1281.2 bt1287.1 bt1287.2 (t1311 != t1312)))) else (laws_FnCut.j0 k bt1281.1 bt1281.2 bt1287.1 bt1287.2 true))) else (laws_FnCut.j0 k bt1281.1 bt1281.2 bt1287.1 bt1287.2 true)) else (laws_FnCut.j0 k bt1281.1 bt1281.2 bt1287.1 bt1287.2 true))) else (laws_FnCut.j0 k bt1281.1 bt1281.2 bt1287.1 bt1287.2 true)))))))))
theorem laws_FnCut.calls (k : Nat) (A0 : Option Addr) (c0 : Nat) (l0 : List Int) (r : Bool) (w : World) (hr0 : Kd.C (Kd.int .u8) w A0 l0.length l0) (hc0 : l0.length ≤ c0) (h : laws_FnCut.f k l0 = some r) :
  Calls Try.prog 12 #[.slice A0 l0.length c0] w fun e w' => e = .returned (.bool r) ∧ Below w.heap.size w w' := by
 have HR0 := aM hr0
 have HC0 := aM hc0
 clear hr0 hc0
 have HB := aM (Below.refl w.heap.size w)
 have H : ((laws_big.f l0).bind fun t1280 => (if t1280 = true then (some true) else ((spec_DrawCutRegion.f k l0).bind fun bt1281 => ((impl_CutRegion.f k bt1281.1 bt1281.2).bind fun bt1287 => ((spec_CutRegion.f k bt1281.1 bt1281.2).bind fun bt1291 => ((spec_DrawCellsToSet.f k l0).bind fun bt1295 => ((impl_CellsToSet.f k bt1295.1 bt1295.2).bind fun bt1301 => ((spec_CellsToSet.f k bt1295.1 bt1295.2).bind fun bt1305 => (if bt1287.2 = bt1291.2 then ((laws_likeCells.f k bt1287.1 bt1291.1).bind fun t1309 => (if t1309 = true then (if bt1301.2 = bt1305.2 then ((laws_likeInts.f k bt1301.1 bt1305.1).bind fun t1310 => (if t1310 = true then ((impl_IsRegion.f k bt1281.1).bind fun t1311 => ((spec_IsRegion.f k bt1281.1).bind fun t1312 => (laws_FnCut.j0 k bt1281.1 bt1281.2 bt1287.1 bt1287.2 (t1311 != t1312)))) else (laws_FnCut.j0 k bt1281.1 bt1281.2 bt1287.1 bt1287.2 true))) else (laws_FnCut.j0 k bt1281.1 bt1281.2 bt1287.1 bt1287.2 true)) else (laws_FnCut.j0 k bt1281.1 bt1281.2 bt1287.1 bt1287.2 true))) else (laws_FnCut.j0 k bt1281.1 bt1281.2 bt1287.1 bt1287.2 true)))))))))) = some r := h
 clear h
 replace H := Option.bind_eq_some_iff.mp H
 obtain ⟨t1280, A20, H⟩ := H
 replace H : (if t1280 = true then (some true) else ((spec_DrawCutRegion.f k l0).bind fun bt1281 => ((impl_CutRegion.f k bt1281.1 bt1281.2).bind fun bt1287 => ((spec_CutRegion.f k bt1281.1 bt1281.2).bind fun bt1291 => ((spec_DrawCellsToSet.f k l0).bind fun bt1295 => ((impl_CellsToSet.f k bt1295.1 bt1295.2).bind fun bt1301 => ((spec_CellsToSet.f k bt1295.1 bt1295.2).bind fun bt1305 => (if bt1287.2 = bt1291.2 then ((laws_likeCells.f k bt1287.1 bt1291.1).bind fun t1309 => (if t1309 = true then (if bt1301.2 = bt1305.2 then ((laws_likeInts.f k bt1301.1 bt1305.1).bind fun t1310 => (if t1310 = true then ((impl_IsRegion.f k bt1281.1).bind fun t1311 => ((spec_IsRegion.f k bt1281.1).bind fun t1312 => (laws_FnCut.j0 k bt1281.1 bt1281.2 bt1287.1 bt1287.2 (t1311 != t1312)))) else (laws_FnCut.j0 k bt1281.1 bt1281.2 bt1287.1 bt1287.2 true))) else (laws_FnCut.j0 k bt1281.1 bt1281.2 bt1287.1 bt1287.2 true)) else (laws_FnCut.j0 k bt1281.1 bt1281.2 bt1287.1 bt1287.2 true))) else (laws_FnCut.j0 k bt1281.1 bt1281.2 bt1287.1 bt1287.2 true))))))))) = some r := H
 have A2 := aM A20
 clear A20
 by_cases c3 : t1280 = true
 ·subst c3
  have H1 : (some true) = some r := by rw [if_pos rfl] at H; exact H
  clear H
  have H := H1
  clear H1
  obtain rfl := Option.some.inj H
  go_enter Try.func12, Try.ntmps12
  go_wp2_with (first | ((with_reducible refine gate_callee (f := 37) rfl ?_); refine goesL_ (some 20) rfl rfl Try.func37 (by kernel_rfl) rfl #[.slice A0 l0.length c0] rfl zm ?_; (with_reducible refine (laws_big.calls _ _ l0 true _ ?side1 ?side2 A2.out).mono ?_); (case side1 => repeat (first | exact HR0.out | (with_reducible refine Kd.C_alloc ?_ _) | (with_reducible refine Kd.C_drewN ?_ _) | (with_reducible refine Kd.C_drew ?_))); (case side2 => exact HC0.out); rintro e w' ⟨rfl, ⟨nd, rfl⟩⟩; refine ⟨_, rfl, ?_⟩))
  go_ret
  exact ⟨zw, zb⟩
 replace c3 := Bool.eq_false_iff.mpr c3
 subst c3
 have H1 : ((spec_DrawCutRegion.f k l0).bind fun bt1281 => ((impl_CutRegion.f k bt1281.1 bt1281.2).bind fun bt1287 => ((spec_CutRegion.f k bt1281.1 bt1281.2).bind fun bt1291 => ((spec_DrawCellsToSet.f k l0).bind fun bt1295 => ((impl_CellsToSet.f k bt1295.1 bt1295.2).bind fun bt1301 => ((spec_CellsToSet.f k bt1295.1 bt1295.2).bind fun bt1305 => (if bt1287.2 = bt1291.2 then ((laws_likeCells.f k bt1287.1 bt1291.1).bind fun t1309 => (if t1309 = true then (if bt1301.2 = bt1305.2 then ((laws_likeInts.f k bt1301.1 bt1305.1).bind fun t1310 => (if t1310 = true then ((impl_IsRegion.f k bt1281.1).bind fun t1311 => ((spec_IsRegion.f k bt1281.1).bind fun t1312 => (laws_FnCut.j0 k bt1281.1 bt1281.2 bt1287.1 bt1287.2 (t1311 != t1312)))) else (laws_FnCut.j0 k bt1281.1 bt1281.2 bt1287.1 bt1287.2 true))) else (laws_FnCut.j0 k bt1281.1 bt1281.2 bt1287.1 bt1287.2 true)) else (laws_FnCut.j0 k bt1281.1 bt1281.2 bt1287.1 bt1287.2 true))) else (laws_FnCut.j0 k bt1281.1 bt1281.2 bt1287.1 bt1287.2 true)))))))) = some r := by rw [if_neg (show ¬ (false = true) by decide)] at H; exact H
 clear H
 have H := H1
 clear H1
 replace H := Option.bind_eq_some_iff.mp H
 obtain ⟨⟨t1281, t1282⟩, A40, H⟩ := H
 replace H : ((impl_CutRegion.f k t1281 t1282).bind fun bt1287 => ((spec_CutRegion.f k t1281 t1282).bind fun bt1291 => ((spec_DrawCellsToSet.f k l0).bind fun bt1295 => ((impl_CellsToSet.f k bt1295.1 bt1295.2).bind fun bt1301 => ((spec_CellsToSet.f k bt1295.1 bt1295.2).bind fun bt1305 => (if bt1287.2 = bt1291.2 then ((laws_likeCells.f k bt1287.1 bt1291.1).bind fun t1309 => (if t1309 = true then (if bt1301.2 = bt1305.2 then ((laws_likeInts.f k bt1301.1 bt1305.1).bind fun t1310 => (if t1310 = true then ((impl_IsRegion.f k t1281).bind fun t1311 => ((spec_IsRegion.f k t1281).bind fun t1312 => (laws_FnCut.j0 k t1281 t1282 bt1287.1 bt1287.2 (t1311 != t1312)))) else (laws_FnCut.j0 k t1281 t1282 bt1287.1 bt1287.2 true))) else (laws_FnCut.j0 k t1281 t1282 bt1287.1 bt1287.2 true)) else (laws_FnCut.j0 k t1281 t1282 bt1287.1 bt1287.2 true))) else (laws_FnCut.j0 k t1281 t1282 bt1287.1 bt1287.2 true))))))) = some r := H
 have A4 := aM A40
 clear A40
 replace H := Option.bind_eq_some_iff.mp H
 obtain ⟨⟨t1287, t1288⟩, A50, H⟩ := H
 replace H : ((spec_CutRegion.f k t1281 t1282).bind fun bt1291 => ((spec_DrawCellsToSet.f k l0).bind fun bt1295 => ((impl_CellsToSet.f k bt1295.1 bt1295.2).bind fun bt1301 => ((spec_CellsToSet.f k bt1295.1 bt1295.2).bind fun bt1305 => (if t1288 = bt1291.2 then ((laws_likeCells.f k t1287 bt1291.1).bind fun t1309 => (if t1309 = true then (if bt1301.2 = bt1305.2 then ((laws_likeInts.f k bt1301.1 bt1305.1).bind fun t1310 => (if t1310 = true then ((impl_IsRegion.f k t1281).bind fun t1311 => ((spec_IsRegion.f k t1281).bind fun t1312 => (laws_FnCut.j0 k t1281 t1282 t1287 t1288 (t1311 != t1312)))) else (laws_FnCut.j0 k t1281 t1282 t1287 t1288 true))) else (laws_FnCut.j0 k t1281 t1282 t1287 t1288 true)) else (laws_FnCut.j0 k t1281 t1282 t1287 t1288 true))) else (laws_FnCut.j0 k t1281 t1282 t1287 t1288 true)))))) = some r := H
 have A5 := aM A50
 clear A50
 replace H := Option.bind_eq_some_iff.mp H
 obtain ⟨⟨t1291, t1292⟩, A60, H⟩ := H
 replace H : ((spec_DrawCellsToSet.f k l0).bind fun bt1295 => ((impl_CellsToSet.f k bt1295.1 bt1295.2).bind fun bt1301 => ((spec_CellsToSet.f k bt1295.1 bt1295.2).bind fun bt1305 => (if t1288 = t1292 then ((laws_likeCells.f k t1287 t1291).bind fun t1309 => (if t1309 = true then (if bt1301.2 = bt1305.2 then ((laws_likeInts.f k bt1301.1 bt1305.1).bind fun t1310 => (if t1310 = true then ((impl_IsRegion.f k t1281).bind fun t1311 => ((spec_IsRegion.f k t1281).bind fun t1312 => (laws_FnCut.j0 k t1281 t1282 t1287 t1288 (t1311 != t1312)))) else (laws_FnCut.j0 k t1281 t1282 t1287 t1288 true))) else (laws_FnCut.j0 k t1281 t1282 t1287 t1288 true)) else (laws_FnCut.j0 k t1281 t1282 t1287 t1288 true))) else (laws_FnCut.j0 k t1281 t1282 t1287 t1288 true))))) = some r := H
 have A6 := aM A60
 clear A60
 replace H := Option.bind_eq_some_iff.mp H
 obtain ⟨⟨t1295, t1296⟩, A70, H⟩ := H
 replace H : ((impl_CellsToSet.f k t1295 t1296).bind fun bt1301 => ((spec_CellsToSet.f k t1295 t1296).bind fun bt1305 => (if t1288 = t1292 then ((laws_likeCells.f k t1287 t1291).bind fun t1309 => (if t1309 = true then (if bt1301.2 = bt1305.2 then ((laws_likeInts.f k bt1301.1 bt1305.1).bind fun t1310 => (if t1310 = true then ((impl_IsRegion.f k t1281).bind fun t1311 => ((spec_IsRegion.f k t1281).bind fun t1312 => (laws_FnCut.j0 k t1281 t1282 t1287 t1288 (t1311 != t1312)))) else (laws_FnCut.j0 k t1281 t1282 t1287 t1288 true))) else (laws_FnCut.j0 k t1281 t1282 t1287 t1288 true)) else (laws_FnCut.j0 k t1281 t1282 t1287 t1288 true))) else (laws_FnCut.j0 k t1281 t1282 t1287 t1288 true)))) = some r := H
 have A7 := aM A70
 clear A70
 replace H := Option.bind_eq_some_iff.mp H
 obtain ⟨⟨t1301, t1302⟩, A80, H⟩ := H
 replace H : ((spec_CellsToSet.f k t1295 t1296).bind fun bt1305 => (if t1288 = t1292 then ((laws_likeCells.f k t1287 t1291).bind fun t1309 => (if t1309 = true then (if t1302 = bt1305.2 then ((laws_likeInts.f k t1301 bt1305.1).bind fun t1310 => (if t1310 = true then ((impl_IsRegion.f k t1281).bind fun t1311 => ((spec_IsRegion.f k t1281).bind fun t1312 => (laws_FnCut.j0 k t1281 t1282 t1287 t1288 (t1311 != t1312)))) else (laws_FnCut.j0 k t1281 t1282 t1287 t1288 true))) else (laws_FnCut.j0 k t1281 t1282 t1287 t1288 true)) else (laws_FnCut.j0 k t1281 t1282 t1287 t1288 true))) else (laws_FnCut.j0 k t1281 t1282 t1287 t1288 true))) = some r := H
 have A8 := aM A80
 clear A80
 replace H := Option.bind_eq_some_iff.mp H
 obtain ⟨⟨t1305, t1306⟩, A90, H⟩ := H
 replace H : (if t1288 = t1292 then ((laws_likeCells.f k t1287 t1291).bind fun t1309 => (if t1309 = true then (if t1302 = t1306 then ((laws_likeInts.f k t1301 t1305).bind fun t1310 => (if t1310 = true then ((impl_IsRegion.f k t1281).bind fun t1311 => ((spec_IsRegion.f k t1281).bind fun t1312 => (laws_FnCut.j0 k t1281 t1282 t1287 t1288 (t1311 != t1312)))) else (laws_FnCut.j0 k t1281 t1282 t1287 t1288 true))) else (laws_FnCut.j0 k t1281 t1282 t1287 t1288 true)) else (laws_FnCut.j0 k t1281 t1282 t1287 t1288 true))) else (laws_FnCut.j0 k t1281 t1282 t1287 t1288 true)) = some r := H
 have A9 := aM A90
 clear A90
 have HC10 := aM H
 clear H
 go_enter Try.func12, Try.ntmps12
 go_upto_region 9 with (first | ((with_reducible refine gate_callee (f := 37) rfl ?_); refine goesL_ (some 20) rfl rfl Try.func37 (by kernel_rfl) rfl #[.slice A0 l0.length c0] rfl zm ?_; (with_reducible refine (laws_big.calls _ _ l0 false _ ?side1 ?side2 A2.out).mono ?_); (case side1 => repeat (first | exact HR0.out | (with_reducible refine Kd.C_alloc ?_ _) | (with_reducible refine Kd.C_drewN ?_ _) | (with_reducible refine Kd.C_drew ?_))); (case side2 => exact HC0.out); rintro e w' ⟨rfl, ⟨nd, rfl⟩⟩; refine ⟨_, rfl, ?_⟩) | ((with_reducible refine gate_callee (f := 54) rfl ?_); refine goesL_ (some 23) rfl rfl Try.func54 (by kernel_rfl) rfl #[.slice A0 l0.length c0] rfl zm ?_; (with_reducible refine (spec_DrawCutRegion.calls k _ _ l0 t1281 t1282 _ ?side1 ?side2 A4.out).mono ?_); (case side1 => repeat (first | exact HR0.out | (with_reducible refine Kd.C_alloc ?_ _) | (with_reducible refine Kd.C_drewN ?_ _) | (with_reducible refine Kd.C_drew ?_))); (case side2 => exact HC0.out); rintro e w11 ⟨v1283, v1285, rfl, ho0, ho1, hb⟩; refine ⟨_, rfl, ?_⟩; have n0_ := aM (Kd.R_lower ho0 (below_size zb)); have n1_ := aM (Kd.R_lower ho1 (below_size zb)); have n2_ := aM (below_step zb hb); clear HB; have HO1284 := n0_; have HO1286 := n1_; have HB := n2_; clear n0_ n1_ n2_; (try clear hb); (try clear hb2); (try clear hk); (try clear hi); (try clear ho0); (try clear ho1); obtain ⟨Ao12, co12, eo12⟩ := Kd.R_slice HO1284.out; subst eo12; obtain ⟨Ao13, co13, eo13⟩ := Kd.R_slice HO1286.out; subst eo13) | ((with_reducible refine gate_callee (f := 55) rfl ?_); refine goesL_ (some 29) rfl rfl Try.func55 (by kernel_rfl) rfl #[.slice Ao12 t1281.length co12, .slice Ao13 t1282.length co13] rfl zm ?_; (with_reducible refine (impl_CutRegion.calls k _ _ t1281 _ _ t1282 t1287 t1288 _ ?side1 ?side2 ?side3 ?side4 A5.out).mono ?_); (case side1 => repeat (first | exact (Kd.R_reads' HO1284.out).2.2 | (with_reducible refine Kd.C_alloc ?_ _) | (with_reducible refine Kd.C_drewN ?_ _) | (with_reducible refine Kd.C_drew ?_))); (case side2 => exact (Kd.R_reads' HO1284.out).2.1); (case side3 => repeat (first | exact (Kd.R_reads' HO1286.out).2.2 | (with_reducible refine Kd.C_alloc ?_ _) | (with_reducible refine Kd.C_drewN ?_ _) | (with_reducible refine Kd.C_drew ?_))); (case side4 => exact (Kd.R_reads' HO1286.out).2.1); rintro e w14 ⟨v1289, rfl, ho0, hb⟩; refine ⟨_, rfl, ?_⟩; have n0_ := aM (Kd.R_elder' (mR_ HO1284.out) (Kd.R_base ho0) hb); have n1_ := aM (Kd.R_below (mR_ HO1286.out) hb); have n2_ := aM (Kd.R_lower (Kd.R_new' ho0 (Kd.R_lt (mR_ HO1284.out))) (below_size zb)); have n3_ := aM (below_step zb hb); clear HO1284; clear HO1286; clear HB; have HO1284 := n0_; have HO1286 := n1_; have HO1290 := n2_; have HB := n3_; clear n0_ n1_ n2_ n3_; (try clear hb); (try clear hb2); (try clear hk); (try clear hi); (try clear ho0)) | ((with_reducible refine gate_callee (f := 56) rfl ?_); refine goesL_ (some 35) rfl rfl Try.func56 (by kernel_rfl) rfl #[.slice Ao12 t1281.length co12, .slice Ao13 t1282.length co13] rfl zm ?_; (with_reducible refine (spec_CutRegion.calls k _ _ t1281 _ _ t1282 t1291 t1292 _ ?side1 ?side2 ?side3 ?side4 A6.out).mono ?_); (case side1 => repeat (first | exact (Kd.R_reads' HO1284.out).2.2 | (with_reducible refine Kd.C_alloc ?_ _) | (with_reducible refine Kd.C_drewN ?_ _) | (with_reducible refine Kd.C_drew ?_))); (case side2 => exact (Kd.R_reads' HO1284.out).2.1); (case side3 => repeat (first | exact (Kd.R_reads' HO1286.out).2.2 | (with_reducible refine Kd.C_alloc ?_ _) | (with_reducible refine Kd.C_drewN ?_ _) | (with_reducible refine Kd.C_drew ?_))); (case side4 => exact (Kd.R_reads' HO1286.out).2.1); rintro e w15 ⟨v1293, rfl, ho0, hb⟩; refine ⟨_, rfl, ?_⟩; have n0_ := aM (Kd.R_elder' (mR_ HO1284.out) (Kd.R_base ho0) hb); have n1_ := aM (Kd.R_below (mR_ HO1286.out) hb); have n2_ := aM (Kd.R_elder' (mR_ HO1290.out) (Kd.R_base ho0) hb); have n3_ := aM (Kd.R_lower (Kd.R_new' (Kd.R_new' ho0 (Kd.R_lt (mR_ HO1284.out))) (Kd.R_lt (mR_ HO1290.out))) (below_size zb)); have n4_ := aM (below_step zb hb); clear HO1284; clear HO1286; clear HO1290; clear HB; have HO1284 := n0_; have HO1286 := n1_; have HO1290 := n2_; have HO1294 := n3_; have HB := n4_; clear n0_ n1_ n2_ n3_ n4_; (try clear hb); (try clear hb2); (try clear hk); (try clear hi); (try clear ho0)) | ((with_reducible refine gate_callee (f := 57) rfl ?_); refine goesL_ (some 40) rfl rfl Try.func57 (by kernel_rfl) rfl #[.slice A0 l0.length c0] rfl zm ?_; (with_reducible refine (spec_DrawCellsToSet.calls k _ _ l0 t1295 t1296 _ ?side1 ?side2 A7.out).mono ?_); (case side1 => repeat (first | exact (Kd.C_below HR0.out HB.out) | (with_reducible refine Kd.C_alloc ?_ _) | (with_reducible refine Kd.C_drewN ?_ _) | (with_reducible refine Kd.C_drew ?_))); (case side2 => exact HC0.out); rintro e w16 ⟨v1297, v1299, rfl, ho0, ho1, hb⟩; refine ⟨_, rfl, ?_⟩; have n0_ := aM (Kd.R_mono (Kd.R_told (Kd.R_told (Kd.R_old (mR_ HO1284.out) hb) (Kd.R_base ho0)) (Kd.R_base ho1)) (fun _ h_ => h_.1)); have n1_ := aM (Kd.R_below (mR_ HO1286.out) hb); have n2_ := aM (Kd.R_mono (Kd.R_told (Kd.R_told (Kd.R_old (mR_ HO1290.out) hb) (Kd.R_base ho0)) (Kd.R_base ho1)) (fun _ h_ => h_.1)); have n3_ := aM (Kd.R_mono (Kd.R_told (Kd.R_told (Kd.R_old (mR_ HO1294.out) hb) (Kd.R_base ho0)) (Kd.R_base ho1)) (fun _ h_ => h_.1)); have n4_ := aM (Kd.R_lower (Kd.R_new' (Kd.R_new' (Kd.R_new' ho0 (Kd.R_lt (mR_ HO1284.out))) (Kd.R_lt (mR_ HO1290.out))) (Kd.R_lt (mR_ HO1294.out))) (below_size zb)); have n5_ := aM (Kd.R_lower (Kd.R_new' (Kd.R_new' (Kd.R_new' ho1 (Kd.R_lt (mR_ HO1284.out))) (Kd.R_lt (mR_ HO1290.out))) (Kd.R_lt (mR_ HO1294.out))) (below_size zb)); have n6_ := aM (below_step zb hb); clear HO1284; clear HO1286; clear HO1290; clear HO1294; clear HB; have HO1284 := n0_; have HO1286 := n1_; have HO1290 := n2_; have HO1294 := n3_; have HO1298 := n4_; have HO1300 := n5_; have HB := n6_; clear n0_ n1_ n2_ n3_ n4_ n5_ n6_; (try clear hb); (try clear hb2); (try clear hk); (try clear hi); (try clear ho0); (try clear ho1); obtain ⟨Ao17, co17, eo17⟩ := Kd.R_slice HO1298.out; subst eo17; obtain ⟨Ao18, co18, eo18⟩ := Kd.R_slice HO1300.out; subst eo18) | ((with_reducible refine gate_callee (f := 58) rfl ?_); refine goesL_ (some 46) rfl rfl Try.func58 (by kernel_rfl) rfl #[.slice Ao17 t1295.length co17, .slice Ao18 t1296.length co18] rfl zm ?_; (with_reducible refine (impl_CellsToSet.calls k _ _ t1295 _ _ t1296 t1301 t1302 _ ?side1 ?side2 ?side3 ?side4 A8.out).mono ?_); (case side1 => repeat (first | exact (Kd.R_reads' HO1298.out).2.2 | (with_reducible refine Kd.C_alloc ?_ _) | (with_reducible refine Kd.C_drewN ?_ _) | (with_reducible refine Kd.C_drew ?_))); (case side2 => exact (Kd.R_reads' HO1298.out).2.1); (case side3 => repeat (first | exact (Kd.R_reads' HO1300.out).2.2 | (with_reducible refine Kd.C_alloc ?_ _) | (with_reducible refine Kd.C_drewN ?_ _) | (with_reducible refine Kd.C_drew ?_))); (case side4 => exact (Kd.R_reads' HO1300.out).2.1); rintro e w19 ⟨v1303, rfl, ho0, hb⟩; refine ⟨_, rfl, ?_⟩; have n0_ := aM (Kd.R_below (mR_ HO1284.out) hb); have n1_ := aM (Kd.R_elder' (mR_ HO1286.out) (Kd.R_base ho0) hb); have n2_ := aM (Kd.R_below (mR_ HO1290.out) hb); have n3_ := aM (Kd.R_below (mR_ HO1294.out) hb); have n4_ := aM (Kd.R_below (mR_ HO1298.out) hb); have n5_ := aM (Kd.R_below (mR_ HO1300.out) hb); have n6_ := aM (Kd.R_lower (Kd.R_new' ho0 (Kd.R_lt (mR_ HO1286.out))) (below_size zb)); have n7_ := aM (below_step zb hb); clear HO1284; clear HO1286; clear HO1290; clear HO1294; clear HO1298; clear HO1300; clear HB; have HO1284 := n0_; have HO1286 := n1_; have HO1290 := n2_; have HO1294 := n3_; have HO1298 := n4_; have HO1300 := n5_; have HO1304 := n6_; have HB := n7_; clear n0_ n1_ n2_ n3_ n4_ n5_ n6_ n7_; (try clear hb); (try clear hb2); (try clear hk); (try clear hi); (try clear ho0)) | ((with_reducible refine gate_callee (f := 59) rfl ?_); refine goesL_ (some 52) rfl rfl Try.func59 (by kernel_rfl) rfl #[.slice Ao17 t1295.length co17, .slice Ao18 t1296.length co18] rfl zm ?_; (with_reducible refine (spec_CellsToSet.calls k _ _ t1295 _ _ t1296 t1305 t1306 _ ?side1 ?side2 ?side3 ?side4 A9.out).mono ?_); (case side1 => repeat (first | exact (Kd.R_reads' HO1298.out).2.2 | (with_reducible refine Kd.C_alloc ?_ _) | (with_reducible refine Kd.C_drewN ?_ _) | (with_reducible refine Kd.C_drew ?_))); (case side2 => exact (Kd.R_reads' HO1298.out).2.1); (case side3 => repeat (first | exact (Kd.R_reads' HO1300.out).2.2 | (with_reducible refine Kd.C_alloc ?_ _) | (with_reducible refine Kd.C_drewN ?_ _) | (with_reducible refine Kd.C_drew ?_))); (case side4 => exact (Kd.R_reads' HO1300.out).2.1); rintro e w20 ⟨v1307, rfl, ho0, hb⟩; refine ⟨_, rfl, ?_⟩; have n0_ := aM (Kd.R_below (mR_ HO1284.out) hb); have n1_ := aM (Kd.R_elder' (mR_ HO1286.out) (Kd.R_base ho0) hb); have n2_ := aM (Kd.R_below (mR_ HO1290.out) hb); have n3_ := aM (Kd.R_below (mR_ HO1294.out) hb); have n4_ := aM (Kd.R_below (mR_ HO1298.out) hb); have n5_ := aM (Kd.R_below (mR_ HO1300.out) hb); have n6_ := aM (Kd.R_elder' (mR_ HO1304.out) (Kd.R_base ho0) hb); have n7_ := aM (Kd.R_lower (Kd.R_new' (Kd.R_new' ho0 (Kd.R_lt (mR_ HO1286.out))) (Kd.R_lt (mR_ HO1304.out))) (below_size zb)); have n8_ := aM (below_step zb hb); clear HO1284; clear HO1286; clear HO1290; clear HO1294; clear HO1298; clear HO1300; clear HO1304; clear HB; have HO1284 := n0_; have HO1286 := n1_; have HO1290 := n2_; have HO1294 := n3_; have HO1298 := n4_; have HO1300 := n5_; have HO1304 := n6_; have HO1308 := n7_; have HB := n8_; clear n0_ n1_ n2_ n3_ n4_ n5_ n6_ n7_ n8_; (try clear hb); (try clear hb2); (try clear hk); (try clear hi); (try clear ho0)))
 (try simp only [Act.put, xA, xB, xC])
 go_cut [81] (fun v81 wc => ∃ (kq : Nat) (x81_9 : Bool), v81 = .bool x81_9 ∧ Aside0 (laws_FnCut.j0 kq t1281 t1282 t1287 t1288 x81_9 = some r) ∧ Aside0 (kq ≤ k) ∧ Aside0 (Kd.R k59 59 wc w.heap.size (fun k_ => some k_ ≠ (v1289 : Value).ownBlock) (.slice Ao12 t1281.length co12) t1281) ∧ Aside0 (Kd.R (Kd.int .i64) 2 wc w.heap.size (fun _ => True) (.slice Ao13 t1282.length co13) t1282) ∧ Aside0 (Kd.R k59 59 wc w.heap.size (fun k_ => some k_ ≠ ((.slice Ao12 t1281.length co12) : Value).ownBlock) v1289 t1287) ∧ Aside0 (Below w.heap.size w wc))
 case first =>
  have H := HC10.out
  clear HC10
  by_cases c21 : t1288 = t1292
  rotate_left
  ·rw [if_neg c21] at H
   have c21b0 : (t1288 == t1292) = false := beq_eq_false_iff_ne.mpr c21
   have c21b1 : (t1288 != t1292) = true := bne_iff_ne.mpr c21
   (first | rw [c21b0] | (simp only [i64_w, i32_w]; rw [c21b0]) | skip)
   have H' := aM H
   clear H
   go_wp2
   go_meet
   case rel => exact ⟨_, (true), zr, H', ⟨by first | omega | exact Nat.le_refl _⟩, ⟨by (with_reducible repeat (first | apply Kd.R_alloc | apply Kd.R_drewN | apply Kd.R_drew)); exact Kd.R_mono HO1284.out (fun _ hk => hk.1.1.1.2)⟩, ⟨by (with_reducible repeat (first | apply Kd.R_alloc | apply Kd.R_drewN | apply Kd.R_drew)); exact Kd.R_mono HO1286.out (fun _ hk => trivial)⟩, ⟨by (with_reducible repeat (first | apply Kd.R_alloc | apply Kd.R_drewN | apply Kd.R_drew)); exact Kd.R_mono HO1290.out (fun _ hk => hk.1.1.1.2)⟩, ⟨zb⟩⟩
  rw [if_pos c21] at H
  have c21b0 : (t1288 == t1292) = true := beq_iff_eq.mpr c21
  have c21b1 : (t1288 != t1292) = false := bne_eq_false_iff_eq.mpr c21
  clear c21
  (first | rw [c21b0] | (simp only [i64_w, i32_w]; rw [c21b0]) | skip)
  replace H := Option.bind_eq_some_iff.mp H
  obtain ⟨t1309, A220, H⟩ := H
  replace H : (if t1309 = true then (if t1302 = t1306 then ((laws_likeInts.f k t1301 t1305).bind fun t1310 => (if t1310 = true then ((impl_IsRegion.f k t1281).bind fun t1311 => ((spec_IsRegion.f k t1281).bind fun t1312 => (laws_FnCut.j0 k t1281 t1282 t1287 t1288 (t1311 != t1312)))) else (laws_FnCut.j0 k t1281 t1282 t1287 t1288 true))) else (laws_FnCut.j0 k t1281 t1282 t1287 t1288 true)) else (laws_FnCut.j0 k t1281 t1282 t1287 t1288 true)) = some r := H
  have A22 := aM A220
  clear A220
  by_cases c23 : t1309 = true
  rotate_left
  ·replace c23 := Bool.eq_false_iff.mpr c23
   subst c23
   have H1 : (laws_FnCut.j0 k t1281 t1282 t1287 t1288 true) = some r := by rw [if_neg (show ¬ (false = true) by decide)] at H; exact H
   clear H
   have H := H1
   clear H1
   have H' := aM H
   clear H
   obtain ⟨Ao41, co41, eo41⟩ := Kd.R_slice HO1290.out
   subst eo41
   obtain ⟨Ao42, co42, eo42⟩ := Kd.R_slice HO1294.out
   subst eo42
   go_wp2_with (first | (go_at_call 60; (with_reducible refine (laws_likeCells.calls k _ _ t1287 _ _ t1291 false _ ?side1 ?side2 ?side3 ?side4 A22.out).mono ?_); (case side1 => repeat (first | exact (Kd.R_reads' HO1290.out).2.2 | (with_reducible refine Kd.C_alloc ?_ _) | (with_reducible refine Kd.C_drewN ?_ _) | (with_reducible refine Kd.C_drew ?_))); (case side2 => exact (Kd.R_reads' HO1290.out).2.1); (case side3 => repeat (first | exact (Kd.R_reads' HO1294.out).2.2 | (with_reducible refine Kd.C_alloc ?_ _) | (with_reducible refine Kd.C_drewN ?_ _) | (with_reducible refine Kd.C_drew ?_))); (case side4 => exact (Kd.R_reads' HO1294.out).2.1); rintro e w' ⟨rfl, ⟨nd, rfl⟩⟩))
   go_meet
   case rel => exact ⟨_, (true), zr, H', ⟨by first | omega | exact Nat.le_refl _⟩, ⟨by (with_reducible repeat (first | apply Kd.R_alloc | apply Kd.R_drewN | apply Kd.R_drew)); exact Kd.R_mono HO1284.out (fun _ hk => hk.1.1.1.2)⟩, ⟨by (with_reducible repeat (first | apply Kd.R_alloc | apply Kd.R_drewN | apply Kd.R_drew)); exact Kd.R_mono HO1286.out (fun _ hk => trivial)⟩, ⟨by (with_reducible repeat (first | apply Kd.R_alloc | apply Kd.R_drewN | apply Kd.R_drew)); exact Kd.R_mono HO1290.out (fun _ hk => hk.1.1.1.2)⟩, ⟨zb⟩⟩
  subst c23
  have H1 : (if t1302 = t1306 then ((laws_likeInts.f k t1301 t1305).bind fun t1310 => (if t1310 = true then ((impl_IsRegion.f k t1281).bind fun t1311 => ((spec_IsRegion.f k t1281).bind fun t1312 => (laws_FnCut.j0 k t1281 t1282 t1287 t1288 (t1311 != t1312)))) else (laws_FnCut.j0 k t1281 t1282 t1287 t1288 true))) else (laws_FnCut.j0 k t1281 t1282 t1287 t1288 true)) = some r := by rw [if_pos rfl] at H; exact H
  clear H
  have H := H1
  clear H1
  by_cases c24 : t1302 = t1306
  rotate_left
  ·rw [if_neg c24] at H
   have c24b0 : (t1302 == t1306) = false := beq_eq_false_iff_ne.mpr c24
   have c24b1 : (t1302 != t1306) = true := bne_iff_ne.mpr c24
   have H' := aM H
   clear H
   obtain ⟨Ao39, co39, eo39⟩ := Kd.R_slice HO1290.out
   subst eo39
   obtain ⟨Ao40, co40, eo40⟩ := Kd.R_slice HO1294.out
   subst eo40
   go_wp2_with (first | (go_at_call 60; (with_reducible refine (laws_likeCells.calls k _ _ t1287 _ _ t1291 true _ ?side1 ?side2 ?side3 ?side4 A22.out).mono ?_); (case side1 => repeat (first | exact (Kd.R_reads' HO1290.out).2.2 | (with_reducible refine Kd.C_alloc ?_ _) | (with_reducible refine Kd.C_drewN ?_ _) | (with_reducible refine Kd.C_drew ?_))); (case side2 => exact (Kd.R_reads' HO1290.out).2.1); (case side3 => repeat (first | exact (Kd.R_reads' HO1294.out).2.2 | (with_reducible refine Kd.C_alloc ?_ _) | (with_reducible refine Kd.C_drewN ?_ _) | (with_reducible refine Kd.C_drew ?_))); (case side4 => exact (Kd.R_reads' HO1294.out).2.1); rintro e w' ⟨rfl, ⟨nd, rfl⟩⟩))
   go_meet
   case rel => exact ⟨_, (true), zr, H', ⟨by first | omega | exact Nat.le_refl _⟩, ⟨by (with_reducible repeat (first | apply Kd.R_alloc | apply Kd.R_drewN | apply Kd.R_drew)); exact Kd.R_mono HO1284.out (fun _ hk => hk.1.1.1.2)⟩, ⟨by (with_reducible repeat (first | apply Kd.R_alloc | apply Kd.R_drewN | apply Kd.R_drew)); exact Kd.R_mono HO1286.out (fun _ hk => trivial)⟩, ⟨by (with_reducible repeat (first | apply Kd.R_alloc | apply Kd.R_drewN | apply Kd.R_drew)); exact Kd.R_mono HO1290.out (fun _ hk => hk.1.1.1.2)⟩, ⟨zb⟩⟩
  rw [if_pos c24] at H
  have c24b0 : (t1302 == t1306) = true := beq_iff_eq.mpr c24
  have c24b1 : (t1302 != t1306) = false := bne_eq_false_iff_eq.mpr c24
  clear c24
  replace H := Option.bind_eq_some_iff.mp H
  obtain ⟨t1310, A250, H⟩ := H
  replace H : (if t1310 = true then ((impl_IsRegion.f k t1281).bind fun t1311 => ((spec_IsRegion.f k t1281).bind fun t1312 => (laws_FnCut.j0 k t1281 t1282 t1287 t1288 (t1311 != t1312)))) else (laws_FnCut.j0 k t1281 t1282 t1287 t1288 true)) = some r := H
  have A25 := aM A250
  clear A250
  by_cases c26 : t1310 = true
  rotate_left
  ·replace c26 := Bool.eq_false_iff.mpr c26
   subst c26
   have H1 : (laws_FnCut.j0 k t1281 t1282 t1287 t1288 true) = some r := by rw [if_neg (show ¬ (false = true) by decide)] at H; exact H
   clear H
   have H := H1
   clear H1
   have H' := aM H
   clear H
   obtain ⟨Ao35, co35, eo35⟩ := Kd.R_slice HO1290.out
   subst eo35
   obtain ⟨Ao36, co36, eo36⟩ := Kd.R_slice HO1294.out
   subst eo36
   go_wp2_with (first | (go_at_call 60; (with_reducible refine (laws_likeCells.calls k _ _ t1287 _ _ t1291 true _ ?side1 ?side2 ?side3 ?side4 A22.out).mono ?_); (case side1 => repeat (first | exact (Kd.R_reads' HO1290.out).2.2 | (with_reducible refine Kd.C_alloc ?_ _) | (with_reducible refine Kd.C_drewN ?_ _) | (with_reducible refine Kd.C_drew ?_))); (case side2 => exact (Kd.R_reads' HO1290.out).2.1); (case side3 => repeat (first | exact (Kd.R_reads' HO1294.out).2.2 | (with_reducible refine Kd.C_alloc ?_ _) | (with_reducible refine Kd.C_drewN ?_ _) | (with_reducible refine Kd.C_drew ?_))); (case side4 => exact (Kd.R_reads' HO1294.out).2.1); rintro e w' ⟨rfl, ⟨nd, rfl⟩⟩; obtain ⟨Ao37, co37, eo37⟩ := Kd.R_slice HO1304.out; subst eo37; obtain ⟨Ao38, co38, eo38⟩ := Kd.R_slice HO1308.out; subst eo38) | (go_at_call 61; (with_reducible refine (laws_likeInts.calls k _ _ t1301 _ _ t1305 false _ ?side1 ?side2 ?side3 ?side4 A25.out).mono ?_); (case side1 => repeat (first | exact (Kd.R_reads' HO1304.out).2.2 | (with_reducible refine Kd.C_alloc ?_ _) | (with_reducible refine Kd.C_drewN ?_ _) | (with_reducible refine Kd.C_drew ?_))); (case side2 => exact (Kd.R_reads' HO1304.out).2.1); (case side3 => repeat (first | exact (Kd.R_reads' HO1308.out).2.2 | (with_reducible refine Kd.C_alloc ?_ _) | (with_reducible refine Kd.C_drewN ?_ _) | (with_reducible refine Kd.C_drew ?_))); (case side4 => exact (Kd.R_reads' HO1308.out).2.1); rintro e w' ⟨rfl, ⟨nd, rfl⟩⟩))
   go_meet
   case rel => exact ⟨_, (true), zr, H', ⟨by first | omega | exact Nat.le_refl _⟩, ⟨by (with_reducible repeat (first | apply Kd.R_alloc | apply Kd.R_drewN | apply Kd.R_drew)); exact Kd.R_mono HO1284.out (fun _ hk => hk.1.1.1.2)⟩, ⟨by (with_reducible repeat (first | apply Kd.R_alloc | apply Kd.R_drewN | apply Kd.R_drew)); exact Kd.R_mono HO1286.out (fun _ hk => trivial)⟩, ⟨by (with_reducible repeat (first | apply Kd.R_alloc | apply Kd.R_drewN | apply Kd.R_drew)); exact Kd.R_mono HO1290.out (fun _ hk => hk.1.1.1.2)⟩, ⟨zb⟩⟩
  subst c26
  have H1 : ((impl_IsRegion.f k t1281).bind fun t1311 => ((spec_IsRegion.f k t1281).bind fun t1312 => (laws_FnCut.j0 k t1281 t1282 t1287 t1288 (t1311 != t1312)))) = some r := by rw [if_pos rfl] at H; exact H
  clear H
  have H := H1
  clear H1
  replace H := Option.bind_eq_some_iff.mp H
  obtain ⟨t1311, A270, H⟩ := H
  replace H : ((spec_IsRegion.f k t1281).bind fun t1312 => (laws_FnCut.j0 k t1281 t1282 t1287 t1288 (t1311 != t1312))) = some r := H
  have A27 := aM A270
  clear A270
  replace H := Option.bind_eq_some_iff.mp H
  obtain ⟨t1312, A280, H⟩ := H
  replace H : (laws_FnCut.j0 k t1281 t1282 t1287 t1288 (t1311 != t1312)) = some r := H
  have A28 := aM A280
  clear A280
  have H' := aM H
  clear H
  obtain ⟨Ao29, co29, eo29⟩ := Kd.R_slice HO1290.out
  subst eo29
  obtain ⟨Ao30, co30, eo30⟩ := Kd.R_slice HO1294.out
  subst eo30
  go_wp2_with (first | (go_at_call 60; (with_reducible refine (laws_likeCells.calls k _ _ t1287 _ _ t1291 true _ ?side1 ?side2 ?side3 ?side4 A22.out).mono ?_); (case side1 => repeat (first | exact (Kd.R_reads' HO1290.out).2.2 | (with_reducible refine Kd.C_alloc ?_ _) | (with_reducible refine Kd.C_drewN ?_ _) | (with_reducible refine Kd.C_drew ?_))); (case side2 => exact (Kd.R_reads' HO1290.out).2.1); (case side3 => repeat (first | exact (Kd.R_reads' HO1294.out).2.2 | (with_reducible refine Kd.C_alloc ?_ _) | (with_reducible refine Kd.C_drewN ?_ _) | (with_reducible refine Kd.C_drew ?_))); (case side4 => exact (Kd.R_reads' HO1294.out).2.1); rintro e w' ⟨rfl, ⟨nd, rfl⟩⟩; obtain ⟨Ao31, co31, eo31⟩ := Kd.R_slice HO1304.out; subst eo31; obtain ⟨Ao32, co32, eo32⟩ := Kd.R_slice HO1308.out; subst eo32) | (go_at_call 61; (with_reducible refine (laws_likeInts.calls k _ _ t1301 _ _ t1305 true _ ?side1 ?side2 ?side3 ?side4 A25.out).mono ?_); (case side1 => repeat (first | exact (Kd.R_reads' HO1304.out).2.2 | (with_reducible refine Kd.C_alloc ?_ _) | (with_reducible refine Kd.C_drewN ?_ _) | (with_reducible refine Kd.C_drew ?_))); (case side2 => exact (Kd.R_reads' HO1304.out).2.1); (case side3 => repeat (first | exact (Kd.R_reads' HO1308.out).2.2 | (with_reducible refine Kd.C_alloc ?_ _) | (with_reducible refine Kd.C_drewN ?_ _) | (with_reducible refine Kd.C_drew ?_))); (case side4 => exact (Kd.R_reads' HO1308.out).2.1); rintro e w' ⟨rfl, ⟨nd, rfl⟩⟩) | (go_at_call 62; (with_reducible refine (impl_IsRegion.calls k _ _ t1281 t1311 _ ?side1 ?side2 A27.out).mono ?_); (case side1 => repeat (first | exact (Kd.R_reads' HO1284.out).2.2 | (with_reducible refine Kd.C_alloc ?_ _) | (with_reducible refine Kd.C_drewN ?_ _) | (with_reducible refine Kd.C_drew ?_))); (case side2 => exact (Kd.R_reads' HO1284.out).2.1); rintro e w33 ⟨rfl, hb⟩; have n0_ := aM (Kd.R_below (mR_ HO1284.out) hb); have n1_ := aM (Kd.R_below (mR_ HO1286.out) hb); have n2_ := aM (Kd.R_below (mR_ HO1290.out) hb); have n3_ := aM (Kd.R_below (mR_ HO1294.out) hb); have n4_ := aM (Kd.R_below (mR_ HO1298.out) hb); have n5_ := aM (Kd.R_below (mR_ HO1300.out) hb); have n6_ := aM (Kd.R_below (mR_ HO1304.out) hb); have n7_ := aM (Kd.R_below (mR_ HO1308.out) hb); have n8_ := aM (below_step zb hb); clear HO1284; clear HO1286; clear HO1290; clear HO1294; clear HO1298; clear HO1300; clear HO1304; clear HO1308; clear HB; have HO1284 := n0_; have HO1286 := n1_; have HO1290 := n2_; have HO1294 := n3_; have HO1298 := n4_; have HO1300 := n5_; have HO1304 := n6_; have HO1308 := n7_; have HB := n8_; clear n0_ n1_ n2_ n3_ n4_ n5_ n6_ n7_ n8_; (try clear hb); (try clear hb2); (try clear hk); (try clear hi)) | (go_at_call 63; (with_reducible refine (spec_IsRegion.calls k _ _ t1281 t1312 _ ?side1 ?side2 A28.out).mono ?_); (case side1 => repeat (first | exact (Kd.R_reads' HO1284.out).2.2 | (with_reducible refine Kd.C_alloc ?_ _) | (with_reducible refine Kd.C_drewN ?_ _) | (with_reducible refine Kd.C_drew ?_))); (case side2 => exact (Kd.R_reads' HO1284.out).2.1); rintro e w34 ⟨rfl, hb⟩; have n0_ := aM (Kd.R_below (mR_ HO1284.out) hb); have n1_ := aM (Kd.R_below (mR_ HO1286.out) hb); have n2_ := aM (Kd.R_below (mR_ HO1290.out) hb); have n3_ := aM (Kd.R_below (mR_ HO1294.out) hb); have n4_ := aM (Kd.R_below (mR_ HO1298.out) hb); have n5_ := aM (Kd.R_below (mR_ HO1300.out) hb); have n6_ := aM (Kd.R_below (mR_ HO1304.out) hb); have n7_ := aM (Kd.R_below (mR_ HO1308.out) hb); have n8_ := aM (below_step zb hb); clear HO1284; clear HO1286; clear HO1290; clear HO1294; clear HO1298; clear HO1300; clear HO1304; clear HO1308; clear HB; have HO1284 := n0_; have HO1286 := n1_; have HO1290 := n2_; have HO1294 := n3_; have HO1298 := n4_; have HO1300 := n5_; have HO1304 := n6_; have HO1308 := n7_; have HB := n8_; clear n0_ n1_ n2_ n3_ n4_ n5_ n6_ n7_ n8_; (try clear hb); (try clear hb2); (try clear hk); (try clear hi)))
  go_meet
  case rel => exact ⟨_, ((t1311 != t1312)), zr, H', ⟨by first | omega | exact Nat.le_refl _⟩, ⟨by (with_reducible repeat (first | apply Kd.R_alloc | apply Kd.R_drewN | apply Kd.R_drew)); exact Kd.R_mono HO1284.out (fun _ hk => hk.1.1.1.2)⟩, ⟨by (with_reducible repeat (first | apply Kd.R_alloc | apply Kd.R_drewN | apply Kd.R_drew)); exact Kd.R_mono HO1286.out (fun _ hk => trivial)⟩, ⟨by (with_reducible repeat (first | apply Kd.R_alloc | apply Kd.R_drewN | apply Kd.R_drew)); exact Kd.R_mono HO1290.out (fun _ hk => hk.1.1.1.2)⟩, ⟨zb⟩⟩
 case rest =>
  clear HC10
  try clear c1
  try clear c2
  try clear p2
  try clear c3
  try clear c5
  try clear c12
  try clear c21
  try clear c21b0
  try clear c21b1
  try clear c23
  try clear c24
  try clear c24b0
  try clear c24b1
  try clear c26
  try clear c37
  obtain ⟨kq, x81_9, rfl, HA, HJ9, HO_3, HO_4, HO_5, HB⟩ := hcut
  cases kq with
  | zero => exact absurd HA.out (by simp [laws_FnCut.j0])
  | succ kj9 =>
   have H := HA.out
   clear HA
   simp only [laws_FnCut.j0] at H
   by_cases c43 : x81_9 = true
   ·subst c43
    have H1 : (some false) = some r := by rw [if_pos rfl] at H; exact H
    clear H
    have H := H1
    clear H1
    obtain rfl := Option.some.inj H
    go_wp2
    go_ret
    exact ⟨zw, zb⟩
   replace c43 := Bool.eq_false_iff.mpr c43
   subst c43
   have H1 : (if t1288 = 0 then ((impl_SetToCells.f kj9 t1281 t1282).bind fun bt1313 => (if bt1313.2 = 0 then (laws_FnCut.j1 kj9 t1281 t1282 t1287 bt1313.1 ((t1287.length : Int) != (wrap64 ((t1281.length : Int) - (t1282.length : Int))))) else (laws_FnCut.j1 kj9 t1281 t1282 t1287 bt1313.1 true))) else (some true)) = some r := by rw [if_neg (show ¬ (false = true) by decide)] at H; exact H
   clear H
   have H := H1
   clear H1
   by_cases c44 : t1288 = 0
   rotate_left
   ·rw [if_neg c44] at H
    have c44b0 : (t1288 == 0) = false := beq_eq_false_iff_ne.mpr c44
    have c44b1 : (t1288 != 0) = true := bne_iff_ne.mpr c44
    obtain rfl := Option.some.inj H
    go_wp2
    go_ret
    exact ⟨zw, zb⟩
   rw [if_pos c44] at H
   have c44b0 : (t1288 == 0) = true := beq_iff_eq.mpr c44
   have c44b1 : (t1288 != 0) = false := bne_eq_false_iff_eq.mpr c44
   clear c44
   replace H := Option.bind_eq_some_iff.mp H
   obtain ⟨⟨t1313, t1314⟩, A450, H⟩ := H
   replace H : (if t1314 = 0 then (laws_FnCut.j1 kj9 t1281 t1282 t1287 t1313 ((t1287.length : Int) != (wrap64 ((t1281.length : Int) - (t1282.length : Int))))) else (laws_FnCut.j1 kj9 t1281 t1282 t1287 t1313 true)) = some r := H
   have A45 := aM A450
   clear A450
   have HC46 := aM H
   clear H
   go_upto_region 14 with (first | ((with_reducible refine gate_callee (f := 64) rfl ?_); refine goesL_ (some 87) rfl rfl Try.func64 (by kernel_rfl) rfl #[.slice Ao12 t1281.length co12, .slice Ao13 t1282.length co13] rfl zm ?_; (with_reducible refine (impl_SetToCells.calls kj9 _ _ t1281 _ _ t1282 t1313 t1314 _ ?side1 ?side2 ?side3 ?side4 A45.out).mono ?_); (case side1 => repeat (first | exact (Kd.R_reads' HO_3.out).2.2 | (with_reducible refine Kd.C_alloc ?_ _) | (with_reducible refine Kd.C_drewN ?_ _) | (with_reducible refine Kd.C_drew ?_))); (case side2 => exact (Kd.R_reads' HO_3.out).2.1); (case side3 => repeat (first | exact (Kd.R_reads' HO_4.out).2.2 | (with_reducible refine Kd.C_alloc ?_ _) | (with_reducible refine Kd.C_drewN ?_ _) | (with_reducible refine Kd.C_drew ?_))); (case side4 => exact (Kd.R_reads' HO_4.out).2.1); rintro e w47 ⟨v1315, rfl, ho0, hb⟩; refine ⟨_, rfl, ?_⟩; have n0_ := aM (Kd.R_elder' (mR_ HO_3.out) (Kd.R_base ho0) hb); have n1_ := aM (Kd.R_below (mR_ HO_4.out) hb); have n2_ := aM (Kd.R_elder' (mR_ HO_5.out) (Kd.R_base ho0) hb); have n3_ := aM (Kd.R_lower (Kd.R_new' (Kd.R_new' ho0 (Kd.R_lt (mR_ HO_3.out))) (Kd.R_lt (mR_ HO_5.out))) (below_size zb)); have n4_ := aM (below_step zb hb); clear HO_3; clear HO_4; clear HO_5; clear HB; have HO_3 := n0_; have HO_4 := n1_; have HO_5 := n2_; have HO1316 := n3_; have HB := n4_; clear n0_ n1_ n2_ n3_ n4_; (try clear hb); (try clear hb2); (try clear hk); (try clear hi); (try clear ho0)))
   (try simp only [Act.put, xA, xB, xC])
   go_cut [101] (fun v101 wc => ∃ (kq : Nat) (x101_45 : Bool), v101 = .bool x101_45 ∧ Aside0 (laws_FnCut.j1 kq t1281 t1282 t1287 t1313 x101_45 = some r) ∧ Aside0 (kq ≤ kj9) ∧ Aside0 (Kd.R k59 59 wc w.heap.size (fun k_ => some k_ ≠ (v1289 : Value).ownBlock ∧ some k_ ≠ (v1315 : Value).ownBlock) (.slice Ao12 t1281.length co12) t1281) ∧ Aside0 (Kd.R (Kd.int .i64) 2 wc w.heap.size (fun _ => True) (.slice Ao13 t1282.length co13) t1282) ∧ Aside0 (Kd.R k59 59 wc w.heap.size (fun k_ => some k_ ≠ ((.slice Ao12 t1281.length co12) : Value).ownBlock ∧ some k_ ≠ (v1315 : Value).ownBlock) v1289 t1287) ∧ Aside0 (Kd.R k59 59 wc w.heap.size (fun k_ => some k_ ≠ ((.slice Ao12 t1281.length co12) : Value).ownBlock ∧ some k_ ≠ (v1289 : Value).ownBlock) v1315 t1313) ∧ Aside0 (Below w.heap.size w wc))
   case first =>
    have H := HC46.out
    clear HC46
    by_cases c48 : t1314 = 0
    rotate_left
    ·rw [if_neg c48] at H
     have c48b0 : (t1314 == 0) = false := beq_eq_false_iff_ne.mpr c48
     have c48b1 : (t1314 != 0) = true := bne_iff_ne.mpr c48
     (first | rw [c48b0] | (simp only [i64_w, i32_w]; rw [c48b0]) | skip)
     have H' := aM H
     clear H
     go_wp2
     go_meet
     case rel => exact ⟨_, (true), zr, H', ⟨by have := HJ9.out; first | omega | exact Nat.le_refl _⟩, ⟨mR_ HO_3.out⟩, ⟨mR_ HO_4.out⟩, ⟨mR_ HO_5.out⟩, ⟨by (with_reducible repeat (first | apply Kd.R_alloc | apply Kd.R_drewN | apply Kd.R_drew)); exact Kd.R_mono HO1316.out (fun _ hk => ⟨hk.1.2, hk.2⟩)⟩, ⟨zb⟩⟩
    rw [if_pos c48] at H
    have c48b0 : (t1314 == 0) = true := beq_iff_eq.mpr c48
    have c48b1 : (t1314 != 0) = false := bne_eq_false_iff_eq.mpr c48
    clear c48
    (first | rw [c48b0] | (simp only [i64_w, i32_w]; rw [c48b0]) | skip)
    have H' := aM H
    clear H
    obtain ⟨Ao49, co49, eo49⟩ := Kd.R_slice HO_5.out
    subst eo49
    go_wp2
    go_meet
    case rel => exact ⟨_, (((t1287.length : Int) != (wrap64 ((t1281.length : Int) - (t1282.length : Int))))), zr, H', ⟨by have := HJ9.out; first | omega | exact Nat.le_refl _⟩, ⟨mR_ HO_3.out⟩, ⟨mR_ HO_4.out⟩, ⟨mR_ HO_5.out⟩, ⟨by (with_reducible repeat (first | apply Kd.R_alloc | apply Kd.R_drewN | apply Kd.R_drew)); exact Kd.R_mono HO1316.out (fun _ hk => ⟨hk.1.2, hk.2⟩)⟩, ⟨zb⟩⟩
   case rest =>
    clear HC46
    try clear c1
    try clear c2
    try clear p2
    try clear c3
    try clear c4
    try clear c5
    try clear c6
    try clear p6
    try clear c12
    try clear c21
    try clear c21b0
    try clear c21b1
    try clear c23
    try clear c24
    try clear c24b0
    try clear c24b1
    try clear c26
    try clear c37
    try clear c43
    try clear c44
    try clear c44b0
    try clear c44b1
    try clear c48
    try clear c48b0
    try clear c48b1
    try clear p2
    obtain ⟨kq, x101_45, rfl, HA, HJ45, HO_3, HO_4, HO_5, HO_15, HB⟩ := hcut
    cases kq with
    | zero => exact absurd HA.out (by simp [laws_FnCut.j1])
    | succ kj45 =>
     have H := HA.out
     clear HA
     simp only [laws_FnCut.j1] at H
     by_cases c50 : x101_45 = true
     ·subst c50
      have H1 : (some false) = some r := by rw [if_pos rfl] at H; exact H
      clear H
      have H := H1
      clear H1
      obtain rfl := Option.some.inj H
      go_wp2
      go_ret
      exact ⟨zw, zb⟩
     replace c50 := Bool.eq_false_iff.mpr c50
     subst c50
     have H1 : (if (t1282.length : Int) = 0 then ((laws_likeCells.f kj45 t1287 t1281).bind fun t1317 => (some t1317)) else ((impl_CellsToSet.f kj45 t1281 t1313).bind fun bt1318 => (if bt1318.2 = 0 then ((laws_likeInts.f kj45 bt1318.1 t1282).bind fun t1322 => (some t1322)) else (some false)))) = some r := by rw [if_neg (show ¬ (false = true) by decide)] at H; exact H
     clear H
     have H := H1
     clear H1
     by_cases c51 : (t1282.length : Int) = 0
     ·rw [if_pos c51] at H
      have c51b0 : ((t1282.length : Int) == 0) = true := beq_iff_eq.mpr c51
      have c51b1 : ((t1282.length : Int) != 0) = false := bne_eq_false_iff_eq.mpr c51
      clear c51
      replace H := Option.bind_eq_some_iff.mp H
      obtain ⟨t1317, A520, H⟩ := H
      replace H : (some t1317) = some r := H
      have A52 := aM A520
      clear A520
      obtain rfl := Option.some.inj H
      obtain ⟨Ao53, co53, eo53⟩ := Kd.R_slice HO_5.out
      subst eo53
      go_wp2_with (first | ((with_reducible refine gate_callee (f := 60) rfl ?_); refine goesL_ (some 107) rfl rfl Try.func60 (by kernel_rfl) rfl #[.slice Ao53 t1287.length co53, .slice Ao12 t1281.length co12] rfl zm ?_; (with_reducible refine (laws_likeCells.calls kj45 _ _ t1287 _ _ t1281 t1317 _ ?side1 ?side2 ?side3 ?side4 A52.out).mono ?_); (case side1 => repeat (first | exact (Kd.R_reads' HO_5.out).2.2 | (with_reducible refine Kd.C_alloc ?_ _) | (with_reducible refine Kd.C_drewN ?_ _) | (with_reducible refine Kd.C_drew ?_))); (case side2 => exact (Kd.R_reads' HO_5.out).2.1); (case side3 => repeat (first | exact (Kd.R_reads' HO_3.out).2.2 | (with_reducible refine Kd.C_alloc ?_ _) | (with_reducible refine Kd.C_drewN ?_ _) | (with_reducible refine Kd.C_drew ?_))); (case side4 => exact (Kd.R_reads' HO_3.out).2.1); rintro e w' ⟨rfl, ⟨nd, rfl⟩⟩; refine ⟨_, rfl, ?_⟩))
      go_ret
      exact ⟨zw, zb⟩
     rw [if_neg c51] at H
     have c51b0 : ((t1282.length : Int) == 0) = false := beq_eq_false_iff_ne.mpr c51
     have c51b1 : ((t1282.length : Int) != 0) = true := bne_iff_ne.mpr c51
     have c51b2 : ¬ (t1282 = []) := fun h_ => c51 (by rw [h_]; rfl)
     replace H := Option.bind_eq_some_iff.mp H
     obtain ⟨⟨t1318, t1319⟩, A540, H⟩ := H
     replace H : (if t1319 = 0 then ((laws_likeInts.f kj45 t1318 t1282).bind fun t1322 => (some t1322)) else (some false)) = some r := H
     have A54 := aM A540
     clear A540
     by_cases c55 : t1319 = 0
     rotate_left
     ·rw [if_neg c55] at H
      have c55b0 : (t1319 == 0) = false := beq_eq_false_iff_ne.mpr c55
      have c55b1 : (t1319 != 0) = true := bne_iff_ne.mpr c55
      obtain rfl := Option.some.inj H
      obtain ⟨Ao60, co60, eo60⟩ := Kd.R_slice HO_15.out
      subst eo60
      go_wp2_with (first | ((with_reducible refine gate_callee (f := 58) rfl ?_); refine goesL_ (some 111) rfl rfl Try.func58 (by kernel_rfl) rfl #[.slice Ao12 t1281.length co12, .slice Ao60 t1313.length co60] rfl zm ?_; (with_reducible refine (impl_CellsToSet.calls kj45 _ _ t1281 _ _ t1313 t1318 t1319 _ ?side1 ?side2 ?side3 ?side4 A54.out).mono ?_); (case side1 => repeat (first | exact (Kd.R_reads' HO_3.out).2.2 | (with_reducible refine Kd.C_alloc ?_ _) | (with_reducible refine Kd.C_drewN ?_ _) | (with_reducible refine Kd.C_drew ?_))); (case side2 => exact (Kd.R_reads' HO_3.out).2.1); (case side3 => repeat (first | exact (Kd.R_reads' HO_15.out).2.2 | (with_reducible refine Kd.C_alloc ?_ _) | (with_reducible refine Kd.C_drewN ?_ _) | (with_reducible refine Kd.C_drew ?_))); (case side4 => exact (Kd.R_reads' HO_15.out).2.1); rintro e w61 ⟨v1320, rfl, ho0, hb⟩; refine ⟨_, rfl, ?_⟩; have n0_ := aM (Kd.R_below (mR_ HO_3.out) hb); have n1_ := aM (Kd.R_elder' (mR_ HO_4.out) (Kd.R_base ho0) hb); have n2_ := aM (Kd.R_below (mR_ HO_5.out) hb); have n3_ := aM (Kd.R_below (mR_ HO_15.out) hb); have n4_ := aM (Kd.R_lower (Kd.R_new' ho0 (Kd.R_lt (mR_ HO_4.out))) (below_size zb)); have n5_ := aM (below_step zb hb); clear HO_3; clear HO_4; clear HO_5; clear HO_15; clear HB; have HO_3 := n0_; have HO_4 := n1_; have HO_5 := n2_; have HO_15 := n3_; have HO1321 := n4_; have HB := n5_; clear n0_ n1_ n2_ n3_ n4_ n5_; (try clear hb); (try clear hb2); (try clear hk); (try clear hi); (try clear ho0)))
      go_ret
      exact ⟨zw, zb⟩
     rw [if_pos c55] at H
     have c55b0 : (t1319 == 0) = true := beq_iff_eq.mpr c55
     have c55b1 : (t1319 != 0) = false := bne_eq_false_iff_eq.mpr c55
     clear c55
     replace H := Option.bind_eq_some_iff.mp H
     obtain ⟨t1322, A560, H⟩ := H
     replace H : (some t1322) = some r := H
     have A56 := aM A560
     clear A560
     obtain rfl := Option.some.inj H
     obtain ⟨Ao57, co57, eo57⟩ := Kd.R_slice HO_15.out
     subst eo57
     go_wp2_with (first | ((with_reducible refine gate_callee (f := 58) rfl ?_); refine goesL_ (some 111) rfl rfl Try.func58 (by kernel_rfl) rfl #[.slice Ao12 t1281.length co12, .slice Ao57 t1313.length co57] rfl zm ?_; (with_reducible refine (impl_CellsToSet.calls kj45 _ _ t1281 _ _ t1313 t1318 t1319 _ ?side1 ?side2 ?side3 ?side4 A54.out).mono ?_); (case side1 => repeat (first | exact (Kd.R_reads' HO_3.out).2.2 | (with_reducible refine Kd.C_alloc ?_ _) | (with_reducible refine Kd.C_drewN ?_ _) | (with_reducible refine Kd.C_drew ?_))); (case side2 => exact (Kd.R_reads' HO_3.out).2.1); (case side3 => repeat (first | exact (Kd.R_reads' HO_15.out).2.2 | (with_reducible refine Kd.C_alloc ?_ _) | (with_reducible refine Kd.C_drewN ?_ _) | (with_reducible refine Kd.C_drew ?_))); (case side4 => exact (Kd.R_reads' HO_15.out).2.1); rintro e w58 ⟨v1320, rfl, ho0, hb⟩; refine ⟨_, rfl, ?_⟩; have n0_ := aM (Kd.R_below (mR_ HO_3.out) hb); have n1_ := aM (Kd.R_elder' (mR_ HO_4.out) (Kd.R_base ho0) hb); have n2_ := aM (Kd.R_below (mR_ HO_5.out) hb); have n3_ := aM (Kd.R_below (mR_ HO_15.out) hb); have n4_ := aM (Kd.R_lower (Kd.R_new' ho0 (Kd.R_lt (mR_ HO_4.out))) (below_size zb)); have n5_ := aM (below_step zb hb); clear HO_3; clear HO_4; clear HO_5; clear HO_15; clear HB; have HO_3 := n0_; have HO_4 := n1_; have HO_5 := n2_; have HO_15 := n3_; have HO1321 := n4_; have HB := n5_; clear n0_ n1_ n2_ n3_ n4_ n5_; (try clear hb); (try clear hb2); (try clear hk); (try clear hi); (try clear ho0); obtain ⟨Ao59, co59, eo59⟩ := Kd.R_slice HO1321.out; subst eo59) | (go_at_call 61; (with_reducible refine (laws_likeInts.calls kj45 _ _ t1318 _ _ t1282 t1322 _ ?side1 ?side2 ?side3 ?side4 A56.out).mono ?_); (case side1 => repeat (first | exact (Kd.R_reads' HO1321.out).2.2 | (with_reducible refine Kd.C_alloc ?_ _) | (with_reducible refine Kd.C_drewN ?_ _) | (with_reducible refine Kd.C_drew ?_))); (case side2 => exact (Kd.R_reads' HO1321.out).2.1); (case side3 => repeat (first | exact (Kd.R_reads' HO_4.out).2.2 | (with_reducible refine Kd.C_alloc ?_ _) | (with_reducible refine Kd.C_drewN ?_ _) | (with_reducible refine Kd.C_drew ?_))); (case side4 => exact (Kd.R_reads' HO_4.out).2.1); rintro e w' ⟨rfl, ⟨nd, rfl⟩⟩))
     go_ret
     exact ⟨zw, zb⟩
end Go.Proofs.Ytabdmdkoffpppaa.F
end
section
namespace Go.Proofs.Ytabdmdkoffpppaa.Open
open Go.ChangeShapes Go.WideShapes Go.Deep Go.RowKit Go.Proofs.YtabdmdkoffpppaaW.PrintWords
def Opens {α : Type} (P : Program) (d : Kd α) (t : TypeId) (V : α → Prop) : Prop :=
  ∀ (H : Type) (enc : TypeId × Value → H) (w : World) (base : Nat) (spare : Nat → Bool) (held : Bool) (fuel : Nat) (cs : List Value) (x : DataW H × List MemPlace),
    DataW.trod enc P w base spare held fuel t cs = some x → ∃ a : α, d.K w a cs ∧ V a
theorem Opens.int {P : Program} {t : TypeId} {k : IntKind} (ht : P.underlying t = some (.int k)) : Opens P (Kd.int k) t (fun a => (Lit.int k a).wf = true) := by
  intro H enc w base spare held fuel cs x h
  obtain ⟨n, hcs, _, hw⟩ := DataW.trod_int ht h
  exact ⟨n, hcs, hw⟩
theorem Opens.bool {P : Program} {t : TypeId} (ht : P.underlying t = some .bool) : Opens P Kd.bool t (fun _ => True) := by
  intro H enc w base spare held fuel cs x h
  obtain ⟨b, hcs, _⟩ := DataW.trod_bool ht h
  exact ⟨b, hcs, trivial⟩
theorem Opens.slice {α : Type} [Inhabited α] {P : Program} {t e : TypeId} {d : Kd α} {V : α → Prop} (ht : P.underlying t = some (.slice e)) (hsz : P.cellsOf e = d.sz) (ho : Opens P d e V) :
    Opens P (Kd.slice e d) t (fun l => l.length ≤ 9223372036854775807 ∧ ∀ a ∈ l, V a) := by
  intro H enc w base spare held fuel cs x h
  rcases open_slice ht h with ⟨rfl, _⟩ | ⟨a, len, cap, m, n, D, Pl, rfl, hb, hl, hm, hmm, _, hi⟩
  · exact ⟨[], ⟨none, 0, rfl, Nat.le_refl _, rfl, by simp, fun hp => absurd hp (by simp)⟩, by simp, by simp⟩
  · have hlm : len ≤ m := by rw [hmm]; split <;> omega
    have hx : ∀ i, i < len → ∃ y : α, V y ∧ ∃ c : List Value, c.length = d.sz ∧ d.K w y c ∧ ∀ j u, c[j]? = some u → w.cell? (a.add (i * d.sz + j)) = some u := by
      intro i hil
      obtain ⟨cs', hc, ht'⟩ := hi i (by omega)
      obtain ⟨y, hk, hv⟩ := ho H enc w base spare held n cs' _ ht'
      obtain ⟨_, hcl, hat⟩ := World.cells?_some hc
      refine ⟨y, hv, cs', d.K_len hk, hk, fun j u hj => ?_⟩
      have hjl : j < cs'.length := (List.getElem?_eq_some_iff.1 hj).1
      have := hat j (by rw [hsz, ← d.K_len hk]; exact hjl)
      rw [Go.Deep.add_add, hsz] at this
      rw [this, hj]
    obtain ⟨f, hf⟩ := choose_lt hx
    have hlen : ((List.range len).map f).length = len := by simp
    refine ⟨(List.range len).map f, ⟨some a, cap, by rw [hlen], by rw [hlen]; exact hl, rfl, ?_, fun _ => ⟨a, rfl, fun j p hj => ?_⟩⟩, ?_⟩
    · rw [hlen]; unfold maxLen at hm; omega
    · have hjl : j < len := by
        have := (List.getElem?_eq_some_iff.1 hj).1
        rwa [hlen] at this
      have hp : f j = p := by
        rw [List.getElem?_map, List.getElem?_range hjl] at hj
        simpa using hj
      obtain ⟨_, c, h1, h2, h3⟩ := hf j hjl
      rw [hp] at h2
      exact ⟨c, h1, h2, h3⟩
    · refine ⟨by rw [hlen]; unfold maxLen at hm; omega, fun y hy => ?_⟩
      obtain ⟨i, hi', rfl⟩ := List.mem_map.1 hy
      exact (hf i (List.mem_range.1 hi')).1
theorem arg_open {α : Type} {P : Program} {t : TypeId} {d : Kd α} {V : α → Prop} (ho : Opens P d t V) {H : Type} {enc : TypeId × Value → H} {w : World} {base : Nat} {spare : Nat → Bool} {held : Bool} {v : Value} {x : DataW H} {p : List MemPlace}
    (h : DataW.Trod enc P w base spare held t v x p) : ∃ a : α, d.K w a v.cells.toList ∧ V a := by
  obtain ⟨fuel, hf⟩ := h
  exact ho _ _ _ _ _ _ _ _ _ hf
theorem slice_arg {α : Type} {d : Kd α} {e : Nat} {w : World} {l : List α} {a : Option Addr} {len cap : Nat} (h : (Kd.slice e d).K w l (Value.slice a len cap).cells.toList) : l.length = len ∧ l.length ≤ cap ∧ d.C w a l.length l := by
  obtain ⟨A, c, hcs, hl, hr⟩ := h
  simp [Value.cells] at hcs
  obtain ⟨rfl, rfl, rfl⟩ := hcs
  exact ⟨rfl, hl, hr⟩
end Go.Proofs.Ytabdmdkoffpppaa.Open
end
section
namespace Go.Proofs.Ytabdmdkoffpppaa.L
open Go.RowKit Go.Proofs.YtabdmdkoffpppaaW.PrintWords
theorem Ev.pos {α : Type} {c : Prop} [Decidable c] {f g : Nat → Option α} {r : α} (h : c) (e : Ev f r) : Ev (fun k => if c then f k else g k) r := by
  obtain ⟨K, e⟩ := e
  exact ⟨K, fun k hk => (if_pos h).trans (e k hk)⟩
theorem Ev.neg {α : Type} {c : Prop} [Decidable c] {f g : Nat → Option α} {r : α} (h : ¬ c) (e : Ev g r) : Ev (fun k => if c then f k else g k) r := by
  obtain ⟨K, e⟩ := e
  exact ⟨K, fun k hk => (if_neg h).trans (e k hk)⟩
theorem Ev.if_ {α : Type} {c : Prop} [Decidable c] {f g : Nat → Option α} {r s : α} (h : c → Ev f r) (h' : ¬ c → Ev g s) : Ev (fun k => if c then f k else g k) (if c then r else s) := by
  by_cases hc : c
  · rw [if_pos hc]; exact Ev.pos hc (h hc)
  · rw [if_neg hc]; exact Ev.neg hc (h' hc)
theorem Ev.of_eq {α : Type} {g : Nat → Option α} {r s : α} (h : Ev g r) (e : r = s) : Ev g s := e ▸ h
theorem Ev.bind0 {α β : Type} {o : Option α} {f : Nat → α → Option β} {a : α} {r : β} (h : o = some a) (k : Ev (fun n => f n a) r) : Ev (fun n => o.bind (f n)) r := by
  subst h
  exact k
theorem Ev.succ {α : Type} {g : Nat → Option α} {r : α} (h : Ev (fun k => g (k + 1)) r) : Ev g r := by
  obtain ⟨K, h⟩ := h
  refine ⟨K + 1, fun n hn => ?_⟩
  obtain ⟨m, rfl⟩ : ∃ m, n = m + 1 := ⟨n - 1, by omega⟩
  exact h m (by omega)
theorem w64 {n : Int} (h : -9223372036854775808 ≤ n) (h' : n ≤ 9223372036854775807) : wrap64 n = n := by
  unfold wrap64
  omega
theorem getD_at {α : Type} (pre suf : List α) (c d : α) : (pre ++ c :: suf).getD (pre.length : Int).toNat d = c := by
  simp [List.getD]
end Go.Proofs.Ytabdmdkoffpppaa.L
namespace Go.Proofs.Ytabdmdkoffpppaa.L
open Go.RowKit Go.Proofs.YtabdmdkoffpppaaW.PrintWords
theorem loop_list {α σ ρ : Type} (xs : List α) (l : Nat → Int → σ → Option ρ) (g : List α → List α → σ → ρ) (Inv : List α → σ → Prop)
    (hn : ∀ s, Inv xs s → Ev (fun k => l (k + 1) (xs.length : Int) s) (g xs [] s))
    (hs : ∀ (pre : List α) (c : α) (suf : List α) (s : σ), xs = pre ++ c :: suf → Inv pre s → (∀ s', Inv (pre ++ [c]) s' → Ev (fun k => l k ((pre.length : Int) + 1) s') (g (pre ++ [c]) suf s')) → Ev (fun k => l (k + 1) (pre.length : Int) s) (g pre (c :: suf) s)) :
    ∀ s, Inv [] s → Ev (fun k => l k 0 s) (g [] xs s) := by
  have key : ∀ (suf pre : List α), xs = pre ++ suf → ∀ s, Inv pre s → Ev (fun k => l k (pre.length : Int) s) (g pre suf s) := by
    intro suf
    induction suf with
    | nil =>
      intro pre hx s hi
      rw [List.append_nil] at hx
      subst hx
      exact Ev.succ (hn s hi)
    | cons c suf ih =>
      intro pre hx s hi
      refine Ev.succ (hs pre c suf s hx hi fun s' hi' => ?_)
      have := ih (pre ++ [c]) (by rw [hx]; simp) s' hi'
      rw [List.length_append] at this
      exact this
  intro s hi
  exact key xs [] rfl s hi
end Go.Proofs.Ytabdmdkoffpppaa.L
end
section
namespace Go.Proofs.Ytabdmdkoffpppaa.L
open Go.RowKit Go.Proofs.YtabdmdkoffpppaaW.PrintWords Go.Proofs.YtabdmdkoffpppaaW.PrintLast Go.Proofs.YtabdmdkoffpppaaW.PrintMore Go.Proofs.Ytabdmdkoffpppaa.F
set_option linter.unusedVariables false
set_option linter.unusedSimpArgs false
abbrev Cell := S59
theorem in_eq (a b c : Int) : spec_l01In.f a b c = some (decide (b ≤ a ∧ a ≤ c)) := by
  unfold spec_l01In.f
  by_cases h : a ≥ b
  · rw [if_pos h]; simp [show b ≤ a from h]
  · rw [if_neg h]; simp [show ¬ b ≤ a from h]
theorem within_eq (a b c : Int) : impl_within.f a b c = some (decide (b ≤ a ∧ a ≤ c)) := by
  unfold impl_within.f
  by_cases h : a ≥ b
  · rw [if_pos h]; simp [show b ≤ a from h]
  · rw [if_neg h]; simp [show ¬ b ≤ a from h]
def ok1 (n : Int) : Prop := -100 ≤ n ∧ n ≤ 100
instance (n : Int) : Decidable (ok1 n) := by unfold ok1; infer_instance
def okC (c : Cell) : Prop := ok1 c.f0 ∧ ok1 c.f1
instance (c : Cell) : Decidable (okC c) := by unfold okC; infer_instance
def ltC (a b : Cell) : Prop := a.f1 < b.f1 ∨ a.f1 = b.f1 ∧ a.f0 < b.f0
instance (a b : Cell) : Decidable (ltC a b) := by unfold ltC; infer_instance
theorem isCoordinate_eq (n : Int) : impl_isCoordinate.f n = some (decide (ok1 n)) := by
  unfold impl_isCoordinate.f
  rw [within_eq]
  rfl
end Go.Proofs.Ytabdmdkoffpppaa.L
end
