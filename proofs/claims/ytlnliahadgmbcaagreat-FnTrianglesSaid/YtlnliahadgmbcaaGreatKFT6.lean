/- The row of FnTriangles, with what it needs: text 7 of 13. -/
import Derived.Test.YtlnliahadgmbcaaGreatKFT5
set_option maxHeartbeats 8000000
set_option maxRecDepth 100000
section
namespace Go.Proofs.YtlnliahadgmbcaaGreat.F
open Go.RowKit Go.Proofs.YtlnliahadgmbcaaGreatW.PrintWords Go.Proofs.YtlnliahadgmbcaaGreatW.PrintLast Go.Proofs.YtlnliahadgmbcaaGreatW.PrintMore
attribute [local go_sem] max2_int min2_int max_two min_two max_three min_three max_four min_four
set_option linter.unusedVariables false
set_option linter.unusedSimpArgs false
theorem impl_IsShape.calls (k : Nat) (A0 : Option Addr) (c0 : Nat) (l0 : List (S25)) (r : Bool) (w : World) (hr0 : Kd.C k25 w A0 l0.length l0) (hc0 : l0.length ≤ c0) (h : impl_IsShape.f k l0 = some r) :
  Calls Tryz.prog 53 #[.slice A0 l0.length c0] w fun e w' => e = .returned (.bool r) ∧ Below w.heap.size w w' := by
 have hu25 := Tryz.underlying25
 have HR0 := aM hr0
 have HC0 := aM hc0
 clear hr0 hc0
 have HB := aM (Below.refl w.heap.size w)
 have H : (impl_IsShape.l0 k l0 l0 (l0.length : Int) 0) = some r := h
 clear h
 have H' := aM H
 clear H
 go_enter Tryz.func53, Tryz.ntmps53
 go_wp2
 go_loopg [7] k (fun kq v7 w' => ∃ (x7_1 : Int), v7 = .int .i64 x7_1 ∧ Aside0 (impl_IsShape.l0 kq l0 l0 (l0.length : Int) x7_1 = some r) ∧ Aside0 (kq ≤ k) ∧ Aside0 (Below w.heap.size w w'))
 case atStart => exact ⟨(0), zr, H', ⟨Nat.le_refl _⟩, ⟨zb⟩⟩
 case round =>
  clear H'
  obtain ⟨x7_1, rfl, HA, HK1, HB⟩ := hrel
  cases gk with
  | zero => exact absurd HA.out (by simp [impl_IsShape.l0])
  | succ k1 =>
   have H := HA.out
   clear HA
   simp only [impl_IsShape.l0] at H
   by_cases c2 : x7_1 < (l0.length : Int)
   rotate_left
   ·rw [if_neg c2] at H
    have c2b0 : decide (x7_1 < (l0.length : Int)) = false := decide_eq_false c2
    clear c2
    by_cases c37 : (l0.length : Int) ≥ 1
    ·rw [if_pos c37] at H
     have c37b0 : decide (1 ≤ (l0.length : Int)) = true := decide_eq_true c37
     have c37b1 : decide (1 ≤ l0.length) = true := decide_eq_true (by omega)
     clear c37
     obtain rfl := Option.some.inj H
     go_wp2
     go_ret
     exact ⟨zw, zb⟩
    rw [if_neg c37] at H
    have c37b0 : decide (1 ≤ (l0.length : Int)) = false := decide_eq_false c37
    have c37b1 : decide (1 ≤ l0.length) = false := decide_eq_false (by omega)
    clear c37
    obtain rfl := Option.some.inj H
    go_wp2
    go_ret
    exact ⟨zw, zb⟩
   rw [if_pos c2] at H
   have c2b0 : decide (x7_1 < (l0.length : Int)) = true := decide_eq_true c2
   clear c2
   by_cases c3 : 0 ≤ x7_1
   rotate_left
   ·rw [if_neg c3] at H
    exact absurd H (by simp)
   rw [if_pos c3] at H
   have c3b0 : decide (0 ≤ x7_1) = true := decide_eq_true c3
   clear c3
   by_cases c4 : x7_1 < (l0.length : Int)
   rotate_left
   ·rw [if_neg c4] at H
    exact absurd H (by simp)
   rw [if_pos c4] at H
   have c4b0 : decide (x7_1 < (l0.length : Int)) = true := decide_eq_true c4
   clear c4
   replace H := Option.bind_eq_some_iff.mp H
   obtain ⟨t331, A50, H⟩ := H
   replace H : (if t331 = true then ((impl_isCoordinate.f ((rd_T25 l0 x7_1).f1)).bind fun t332 => (if t332 = true then (if x7_1 > 0 then (if 0 ≤ (wrap64 (x7_1 - 1)) then (if (wrap64 (x7_1 - 1)) < (l0.length : Int) then ((impl_compareCells.f ((rd_T25 l0 (wrap64 (x7_1 - 1))).f0) ((rd_T25 l0 (wrap64 (x7_1 - 1))).f1) ((rd_T25 l0 x7_1).f0) ((rd_T25 l0 x7_1).f1)).bind fun t334 => (if t334 ≥ 0 then (some false) else (impl_IsShape.l0 k1 l0 l0 (l0.length : Int) (wrap64 (x7_1 + 1))))) else (none)) else (none)) else (impl_IsShape.l0 k1 l0 l0 (l0.length : Int) (wrap64 (x7_1 + 1)))) else (some false))) else (some false)) = some r := H
   have A5 := aM A50
   clear A50
   by_cases c6 : t331 = true
   rotate_left
   ·replace c6 := Bool.eq_false_iff.mpr c6
    subst c6
    have H1 : (some false) = some r := by rw [if_neg (show ¬ (false = true) by decide)] at H; exact H
    clear H
    have H := H1
    clear H1
    obtain rfl := Option.some.inj H
    have p329 : 0 ≤ (x7_1 : Int) := of_decide_eq_true za
    have q329 : x7_1 < (l0.length : Int) := of_decide_eq_true za
    obtain ⟨ad329, e329, hx329_0, hx329_1⟩ := at_T25 HR0.out x7_1 p329 q329
    cases e329
    replace hx329_0 := (HB.out.cell (World.block_lt_of_cell? w _ hx329_0)).trans hx329_0
    replace hx329_1 := (HB.out.cell (World.block_lt_of_cell? w _ hx329_1)).trans hx329_1
    replace p329 := eq_true p329
    replace q329 := eq_true q329
    try go_wp2_with (first | ((with_reducible refine gate_dst (N := 4) rfl ?_); (try (refine gate_guard (by rfl) ?_; dsimp only)); refine box_event ?hg (N := 4) ?hd (cs := #[.int .i64 0, .int .i64 0]) (t := 25) ?hr ?_; (case hd => rfl); (case hg => rfl); (case hr => first | (go_simp; done) | (go_simp; rfl)); intro gb330 hg w33 hbox hb; have n0_ := aM (below_step zb hb); have n1_ := aM (hbox); have n2_ := aM ((ze : w.heap.size ≤ gb330)); have n3_ := aM ((ze : w.heap.size ≤ gb330)); clear HB; have HB := n0_; have BK330 := n1_; have GW330 := n2_; have GE330 := n3_; clear n0_ n1_ n2_ n3_; clear hb hbox hg; have hcz34_0 : w33.cell? ⟨gb330, 0, none⟩ = some (.int .i64 0) := (blk_cell BK330.out 0).trans rfl; have hcz34_1 : w33.cell? ⟨gb330, 1, none⟩ = some (.int .i64 0) := (blk_cell BK330.out 1).trans rfl; have hfz34_0 := blk_frozen BK330.out 0; have hfz34_1 := blk_frozen BK330.out 1))
    have n0_ : Aside0 (((w33.setCell ⟨gb330, 0, none⟩ (.int .i64 ((rd_T25 l0 x7_1).f0))).setCell ⟨gb330, 1, none⟩ (.int .i64 ((rd_T25 l0 x7_1).f1))).heap[gb330]? = some (.cells #[.int .i64 ((rd_T25 l0 x7_1).f0), .int .i64 ((rd_T25 l0 x7_1).f1)] 25 (0, 0))) := ⟨by (with_reducible repeat (first | refine blk_drewN ?_ _ | refine blk_drew ?_ | refine blk_alloc ?_ _)); refine blk_put (cs := #[.int .i64 ((rd_T25 l0 x7_1).f0), .int .i64 0]) ?_ 1 _ rfl; (with_reducible repeat (first | refine blk_drewN ?_ _ | refine blk_drew ?_ | refine blk_alloc ?_ _)); refine blk_put (cs := #[.int .i64 0, .int .i64 0]) ?_ 0 _ rfl; (with_reducible repeat (first | refine blk_drewN ?_ _ | refine blk_drew ?_ | refine blk_alloc ?_ _)); exact BK330.out⟩
    have n1_ : Aside0 (Below w.heap.size w ((w33.setCell ⟨gb330, 0, none⟩ (.int .i64 ((rd_T25 l0 x7_1).f0))).setCell ⟨gb330, 1, none⟩ (.int .i64 ((rd_T25 l0 x7_1).f1)))) := ⟨zs GE330.out⟩
    (try clear BK330)
    (try clear HB)
    generalize ((w33.setCell ⟨gb330, 0, none⟩ (.int .i64 ((rd_T25 l0 x7_1).f0))).setCell ⟨gb330, 1, none⟩ (.int .i64 ((rd_T25 l0 x7_1).f1))) = w35 at n0_ n1_ ⊢
    have BK330 := n0_
    have HB := n1_
    clear n0_ n1_
    have n0_ := aM (blk_drew BK330.out)
    have n1_ := aM (below_drew1 HB.out)
    clear BK330
    clear HB
    have BK330 := n0_
    have HB := n1_
    clear n0_ n1_
    refine start_ (n := 24) (S := fun w' => w'.cell? ⟨gb330, 0, none⟩ = some (.int .i64 ((rd_T25 l0 x7_1).f0)) ∧ w'.cell? ⟨gb330, 1, none⟩ = some (.int .i64 ((rd_T25 l0 x7_1).f1))) (ds := []) #[false, false, false, false, false, false, false, false, false, false, false, false, false, false, false, false, false, false, false, false, false, false, false, false] (by kernel_rfl) rfl rfl ⟨(blk_cell BK330.out 0).trans rfl, (blk_cell BK330.out 1).trans rfl⟩ (fun hHeld => ?_); refine with_tabW impl_IsShape.tab4 impl_IsShape.bits4 (fun HT_ HW_ => ?_)
    generalize w35.drew = w36 at BK330 HB hHeld ⊢
    refine pure_ (i := 0) (N := some 12) (v := ?_) (a' := ?_) #[true, false, false, false, false, false, false, false, false, false, false, false, false, false, false, false, false, false, false, false, false, false, false, false] rfl rfl zz (fun _ _ _ h => h) (Or.inl ⟨by rfl, ?_⟩) ?_ ?_
    rotate_left
    ·intro w'
     go_simp
     with_reducible rfl
    rotate_left
    ·simp only [Act.put, xA, xB, xC, i64_w, i32_w]
     rfl
    refine take_ (i := 1) (N := some 13) (v := ?_) (a' := ?_) #[true, true, false, false, false, false, false, false, false, false, false, false, false, false, false, false, false, false, false, false, false, false, false, false] rfl rfl (take_ofW HT_.out HW_.out (by kernel_rfl)) (fun _ _ _ h => h) (Or.inl ⟨by rfl, ?_⟩) hHeld ?_ ?_
    rotate_left
    ·rintro w' ⟨s0, s1⟩
     go_simp
     with_reducible rfl
    rotate_left
    ·simp only [Act.put, xA, xB, xC, i64_w, i32_w]
     rfl
    refine one_ (i := 2) (N := some 14) #[true, true, true, false, false, false, false, false, false, false, false, false, false, false, false, false, false, false, false, false, false, false, false, false] rfl rfl (one_of HT_.out (by kernel_rfl)) (by decide) (fun K hK => ?_)
    refine goes_ Tryz.func25 (by kernel_rfl) rfl #[.int .i64 ((rd_T25 l0 x7_1).f0)] (by rfl) rfl rfl zm ?_
    with_reducible refine (impl_isCoordinate.calls ((rd_T25 l0 x7_1).f0) false _ A5.out).mono ?_
    rintro e w' ⟨rfl, ⟨nd, rfl⟩⟩
    refine ⟨_, rfl, ?_⟩
    refine hK.out _ _ ⟨(blk_cell BK330.out 0).trans rfl, (blk_cell BK330.out 1).trans rfl⟩ (fun hHeld => ?_)
    clear hK K
    refine norm_ (a' := ?_) ?_ ?_
    rotate_left
    ·show Act.put _ (some 14) _ = _
     simp only [Act.put, xA, xB, xC, i64_w, i32_w]
     rfl
    refine pure_ (i := 3) (N := some 15) (v := ?_) (a' := ?_) #[true, true, true, true, false, false, false, false, false, false, false, false, false, false, false, false, false, false, false, false, false, false, false, false] rfl rfl zz (fun _ _ _ h => h) (Or.inl ⟨by rfl, ?_⟩) ?_ ?_
    rotate_left
    ·intro w'
     go_simp
     with_reducible rfl
    rotate_left
    ·simp only [Act.put, xA, xB, xC, i64_w, i32_w]
     rfl
    refine pure_ (i := 4) (N := some 16) (v := ?_) (a' := ?_) #[true, true, true, true, true, false, false, false, false, false, false, false, false, false, false, false, false, false, false, false, false, false, false, false] rfl rfl zz (fun _ _ _ h => h) (Or.inl ⟨by rfl, ?_⟩) ?_ ?_
    rotate_left
    ·intro w'
     go_simp
     with_reducible rfl
    rotate_left
    ·simp only [Act.put, xA, xB, xC, i64_w, i32_w]
     rfl
    refine pure_ (i := 5) (N := some 17) (v := undef) (a' := ?_) #[true, true, true, true, true, true, false, false, false, false, false, false, false, false, false, false, false, false, false, false, false, false, false, false] rfl rfl zz (fun _ _ _ h => h) (Or.inr ⟨by rfl, rfl⟩) ?_ ?_
    rotate_left
    ·simp only [Act.put, xA, xB, xC, i64_w, i32_w]
     rfl
    refine pure_ (i := 6) (N := some 18) (v := undef) (a' := ?_) #[true, true, true, true, true, true, true, false, false, false, false, false, false, false, false, false, false, false, false, false, false, false, false, false] rfl rfl zz (fun _ _ _ h => h) (Or.inr ⟨by rfl, rfl⟩) ?_ ?_
    rotate_left
    ·simp only [Act.put, xA, xB, xC, i64_w, i32_w]
     rfl
    refine pure_ (i := 7) (N := some 19) (v := undef) (a' := ?_) #[true, true, true, true, true, true, true, true, false, false, false, false, false, false, false, false, false, false, false, false, false, false, false, false] rfl rfl zz (fun _ _ _ h => h) (Or.inr ⟨by rfl, rfl⟩) ?_ ?_
    rotate_left
    ·simp only [Act.put, xA, xB, xC, i64_w, i32_w]
     rfl
    refine pure_ (i := 8) (N := some 20) (v := undef) (a' := ?_) #[true, true, true, true, true, true, true, true, true, false, false, false, false, false, false, false, false, false, false, false, false, false, false, false] rfl rfl zz (fun _ _ _ h => h) (Or.inr ⟨by rfl, rfl⟩) ?_ ?_
    rotate_left
    ·simp only [Act.put, xA, xB, xC, i64_w, i32_w]
     rfl
    refine pure_ (i := 9) (N := some 21) (v := ?_) (a' := ?_) #[true, true, true, true, true, true, true, true, true, true, false, false, false, false, false, false, false, false, false, false, false, false, false, false] rfl rfl zz (fun _ _ _ h => h) (Or.inl ⟨by rfl, ?_⟩) ?_ ?_
    rotate_left
    ·intro w'
     go_simp
     with_reducible rfl
    rotate_left
    ·simp only [Act.put, xA, xB, xC, i64_w, i32_w]
     rfl
    refine pure_ (i := 10) (N := some 22) (v := ?_) (a' := ?_) #[true, true, true, true, true, true, true, true, true, true, true, false, false, false, false, false, false, false, false, false, false, false, false, false] rfl rfl zz (fun _ _ _ h => h) (Or.inl ⟨by rfl, ?_⟩) ?_ ?_
    rotate_left
    ·intro w'
     go_simp
     with_reducible rfl
    rotate_left
    ·simp only [Act.put, xA, xB, xC, i64_w, i32_w]
     rfl
    refine pure_ (i := 11) (N := some 23) (v := undef) (a' := ?_) #[true, true, true, true, true, true, true, true, true, true, true, true, false, false, false, false, false, false, false, false, false, false, false, false] rfl rfl zz (fun _ _ _ h => h) (Or.inr ⟨by rfl, rfl⟩) ?_ ?_
    rotate_left
    ·simp only [Act.put, xA, xB, xC, i64_w, i32_w]
     rfl
    refine pure_ (i := 12) (N := some 24) (v := undef) (a' := ?_) #[true, true, true, true, true, true, true, true, true, true, true, true, true, false, false, false, false, false, false, false, false, false, false, false] rfl rfl zz (fun _ _ _ h => h) (Or.inr ⟨by rfl, rfl⟩) ?_ ?_
    rotate_left
    ·simp only [Act.put, xA, xB, xC, i64_w, i32_w]
     rfl
    refine pure_ (i := 13) (N := some 25) (v := undef) (a' := ?_) #[true, true, true, true, true, true, true, true, true, true, true, true, true, true, false, false, false, false, false, false, false, false, false, false] rfl rfl zz (fun _ _ _ h => h) (Or.inr ⟨by rfl, rfl⟩) ?_ ?_
    rotate_left
    ·simp only [Act.put, xA, xB, xC, i64_w, i32_w]
     rfl
    refine pure_ (i := 14) (N := some 26) (v := undef) (a' := ?_) #[true, true, true, true, true, true, true, true, true, true, true, true, true, true, true, false, false, false, false, false, false, false, false, false] rfl rfl zz (fun _ _ _ h => h) (Or.inr ⟨by rfl, rfl⟩) ?_ ?_
    rotate_left
    ·simp only [Act.put, xA, xB, xC, i64_w, i32_w]
     rfl
    refine pure_ (i := 15) (N := some 27) (v := undef) (a' := ?_) #[true, true, true, true, true, true, true, true, true, true, true, true, true, true, true, true, false, false, false, false, false, false, false, false] rfl rfl zz (fun _ _ _ h => h) (Or.inr ⟨by rfl, rfl⟩) ?_ ?_
    rotate_left
    ·simp only [Act.put, xA, xB, xC, i64_w, i32_w]
     rfl
    refine pure_ (i := 16) (N := some 28) (v := undef) (a' := ?_) #[true, true, true, true, true, true, true, true, true, true, true, true, true, true, true, true, true, false, false, false, false, false, false, false] rfl rfl zz (fun _ _ _ h => h) (Or.inr ⟨by rfl, rfl⟩) ?_ ?_
    rotate_left
    ·simp only [Act.put, xA, xB, xC, i64_w, i32_w]
     rfl
    refine pure_ (i := 17) (N := some 29) (v := undef) (a' := ?_) #[true, true, true, true, true, true, true, true, true, true, true, true, true, true, true, true, true, true, false, false, false, false, false, false] rfl rfl zz (fun _ _ _ h => h) (Or.inr ⟨by rfl, rfl⟩) ?_ ?_
    rotate_left
    ·simp only [Act.put, xA, xB, xC, i64_w, i32_w]
     rfl
    refine pure_ (i := 18) (N := some 30) (v := undef) (a' := ?_) #[true, true, true, true, true, true, true, true, true, true, true, true, true, true, true, true, true, true, true, false, false, false, false, false] rfl rfl zz (fun _ _ _ h => h) (Or.inr ⟨by rfl, rfl⟩) ?_ ?_
    rotate_left
    ·simp only [Act.put, xA, xB, xC, i64_w, i32_w]
     rfl
    refine pure_ (i := 19) (N := some 31) (v := undef) (a' := ?_) #[true, true, true, true, true, true, true, true, true, true, true, true, true, true, true, true, true, true, true, true, false, false, false, false] rfl rfl zz (fun _ _ _ h => h) (Or.inr ⟨by rfl, rfl⟩) ?_ ?_
    rotate_left
    ·simp only [Act.put, xA, xB, xC, i64_w, i32_w]
     rfl
    refine pure_ (i := 20) (N := some 32) (v := undef) (a' := ?_) #[true, true, true, true, true, true, true, true, true, true, true, true, true, true, true, true, true, true, true, true, true, false, false, false] rfl rfl zz (fun _ _ _ h => h) (Or.inr ⟨by rfl, rfl⟩) ?_ ?_
    rotate_left
    ·simp only [Act.put, xA, xB, xC, i64_w, i32_w]
     rfl
    refine pure_ (i := 21) (N := some 33) (v := undef) (a' := ?_) #[true, true, true, true, true, true, true, true, true, true, true, true, true, true, true, true, true, true, true, true, true, true, false, false] rfl rfl zz (fun _ _ _ h => h) (Or.inr ⟨by rfl, rfl⟩) ?_ ?_
    rotate_left
    ·simp only [Act.put, xA, xB, xC, i64_w, i32_w]
     rfl
    refine pure_ (i := 22) (N := some 34) (v := undef) (a' := ?_) #[true, true, true, true, true, true, true, true, true, true, true, true, true, true, true, true, true, true, true, true, true, true, true, false] rfl rfl zz (fun _ _ _ h => h) (Or.inr ⟨by rfl, rfl⟩) ?_ ?_
    rotate_left
    ·simp only [Act.put, xA, xB, xC, i64_w, i32_w]
     rfl
    refine pure_ (i := 23) (N := some 35) (v := ?_) (a' := ?_) #[true, true, true, true, true, true, true, true, true, true, true, true, true, true, true, true, true, true, true, true, true, true, true, true] rfl rfl zz (fun _ _ _ h => h) (Or.inl ⟨by rfl, ?_⟩) ?_ ?_
    rotate_left
    ·intro w'
     go_simp
     with_reducible rfl
    rotate_left
    ·simp only [Act.put, xA, xB, xC, i64_w, i32_w]
     rfl
    refine done_ (done_of HT_.out (by kernel_rfl)) ?_
    try go_wp2
    go_ret
    exact ⟨zw, zs GE330.out⟩
   subst c6
   have H1 : ((impl_isCoordinate.f ((rd_T25 l0 x7_1).f1)).bind fun t332 => (if t332 = true then (if x7_1 > 0 then (if 0 ≤ (wrap64 (x7_1 - 1)) then (if (wrap64 (x7_1 - 1)) < (l0.length : Int) then ((impl_compareCells.f ((rd_T25 l0 (wrap64 (x7_1 - 1))).f0) ((rd_T25 l0 (wrap64 (x7_1 - 1))).f1) ((rd_T25 l0 x7_1).f0) ((rd_T25 l0 x7_1).f1)).bind fun t334 => (if t334 ≥ 0 then (some false) else (impl_IsShape.l0 k1 l0 l0 (l0.length : Int) (wrap64 (x7_1 + 1))))) else (none)) else (none)) else (impl_IsShape.l0 k1 l0 l0 (l0.length : Int) (wrap64 (x7_1 + 1)))) else (some false))) = some r := by rw [if_pos rfl] at H; exact H
   clear H
   have H := H1
   clear H1
   replace H := Option.bind_eq_some_iff.mp H
   obtain ⟨t332, A70, H⟩ := H
   replace H : (if t332 = true then (if x7_1 > 0 then (if 0 ≤ (wrap64 (x7_1 - 1)) then (if (wrap64 (x7_1 - 1)) < (l0.length : Int) then ((impl_compareCells.f ((rd_T25 l0 (wrap64 (x7_1 - 1))).f0) ((rd_T25 l0 (wrap64 (x7_1 - 1))).f1) ((rd_T25 l0 x7_1).f0) ((rd_T25 l0 x7_1).f1)).bind fun t334 => (if t334 ≥ 0 then (some false) else (impl_IsShape.l0 k1 l0 l0 (l0.length : Int) (wrap64 (x7_1 + 1))))) else (none)) else (none)) else (impl_IsShape.l0 k1 l0 l0 (l0.length : Int) (wrap64 (x7_1 + 1)))) else (some false)) = some r := H
   have A7 := aM A70
   clear A70
   by_cases c8 : t332 = true
   rotate_left
   ·replace c8 := Bool.eq_false_iff.mpr c8
    subst c8
    have H1 : (some false) = some r := by rw [if_neg (show ¬ (false = true) by decide)] at H; exact H
    clear H
    have H := H1
    clear H1
    obtain rfl := Option.some.inj H
    have p329 : 0 ≤ (x7_1 : Int) := of_decide_eq_true za
    have q329 : x7_1 < (l0.length : Int) := of_decide_eq_true za
    obtain ⟨ad329, e329, hx329_0, hx329_1⟩ := at_T25 HR0.out x7_1 p329 q329
    cases e329
    replace hx329_0 := (HB.out.cell (World.block_lt_of_cell? w _ hx329_0)).trans hx329_0
    replace hx329_1 := (HB.out.cell (World.block_lt_of_cell? w _ hx329_1)).trans hx329_1
    replace p329 := eq_true p329
    replace q329 := eq_true q329
    try go_wp2_with (first | ((with_reducible refine gate_dst (N := 4) rfl ?_); (try (refine gate_guard (by rfl) ?_; dsimp only)); refine box_event ?hg (N := 4) ?hd (cs := #[.int .i64 0, .int .i64 0]) (t := 25) ?hr ?_; (case hd => rfl); (case hg => rfl); (case hr => first | (go_simp; done) | (go_simp; rfl)); intro gb330 hg w29 hbox hb; have n0_ := aM (below_step zb hb); have n1_ := aM (hbox); have n2_ := aM ((ze : w.heap.size ≤ gb330)); have n3_ := aM ((ze : w.heap.size ≤ gb330)); clear HB; have HB := n0_; have BK330 := n1_; have GW330 := n2_; have GE330 := n3_; clear n0_ n1_ n2_ n3_; clear hb hbox hg; have hcz30_0 : w29.cell? ⟨gb330, 0, none⟩ = some (.int .i64 0) := (blk_cell BK330.out 0).trans rfl; have hcz30_1 : w29.cell? ⟨gb330, 1, none⟩ = some (.int .i64 0) := (blk_cell BK330.out 1).trans rfl; have hfz30_0 := blk_frozen BK330.out 0; have hfz30_1 := blk_frozen BK330.out 1))
    have n0_ : Aside0 (((w29.setCell ⟨gb330, 0, none⟩ (.int .i64 ((rd_T25 l0 x7_1).f0))).setCell ⟨gb330, 1, none⟩ (.int .i64 ((rd_T25 l0 x7_1).f1))).heap[gb330]? = some (.cells #[.int .i64 ((rd_T25 l0 x7_1).f0), .int .i64 ((rd_T25 l0 x7_1).f1)] 25 (0, 0))) := ⟨by (with_reducible repeat (first | refine blk_drewN ?_ _ | refine blk_drew ?_ | refine blk_alloc ?_ _)); refine blk_put (cs := #[.int .i64 ((rd_T25 l0 x7_1).f0), .int .i64 0]) ?_ 1 _ rfl; (with_reducible repeat (first | refine blk_drewN ?_ _ | refine blk_drew ?_ | refine blk_alloc ?_ _)); refine blk_put (cs := #[.int .i64 0, .int .i64 0]) ?_ 0 _ rfl; (with_reducible repeat (first | refine blk_drewN ?_ _ | refine blk_drew ?_ | refine blk_alloc ?_ _)); exact BK330.out⟩
    have n1_ : Aside0 (Below w.heap.size w ((w29.setCell ⟨gb330, 0, none⟩ (.int .i64 ((rd_T25 l0 x7_1).f0))).setCell ⟨gb330, 1, none⟩ (.int .i64 ((rd_T25 l0 x7_1).f1)))) := ⟨zs GE330.out⟩
    (try clear BK330)
    (try clear HB)
    generalize ((w29.setCell ⟨gb330, 0, none⟩ (.int .i64 ((rd_T25 l0 x7_1).f0))).setCell ⟨gb330, 1, none⟩ (.int .i64 ((rd_T25 l0 x7_1).f1))) = w31 at n0_ n1_ ⊢
    have BK330 := n0_
    have HB := n1_
    clear n0_ n1_
    have n0_ := aM (blk_drew BK330.out)
    have n1_ := aM (below_drew1 HB.out)
    clear BK330
    clear HB
    have BK330 := n0_
    have HB := n1_
    clear n0_ n1_
    refine start_ (n := 24) (S := fun w' => w'.cell? ⟨gb330, 0, none⟩ = some (.int .i64 ((rd_T25 l0 x7_1).f0)) ∧ w'.cell? ⟨gb330, 1, none⟩ = some (.int .i64 ((rd_T25 l0 x7_1).f1))) (ds := []) #[false, false, false, false, false, false, false, false, false, false, false, false, false, false, false, false, false, false, false, false, false, false, false, false] (by kernel_rfl) rfl rfl ⟨(blk_cell BK330.out 0).trans rfl, (blk_cell BK330.out 1).trans rfl⟩ (fun hHeld => ?_); refine with_tabW impl_IsShape.tab4 impl_IsShape.bits4 (fun HT_ HW_ => ?_)
    generalize w31.drew = w32 at BK330 HB hHeld ⊢
    refine pure_ (i := 0) (N := some 12) (v := ?_) (a' := ?_) #[true, false, false, false, false, false, false, false, false, false, false, false, false, false, false, false, false, false, false, false, false, false, false, false] rfl rfl zz (fun _ _ _ h => h) (Or.inl ⟨by rfl, ?_⟩) ?_ ?_
    rotate_left
    ·intro w'
     go_simp
     with_reducible rfl
    rotate_left
    ·simp only [Act.put, xA, xB, xC, i64_w, i32_w]
     rfl
    refine take_ (i := 1) (N := some 13) (v := ?_) (a' := ?_) #[true, true, false, false, false, false, false, false, false, false, false, false, false, false, false, false, false, false, false, false, false, false, false, false] rfl rfl (take_ofW HT_.out HW_.out (by kernel_rfl)) (fun _ _ _ h => h) (Or.inl ⟨by rfl, ?_⟩) hHeld ?_ ?_
    rotate_left
    ·rintro w' ⟨s0, s1⟩
     go_simp
     with_reducible rfl
    rotate_left
    ·simp only [Act.put, xA, xB, xC, i64_w, i32_w]
     rfl
    refine one_ (i := 2) (N := some 14) #[true, true, true, false, false, false, false, false, false, false, false, false, false, false, false, false, false, false, false, false, false, false, false, false] rfl rfl (one_of HT_.out (by kernel_rfl)) (by decide) (fun K hK => ?_)
    refine goes_ Tryz.func25 (by kernel_rfl) rfl #[.int .i64 ((rd_T25 l0 x7_1).f0)] (by rfl) rfl rfl zm ?_
    with_reducible refine (impl_isCoordinate.calls ((rd_T25 l0 x7_1).f0) true _ A5.out).mono ?_
    rintro e w' ⟨rfl, ⟨nd, rfl⟩⟩
    refine ⟨_, rfl, ?_⟩
    refine hK.out _ _ ⟨(blk_cell BK330.out 0).trans rfl, (blk_cell BK330.out 1).trans rfl⟩ (fun hHeld => ?_)
    clear hK K
    refine norm_ (a' := ?_) ?_ ?_
    rotate_left
    ·show Act.put _ (some 14) _ = _
     simp only [Act.put, xA, xB, xC, i64_w, i32_w]
     rfl
    refine pure_ (i := 3) (N := some 15) (v := ?_) (a' := ?_) #[true, true, true, true, false, false, false, false, false, false, false, false, false, false, false, false, false, false, false, false, false, false, false, false] rfl rfl zz (fun _ _ _ h => h) (Or.inl ⟨by rfl, ?_⟩) ?_ ?_
    rotate_left
    ·intro w'
     go_simp
     with_reducible rfl
    rotate_left
    ·simp only [Act.put, xA, xB, xC, i64_w, i32_w]
     rfl
    refine pure_ (i := 4) (N := some 16) (v := ?_) (a' := ?_) #[true, true, true, true, true, false, false, false, false, false, false, false, false, false, false, false, false, false, false, false, false, false, false, false] rfl rfl zz (fun _ _ _ h => h) (Or.inl ⟨by rfl, ?_⟩) ?_ ?_
    rotate_left
    ·intro w'
     go_simp
     with_reducible rfl
    rotate_left
    ·simp only [Act.put, xA, xB, xC, i64_w, i32_w]
     rfl
    refine pure_ (i := 5) (N := some 17) (v := ?_) (a' := ?_) #[true, true, true, true, true, true, false, false, false, false, false, false, false, false, false, false, false, false, false, false, false, false, false, false] rfl rfl zz (fun _ _ _ h => h) (Or.inl ⟨by rfl, ?_⟩) ?_ ?_
    rotate_left
    ·intro w'
     go_simp
     with_reducible rfl
    rotate_left
    ·simp only [Act.put, xA, xB, xC, i64_w, i32_w]
     rfl
    refine take_ (i := 6) (N := some 18) (v := ?_) (a' := ?_) #[true, true, true, true, true, true, true, false, false, false, false, false, false, false, false, false, false, false, false, false, false, false, false, false] rfl rfl (take_ofW HT_.out HW_.out (by kernel_rfl)) (fun _ _ _ h => h) (Or.inl ⟨by rfl, ?_⟩) hHeld ?_ ?_
    rotate_left
    ·rintro w' ⟨s0, s1⟩
     go_simp
     with_reducible rfl
    rotate_left
    ·simp only [Act.put, xA, xB, xC, i64_w, i32_w]
     rfl
    refine one_ (i := 7) (N := some 19) #[true, true, true, true, true, true, true, true, false, false, false, false, false, false, false, false, false, false, false, false, false, false, false, false] rfl rfl (one_of HT_.out (by kernel_rfl)) (by decide) (fun K hK => ?_)
    refine goes_ Tryz.func25 (by kernel_rfl) rfl #[.int .i64 ((rd_T25 l0 x7_1).f1)] (by rfl) rfl rfl zm ?_
    with_reducible refine (impl_isCoordinate.calls ((rd_T25 l0 x7_1).f1) false _ A7.out).mono ?_
    rintro e w' ⟨rfl, ⟨nd, rfl⟩⟩
    refine ⟨_, rfl, ?_⟩
    refine hK.out _ _ ⟨(blk_cell BK330.out 0).trans rfl, (blk_cell BK330.out 1).trans rfl⟩ (fun hHeld => ?_)
    clear hK K
    refine norm_ (a' := ?_) ?_ ?_
    rotate_left
    ·show Act.put _ (some 19) _ = _
     simp only [Act.put, xA, xB, xC, i64_w, i32_w]
     rfl
    refine pure_ (i := 8) (N := some 20) (v := ?_) (a' := ?_) #[true, true, true, true, true, true, true, true, true, false, false, false, false, false, false, false, false, false, false, false, false, false, false, false] rfl rfl zz (fun _ _ _ h => h) (Or.inl ⟨by rfl, ?_⟩) ?_ ?_
    rotate_left
    ·intro w'
     go_simp
     with_reducible rfl
    rotate_left
    ·simp only [Act.put, xA, xB, xC, i64_w, i32_w]
     rfl
    refine pure_ (i := 9) (N := some 21) (v := ?_) (a' := ?_) #[true, true, true, true, true, true, true, true, true, true, false, false, false, false, false, false, false, false, false, false, false, false, false, false] rfl rfl zz (fun _ _ _ h => h) (Or.inl ⟨by rfl, ?_⟩) ?_ ?_
    rotate_left
    ·intro w'
     go_simp
     with_reducible rfl
    rotate_left
    ·simp only [Act.put, xA, xB, xC, i64_w, i32_w]
     rfl
    refine pure_ (i := 10) (N := some 22) (v := ?_) (a' := ?_) #[true, true, true, true, true, true, true, true, true, true, true, false, false, false, false, false, false, false, false, false, false, false, false, false] rfl rfl zz (fun _ _ _ h => h) (Or.inl ⟨by rfl, ?_⟩) ?_ ?_
    rotate_left
    ·intro w'
     go_simp
     with_reducible rfl
    rotate_left
    ·simp only [Act.put, xA, xB, xC, i64_w, i32_w]
     rfl
    refine pure_ (i := 11) (N := some 23) (v := undef) (a' := ?_) #[true, true, true, true, true, true, true, true, true, true, true, true, false, false, false, false, false, false, false, false, false, false, false, false] rfl rfl zz (fun _ _ _ h => h) (Or.inr ⟨by rfl, rfl⟩) ?_ ?_
    rotate_left
    ·simp only [Act.put, xA, xB, xC, i64_w, i32_w]
     rfl
    refine pure_ (i := 12) (N := some 24) (v := undef) (a' := ?_) #[true, true, true, true, true, true, true, true, true, true, true, true, true, false, false, false, false, false, false, false, false, false, false, false] rfl rfl zz (fun _ _ _ h => h) (Or.inr ⟨by rfl, rfl⟩) ?_ ?_
    rotate_left
    ·simp only [Act.put, xA, xB, xC, i64_w, i32_w]
     rfl
    refine pure_ (i := 13) (N := some 25) (v := undef) (a' := ?_) #[true, true, true, true, true, true, true, true, true, true, true, true, true, true, false, false, false, false, false, false, false, false, false, false] rfl rfl zz (fun _ _ _ h => h) (Or.inr ⟨by rfl, rfl⟩) ?_ ?_
    rotate_left
    ·simp only [Act.put, xA, xB, xC, i64_w, i32_w]
     rfl
    refine pure_ (i := 14) (N := some 26) (v := undef) (a' := ?_) #[true, true, true, true, true, true, true, true, true, true, true, true, true, true, true, false, false, false, false, false, false, false, false, false] rfl rfl zz (fun _ _ _ h => h) (Or.inr ⟨by rfl, rfl⟩) ?_ ?_
    rotate_left
    ·simp only [Act.put, xA, xB, xC, i64_w, i32_w]
     rfl
    refine pure_ (i := 15) (N := some 27) (v := undef) (a' := ?_) #[true, true, true, true, true, true, true, true, true, true, true, true, true, true, true, true, false, false, false, false, false, false, false, false] rfl rfl zz (fun _ _ _ h => h) (Or.inr ⟨by rfl, rfl⟩) ?_ ?_
    rotate_left
    ·simp only [Act.put, xA, xB, xC, i64_w, i32_w]
     rfl
    refine pure_ (i := 16) (N := some 28) (v := undef) (a' := ?_) #[true, true, true, true, true, true, true, true, true, true, true, true, true, true, true, true, true, false, false, false, false, false, false, false] rfl rfl zz (fun _ _ _ h => h) (Or.inr ⟨by rfl, rfl⟩) ?_ ?_
    rotate_left
    ·simp only [Act.put, xA, xB, xC, i64_w, i32_w]
     rfl
    refine pure_ (i := 17) (N := some 29) (v := undef) (a' := ?_) #[true, true, true, true, true, true, true, true, true, true, true, true, true, true, true, true, true, true, false, false, false, false, false, false] rfl rfl zz (fun _ _ _ h => h) (Or.inr ⟨by rfl, rfl⟩) ?_ ?_
    rotate_left
    ·simp only [Act.put, xA, xB, xC, i64_w, i32_w]
     rfl
    refine pure_ (i := 18) (N := some 30) (v := undef) (a' := ?_) #[true, true, true, true, true, true, true, true, true, true, true, true, true, true, true, true, true, true, true, false, false, false, false, false] rfl rfl zz (fun _ _ _ h => h) (Or.inr ⟨by rfl, rfl⟩) ?_ ?_
    rotate_left
    ·simp only [Act.put, xA, xB, xC, i64_w, i32_w]
     rfl
    refine pure_ (i := 19) (N := some 31) (v := undef) (a' := ?_) #[true, true, true, true, true, true, true, true, true, true, true, true, true, true, true, true, true, true, true, true, false, false, false, false] rfl rfl zz (fun _ _ _ h => h) (Or.inr ⟨by rfl, rfl⟩) ?_ ?_
    rotate_left
    ·simp only [Act.put, xA, xB, xC, i64_w, i32_w]
     rfl
    refine pure_ (i := 20) (N := some 32) (v := undef) (a' := ?_) #[true, true, true, true, true, true, true, true, true, true, true, true, true, true, true, true, true, true, true, true, true, false, false, false] rfl rfl zz (fun _ _ _ h => h) (Or.inr ⟨by rfl, rfl⟩) ?_ ?_
    rotate_left
    ·simp only [Act.put, xA, xB, xC, i64_w, i32_w]
     rfl
    refine pure_ (i := 21) (N := some 33) (v := undef) (a' := ?_) #[true, true, true, true, true, true, true, true, true, true, true, true, true, true, true, true, true, true, true, true, true, true, false, false] rfl rfl zz (fun _ _ _ h => h) (Or.inr ⟨by rfl, rfl⟩) ?_ ?_
    rotate_left
    ·simp only [Act.put, xA, xB, xC, i64_w, i32_w]
     rfl
    refine pure_ (i := 22) (N := some 34) (v := undef) (a' := ?_) #[true, true, true, true, true, true, true, true, true, true, true, true, true, true, true, true, true, true, true, true, true, true, true, false] rfl rfl zz (fun _ _ _ h => h) (Or.inr ⟨by rfl, rfl⟩) ?_ ?_
    rotate_left
    ·simp only [Act.put, xA, xB, xC, i64_w, i32_w]
     rfl
    refine pure_ (i := 23) (N := some 35) (v := ?_) (a' := ?_) #[true, true, true, true, true, true, true, true, true, true, true, true, true, true, true, true, true, true, true, true, true, true, true, true] rfl rfl zz (fun _ _ _ h => h) (Or.inl ⟨by rfl, ?_⟩) ?_ ?_
    rotate_left
    ·intro w'
     go_simp
     with_reducible rfl
    rotate_left
    ·simp only [Act.put, xA, xB, xC, i64_w, i32_w]
     rfl
    refine done_ (done_of HT_.out (by kernel_rfl)) ?_
    try go_wp2
    go_ret
    exact ⟨zw, zs GE330.out⟩
   subst c8
   have H1 : (if x7_1 > 0 then (if 0 ≤ (wrap64 (x7_1 - 1)) then (if (wrap64 (x7_1 - 1)) < (l0.length : Int) then ((impl_compareCells.f ((rd_T25 l0 (wrap64 (x7_1 - 1))).f0) ((rd_T25 l0 (wrap64 (x7_1 - 1))).f1) ((rd_T25 l0 x7_1).f0) ((rd_T25 l0 x7_1).f1)).bind fun t334 => (if t334 ≥ 0 then (some false) else (impl_IsShape.l0 k1 l0 l0 (l0.length : Int) (wrap64 (x7_1 + 1))))) else (none)) else (none)) else (impl_IsShape.l0 k1 l0 l0 (l0.length : Int) (wrap64 (x7_1 + 1)))) = some r := by rw [if_pos rfl] at H; exact H
   clear H
   have H := H1
   clear H1
   by_cases c9 : x7_1 > 0
   rotate_left
   ·rw [if_neg c9] at H
    have c9b0 : decide (0 < x7_1) = false := decide_eq_false c9
    clear c9
    have H' := aM H
    clear H
    have p329 : 0 ≤ (x7_1 : Int) := of_decide_eq_true za
    have q329 : x7_1 < (l0.length : Int) := of_decide_eq_true za
    obtain ⟨ad329, e329, hx329_0, hx329_1⟩ := at_T25 HR0.out x7_1 p329 q329
    cases e329
    replace hx329_0 := (HB.out.cell (World.block_lt_of_cell? w _ hx329_0)).trans hx329_0
    replace hx329_1 := (HB.out.cell (World.block_lt_of_cell? w _ hx329_1)).trans hx329_1
    replace p329 := eq_true p329
    replace q329 := eq_true q329
    try go_wp2_with (first | ((with_reducible refine gate_dst (N := 4) rfl ?_); (try (refine gate_guard (by rfl) ?_; dsimp only)); refine box_event ?hg (N := 4) ?hd (cs := #[.int .i64 0, .int .i64 0]) (t := 25) ?hr ?_; (case hd => rfl); (case hg => rfl); (case hr => first | (go_simp; done) | (go_simp; rfl)); intro gb330 hg w25 hbox hb; have n0_ := aM (below_step zb hb); have n1_ := aM (hbox); have n2_ := aM ((ze : w.heap.size ≤ gb330)); have n3_ := aM ((ze : w.heap.size ≤ gb330)); clear HB; have HB := n0_; have BK330 := n1_; have GW330 := n2_; have GE330 := n3_; clear n0_ n1_ n2_ n3_; clear hb hbox hg; have hcz26_0 : w25.cell? ⟨gb330, 0, none⟩ = some (.int .i64 0) := (blk_cell BK330.out 0).trans rfl; have hcz26_1 : w25.cell? ⟨gb330, 1, none⟩ = some (.int .i64 0) := (blk_cell BK330.out 1).trans rfl; have hfz26_0 := blk_frozen BK330.out 0; have hfz26_1 := blk_frozen BK330.out 1))
    have n0_ : Aside0 (((w25.setCell ⟨gb330, 0, none⟩ (.int .i64 ((rd_T25 l0 x7_1).f0))).setCell ⟨gb330, 1, none⟩ (.int .i64 ((rd_T25 l0 x7_1).f1))).heap[gb330]? = some (.cells #[.int .i64 ((rd_T25 l0 x7_1).f0), .int .i64 ((rd_T25 l0 x7_1).f1)] 25 (0, 0))) := ⟨by (with_reducible repeat (first | refine blk_drewN ?_ _ | refine blk_drew ?_ | refine blk_alloc ?_ _)); refine blk_put (cs := #[.int .i64 ((rd_T25 l0 x7_1).f0), .int .i64 0]) ?_ 1 _ rfl; (with_reducible repeat (first | refine blk_drewN ?_ _ | refine blk_drew ?_ | refine blk_alloc ?_ _)); refine blk_put (cs := #[.int .i64 0, .int .i64 0]) ?_ 0 _ rfl; (with_reducible repeat (first | refine blk_drewN ?_ _ | refine blk_drew ?_ | refine blk_alloc ?_ _)); exact BK330.out⟩
    have n1_ : Aside0 (Below w.heap.size w ((w25.setCell ⟨gb330, 0, none⟩ (.int .i64 ((rd_T25 l0 x7_1).f0))).setCell ⟨gb330, 1, none⟩ (.int .i64 ((rd_T25 l0 x7_1).f1)))) := ⟨zs GE330.out⟩
    (try clear BK330)
    (try clear HB)
    generalize ((w25.setCell ⟨gb330, 0, none⟩ (.int .i64 ((rd_T25 l0 x7_1).f0))).setCell ⟨gb330, 1, none⟩ (.int .i64 ((rd_T25 l0 x7_1).f1))) = w27 at n0_ n1_ ⊢
    have BK330 := n0_
    have HB := n1_
    clear n0_ n1_
    have n0_ := aM (blk_drew BK330.out)
    have n1_ := aM (below_drew1 HB.out)
    clear BK330
    clear HB
    have BK330 := n0_
    have HB := n1_
    clear n0_ n1_
    refine start_ (n := 24) (S := fun w' => w'.cell? ⟨gb330, 0, none⟩ = some (.int .i64 ((rd_T25 l0 x7_1).f0)) ∧ w'.cell? ⟨gb330, 1, none⟩ = some (.int .i64 ((rd_T25 l0 x7_1).f1))) (ds := []) #[false, false, false, false, false, false, false, false, false, false, false, false, false, false, false, false, false, false, false, false, false, false, false, false] (by kernel_rfl) rfl rfl ⟨(blk_cell BK330.out 0).trans rfl, (blk_cell BK330.out 1).trans rfl⟩ (fun hHeld => ?_); refine with_tabW impl_IsShape.tab4 impl_IsShape.bits4 (fun HT_ HW_ => ?_)
    generalize w27.drew = w28 at BK330 HB hHeld ⊢
    refine pure_ (i := 0) (N := some 12) (v := ?_) (a' := ?_) #[true, false, false, false, false, false, false, false, false, false, false, false, false, false, false, false, false, false, false, false, false, false, false, false] rfl rfl zz (fun _ _ _ h => h) (Or.inl ⟨by rfl, ?_⟩) ?_ ?_
    rotate_left
    ·intro w'
     go_simp
     with_reducible rfl
    rotate_left
    ·simp only [Act.put, xA, xB, xC, i64_w, i32_w]
     rfl
    refine take_ (i := 1) (N := some 13) (v := ?_) (a' := ?_) #[true, true, false, false, false, false, false, false, false, false, false, false, false, false, false, false, false, false, false, false, false, false, false, false] rfl rfl (take_ofW HT_.out HW_.out (by kernel_rfl)) (fun _ _ _ h => h) (Or.inl ⟨by rfl, ?_⟩) hHeld ?_ ?_
    rotate_left
    ·rintro w' ⟨s0, s1⟩
     go_simp
     with_reducible rfl
    rotate_left
    ·simp only [Act.put, xA, xB, xC, i64_w, i32_w]
     rfl
    refine one_ (i := 2) (N := some 14) #[true, true, true, false, false, false, false, false, false, false, false, false, false, false, false, false, false, false, false, false, false, false, false, false] rfl rfl (one_of HT_.out (by kernel_rfl)) (by decide) (fun K hK => ?_)
    refine goes_ Tryz.func25 (by kernel_rfl) rfl #[.int .i64 ((rd_T25 l0 x7_1).f0)] (by rfl) rfl rfl zm ?_
    with_reducible refine (impl_isCoordinate.calls ((rd_T25 l0 x7_1).f0) true _ A5.out).mono ?_
    rintro e w' ⟨rfl, ⟨nd, rfl⟩⟩
    refine ⟨_, rfl, ?_⟩
    refine hK.out _ _ ⟨(blk_cell BK330.out 0).trans rfl, (blk_cell BK330.out 1).trans rfl⟩ (fun hHeld => ?_)
    clear hK K
    refine norm_ (a' := ?_) ?_ ?_
    rotate_left
    ·show Act.put _ (some 14) _ = _
     simp only [Act.put, xA, xB, xC, i64_w, i32_w]
     rfl
    refine pure_ (i := 3) (N := some 15) (v := ?_) (a' := ?_) #[true, true, true, true, false, false, false, false, false, false, false, false, false, false, false, false, false, false, false, false, false, false, false, false] rfl rfl zz (fun _ _ _ h => h) (Or.inl ⟨by rfl, ?_⟩) ?_ ?_
    rotate_left
    ·intro w'
     go_simp
     with_reducible rfl
    rotate_left
    ·simp only [Act.put, xA, xB, xC, i64_w, i32_w]
     rfl
    refine pure_ (i := 4) (N := some 16) (v := ?_) (a' := ?_) #[true, true, true, true, true, false, false, false, false, false, false, false, false, false, false, false, false, false, false, false, false, false, false, false] rfl rfl zz (fun _ _ _ h => h) (Or.inl ⟨by rfl, ?_⟩) ?_ ?_
    rotate_left
    ·intro w'
     go_simp
     with_reducible rfl
    rotate_left
    ·simp only [Act.put, xA, xB, xC, i64_w, i32_w]
     rfl
    refine pure_ (i := 5) (N := some 17) (v := ?_) (a' := ?_) #[true, true, true, true, true, true, false, false, false, false, false, false, false, false, false, false, false, false, false, false, false, false, false, false] rfl rfl zz (fun _ _ _ h => h) (Or.inl ⟨by rfl, ?_⟩) ?_ ?_
    rotate_left
    ·intro w'
     go_simp
     with_reducible rfl
    rotate_left
    ·simp only [Act.put, xA, xB, xC, i64_w, i32_w]
     rfl
    refine take_ (i := 6) (N := some 18) (v := ?_) (a' := ?_) #[true, true, true, true, true, true, true, false, false, false, false, false, false, false, false, false, false, false, false, false, false, false, false, false] rfl rfl (take_ofW HT_.out HW_.out (by kernel_rfl)) (fun _ _ _ h => h) (Or.inl ⟨by rfl, ?_⟩) hHeld ?_ ?_
    rotate_left
    ·rintro w' ⟨s0, s1⟩
     go_simp
     with_reducible rfl
    rotate_left
    ·simp only [Act.put, xA, xB, xC, i64_w, i32_w]
     rfl
    refine one_ (i := 7) (N := some 19) #[true, true, true, true, true, true, true, true, false, false, false, false, false, false, false, false, false, false, false, false, false, false, false, false] rfl rfl (one_of HT_.out (by kernel_rfl)) (by decide) (fun K hK => ?_)
    refine goes_ Tryz.func25 (by kernel_rfl) rfl #[.int .i64 ((rd_T25 l0 x7_1).f1)] (by rfl) rfl rfl zm ?_
    with_reducible refine (impl_isCoordinate.calls ((rd_T25 l0 x7_1).f1) true _ A7.out).mono ?_
    rintro e w' ⟨rfl, ⟨nd, rfl⟩⟩
    refine ⟨_, rfl, ?_⟩
    refine hK.out _ _ ⟨(blk_cell BK330.out 0).trans rfl, (blk_cell BK330.out 1).trans rfl⟩ (fun hHeld => ?_)
    clear hK K
    refine norm_ (a' := ?_) ?_ ?_
    rotate_left
    ·show Act.put _ (some 19) _ = _
     simp only [Act.put, xA, xB, xC, i64_w, i32_w]
     rfl
    refine pure_ (i := 8) (N := some 20) (v := ?_) (a' := ?_) #[true, true, true, true, true, true, true, true, true, false, false, false, false, false, false, false, false, false, false, false, false, false, false, false] rfl rfl zz (fun _ _ _ h => h) (Or.inl ⟨by rfl, ?_⟩) ?_ ?_
    rotate_left
    ·intro w'
     go_simp
     with_reducible rfl
    rotate_left
    ·simp only [Act.put, xA, xB, xC, i64_w, i32_w]
     rfl
    refine pure_ (i := 9) (N := some 21) (v := ?_) (a' := ?_) #[true, true, true, true, true, true, true, true, true, true, false, false, false, false, false, false, false, false, false, false, false, false, false, false] rfl rfl zz (fun _ _ _ h => h) (Or.inl ⟨by rfl, ?_⟩) ?_ ?_
    rotate_left
    ·intro w'
     go_simp
     with_reducible rfl
    rotate_left
    ·simp only [Act.put, xA, xB, xC, i64_w, i32_w]
     rfl
    refine pure_ (i := 10) (N := some 22) (v := ?_) (a' := ?_) #[true, true, true, true, true, true, true, true, true, true, true, false, false, false, false, false, false, false, false, false, false, false, false, false] rfl rfl zz (fun _ _ _ h => h) (Or.inl ⟨by rfl, ?_⟩) ?_ ?_
    rotate_left
    ·intro w'
     go_simp
     with_reducible rfl
    rotate_left
    ·simp only [Act.put, xA, xB, xC, i64_w, i32_w]
     rfl
    refine pure_ (i := 11) (N := some 23) (v := ?_) (a' := ?_) #[true, true, true, true, true, true, true, true, true, true, true, true, false, false, false, false, false, false, false, false, false, false, false, false] rfl rfl zz (fun _ _ _ h => h) (Or.inl ⟨by rfl, ?_⟩) ?_ ?_
    rotate_left
    ·intro w'
     go_simp
     with_reducible rfl
    rotate_left
    ·simp only [Act.put, xA, xB, xC, i64_w, i32_w]
     rfl
    refine pure_ (i := 12) (N := some 24) (v := ?_) (a' := ?_) #[true, true, true, true, true, true, true, true, true, true, true, true, true, false, false, false, false, false, false, false, false, false, false, false] rfl rfl zz (fun _ _ _ h => h) (Or.inl ⟨by rfl, ?_⟩) ?_ ?_
    rotate_left
    ·intro w'
     go_simp
     with_reducible rfl
    rotate_left
    ·simp only [Act.put, xA, xB, xC, i64_w, i32_w]
     rfl
    refine pure_ (i := 13) (N := some 25) (v := ?_) (a' := ?_) #[true, true, true, true, true, true, true, true, true, true, true, true, true, true, false, false, false, false, false, false, false, false, false, false] rfl rfl zz (fun _ _ _ h => h) (Or.inl ⟨by rfl, ?_⟩) ?_ ?_
    rotate_left
    ·intro w'
     go_simp
     with_reducible rfl
    rotate_left
    ·simp only [Act.put, xA, xB, xC, i64_w, i32_w]
     rfl
    refine pure_ (i := 14) (N := some 26) (v := undef) (a' := ?_) #[true, true, true, true, true, true, true, true, true, true, true, true, true, true, true, false, false, false, false, false, false, false, false, false] rfl rfl zz (fun _ _ _ h => h) (Or.inr ⟨by rfl, rfl⟩) ?_ ?_
    rotate_left
    ·simp only [Act.put, xA, xB, xC, i64_w, i32_w]
     rfl
    refine pure_ (i := 15) (N := some 27) (v := undef) (a' := ?_) #[true, true, true, true, true, true, true, true, true, true, true, true, true, true, true, true, false, false, false, false, false, false, false, false] rfl rfl zz (fun _ _ _ h => h) (Or.inr ⟨by rfl, rfl⟩) ?_ ?_
    rotate_left
    ·simp only [Act.put, xA, xB, xC, i64_w, i32_w]
     rfl
    refine pure_ (i := 16) (N := some 28) (v := undef) (a' := ?_) #[true, true, true, true, true, true, true, true, true, true, true, true, true, true, true, true, true, false, false, false, false, false, false, false] rfl rfl zz (fun _ _ _ h => h) (Or.inr ⟨by rfl, rfl⟩) ?_ ?_
    rotate_left
    ·simp only [Act.put, xA, xB, xC, i64_w, i32_w]
     rfl
    refine pure_ (i := 17) (N := some 29) (v := undef) (a' := ?_) #[true, true, true, true, true, true, true, true, true, true, true, true, true, true, true, true, true, true, false, false, false, false, false, false] rfl rfl zz (fun _ _ _ h => h) (Or.inr ⟨by rfl, rfl⟩) ?_ ?_
    rotate_left
    ·simp only [Act.put, xA, xB, xC, i64_w, i32_w]
     rfl
    refine pure_ (i := 18) (N := some 30) (v := undef) (a' := ?_) #[true, true, true, true, true, true, true, true, true, true, true, true, true, true, true, true, true, true, true, false, false, false, false, false] rfl rfl zz (fun _ _ _ h => h) (Or.inr ⟨by rfl, rfl⟩) ?_ ?_
    rotate_left
    ·simp only [Act.put, xA, xB, xC, i64_w, i32_w]
     rfl
    refine pure_ (i := 19) (N := some 31) (v := undef) (a' := ?_) #[true, true, true, true, true, true, true, true, true, true, true, true, true, true, true, true, true, true, true, true, false, false, false, false] rfl rfl zz (fun _ _ _ h => h) (Or.inr ⟨by rfl, rfl⟩) ?_ ?_
    rotate_left
    ·simp only [Act.put, xA, xB, xC, i64_w, i32_w]
     rfl
    refine pure_ (i := 20) (N := some 32) (v := undef) (a' := ?_) #[true, true, true, true, true, true, true, true, true, true, true, true, true, true, true, true, true, true, true, true, true, false, false, false] rfl rfl zz (fun _ _ _ h => h) (Or.inr ⟨by rfl, rfl⟩) ?_ ?_
    rotate_left
    ·simp only [Act.put, xA, xB, xC, i64_w, i32_w]
     rfl
    refine pure_ (i := 21) (N := some 33) (v := undef) (a' := ?_) #[true, true, true, true, true, true, true, true, true, true, true, true, true, true, true, true, true, true, true, true, true, true, false, false] rfl rfl zz (fun _ _ _ h => h) (Or.inr ⟨by rfl, rfl⟩) ?_ ?_
    rotate_left
    ·simp only [Act.put, xA, xB, xC, i64_w, i32_w]
     rfl
    refine pure_ (i := 22) (N := some 34) (v := ?_) (a' := ?_) #[true, true, true, true, true, true, true, true, true, true, true, true, true, true, true, true, true, true, true, true, true, true, true, false] rfl rfl zz (fun _ _ _ h => h) (Or.inl ⟨by rfl, ?_⟩) ?_ ?_
    rotate_left
    ·intro w'
     go_simp
     with_reducible rfl
    rotate_left
    ·simp only [Act.put, xA, xB, xC, i64_w, i32_w]
     rfl
    refine pure_ (i := 23) (N := some 35) (v := ?_) (a' := ?_) #[true, true, true, true, true, true, true, true, true, true, true, true, true, true, true, true, true, true, true, true, true, true, true, true] rfl rfl zz (fun _ _ _ h => h) (Or.inl ⟨by rfl, ?_⟩) ?_ ?_
    rotate_left
    ·intro w'
     go_simp
     with_reducible rfl
    rotate_left
    ·simp only [Act.put, xA, xB, xC, i64_w, i32_w]
     rfl
    refine done_ (done_of HT_.out (by kernel_rfl)) ?_
    try go_wp2
    go_roundg k1
    case measure => have := HK1.out; omega
    case rel => exact ⟨(wrap64 (x7_1 + 1)), zr, H', ⟨by have := HK1.out; omega⟩, ⟨zs GE330.out⟩⟩
   rw [if_pos c9] at H
   have c9b0 : decide (0 < x7_1) = true := decide_eq_true c9
   clear c9
   obtain ⟨ji10, hji10⟩ : ∃ j_ : Int, (wrap64 (x7_1 - 1)) = j_ := ⟨_, rfl⟩
   replace H : (if 0 ≤ (ji10) then (if (ji10) < (l0.length : Int) then ((impl_compareCells.f ((rd_T25 l0 (ji10)).f0) ((rd_T25 l0 (ji10)).f1) ((rd_T25 l0 x7_1).f0) ((rd_T25 l0 x7_1).f1)).bind fun t334 => (if t334 ≥ 0 then (some false) else (impl_IsShape.l0 k1 l0 l0 (l0.length : Int) (wrap64 (x7_1 + 1))))) else (none)) else (none)) = some r := by first | (rw [hji10] at H; exact H) | (simp only [hji10] at H ⊢; exact H)
   (try rw [hji10] at A5)
   (try rw [hji10] at A7)
   have hji10w : (IntKind.i64.wrap (x7_1 - 1)) = ji10 := (i64_w _).trans hji10
   by_cases c11 : 0 ≤ (ji10)
   rotate_left
   ·rw [if_neg c11] at H
    exact absurd H (by simp)
   rw [if_pos c11] at H
   have c11b0 : decide (0 ≤ (ji10)) = true := decide_eq_true c11
   clear c11
   by_cases c12 : (ji10) < (l0.length : Int)
   rotate_left
   ·rw [if_neg c12] at H
    exact absurd H (by simp)
   rw [if_pos c12] at H
   have c12b0 : decide ((ji10) < (l0.length : Int)) = true := decide_eq_true c12
   clear c12
   replace H := Option.bind_eq_some_iff.mp H
   obtain ⟨t334, A130, H⟩ := H
   replace H : (if t334 ≥ 0 then (some false) else (impl_IsShape.l0 k1 l0 l0 (l0.length : Int) (wrap64 (x7_1 + 1)))) = some r := H
   have A13 := aM A130
   clear A130
   by_cases c14 : t334 ≥ 0
   ·rw [if_pos c14] at H
    have c14b0 : decide (0 ≤ t334) = true := decide_eq_true c14
    clear c14
    obtain rfl := Option.some.inj H
    have p329 : 0 ≤ (x7_1 : Int) := of_decide_eq_true za
    have q329 : x7_1 < (l0.length : Int) := of_decide_eq_true za
    obtain ⟨ad329, e329, hx329_0, hx329_1⟩ := at_T25 HR0.out x7_1 p329 q329
    cases e329
    replace hx329_0 := (HB.out.cell (World.block_lt_of_cell? w _ hx329_0)).trans hx329_0
    replace hx329_1 := (HB.out.cell (World.block_lt_of_cell? w _ hx329_1)).trans hx329_1
    replace p329 := eq_true p329
    replace q329 := eq_true q329
    try go_wp2_with (first | ((with_reducible refine gate_dst (N := 4) rfl ?_); (try (refine gate_guard (by rfl) ?_; dsimp only)); refine box_event ?hg (N := 4) ?hd (cs := #[.int .i64 0, .int .i64 0]) (t := 25) ?hr ?_; (case hd => rfl); (case hg => rfl); (case hr => first | (go_simp; done) | (go_simp; rfl)); intro gb330 hg w15 hbox hb; have n0_ := aM (below_step zb hb); have n1_ := aM (hbox); have n2_ := aM ((ze : w.heap.size ≤ gb330)); have n3_ := aM ((ze : w.heap.size ≤ gb330)); clear HB; have HB := n0_; have BK330 := n1_; have GW330 := n2_; have GE330 := n3_; clear n0_ n1_ n2_ n3_; clear hb hbox hg; have hcz16_0 : w15.cell? ⟨gb330, 0, none⟩ = some (.int .i64 0) := (blk_cell BK330.out 0).trans rfl; have hcz16_1 : w15.cell? ⟨gb330, 1, none⟩ = some (.int .i64 0) := (blk_cell BK330.out 1).trans rfl; have hfz16_0 := blk_frozen BK330.out 0; have hfz16_1 := blk_frozen BK330.out 1))
    have n0_ : Aside0 (((w15.setCell ⟨gb330, 0, none⟩ (.int .i64 ((rd_T25 l0 x7_1).f0))).setCell ⟨gb330, 1, none⟩ (.int .i64 ((rd_T25 l0 x7_1).f1))).heap[gb330]? = some (.cells #[.int .i64 ((rd_T25 l0 x7_1).f0), .int .i64 ((rd_T25 l0 x7_1).f1)] 25 (0, 0))) := ⟨by (with_reducible repeat (first | refine blk_drewN ?_ _ | refine blk_drew ?_ | refine blk_alloc ?_ _)); refine blk_put (cs := #[.int .i64 ((rd_T25 l0 x7_1).f0), .int .i64 0]) ?_ 1 _ rfl; (with_reducible repeat (first | refine blk_drewN ?_ _ | refine blk_drew ?_ | refine blk_alloc ?_ _)); refine blk_put (cs := #[.int .i64 0, .int .i64 0]) ?_ 0 _ rfl; (with_reducible repeat (first | refine blk_drewN ?_ _ | refine blk_drew ?_ | refine blk_alloc ?_ _)); exact BK330.out⟩
    have n1_ : Aside0 (Below w.heap.size w ((w15.setCell ⟨gb330, 0, none⟩ (.int .i64 ((rd_T25 l0 x7_1).f0))).setCell ⟨gb330, 1, none⟩ (.int .i64 ((rd_T25 l0 x7_1).f1)))) := ⟨zs GE330.out⟩
    (try clear BK330)
    (try clear HB)
    generalize ((w15.setCell ⟨gb330, 0, none⟩ (.int .i64 ((rd_T25 l0 x7_1).f0))).setCell ⟨gb330, 1, none⟩ (.int .i64 ((rd_T25 l0 x7_1).f1))) = w17 at n0_ n1_ ⊢
    have BK330 := n0_
    have HB := n1_
    clear n0_ n1_
    have n0_ := aM (blk_drew BK330.out)
    have n1_ := aM (below_drew1 HB.out)
    clear BK330
    clear HB
    have BK330 := n0_
    have HB := n1_
    clear n0_ n1_
    have p333 : 0 ≤ ((ji10) : Int) := of_decide_eq_true za
    have q333 : (ji10) < (l0.length : Int) := of_decide_eq_true za
    obtain ⟨ad333, e333, hx333_0, hx333_1⟩ := at_T25 HR0.out (ji10) p333 q333
    have hw333_1 := hx333_1
    have hw333_0 := hx333_0
    obtain rfl : ad329 = ad333 := (by injection e333)
    replace hx333_0 := (HB.out.cell (World.block_lt_of_cell? w _ hx333_0)).trans hx333_0
    replace hx333_1 := (HB.out.cell (World.block_lt_of_cell? w _ hx333_1)).trans hx333_1
    replace p333 := eq_true p333
    replace q333 := eq_true q333
    refine start_ (n := 24) (S := fun w' => w'.cell? ⟨gb330, 0, none⟩ = some (.int .i64 ((rd_T25 l0 x7_1).f0)) ∧ w'.cell? ⟨gb330, 1, none⟩ = some (.int .i64 ((rd_T25 l0 x7_1).f1)) ∧ w'.cell? (ad329.add (((ji10)).toNat * 2)) = some (.int .i64 ((rd_T25 l0 (ji10)).f0)) ∧ w'.cell? ⟨(ad329.add (((ji10)).toNat * 2)).block, (ad329.add (((ji10)).toNat * 2)).off + 1, none⟩ = some (.int .i64 ((rd_T25 l0 (ji10)).f1))) (ds := []) #[false, false, false, false, false, false, false, false, false, false, false, false, false, false, false, false, false, false, false, false, false, false, false, false] (by kernel_rfl) rfl rfl ⟨(blk_cell BK330.out 0).trans rfl, (blk_cell BK330.out 1).trans rfl, ((HB.out.cell (World.block_lt_of_cell? w _ hw333_0)).trans hw333_0), ((HB.out.cell (World.block_lt_of_cell? w _ hw333_1)).trans hw333_1)⟩ (fun hHeld => ?_); refine with_tabW impl_IsShape.tab4 impl_IsShape.bits4 (fun HT_ HW_ => ?_)
    generalize w17.drew = w18 at BK330 HB hx333_0 hx333_1 hHeld ⊢
    refine pure_ (i := 0) (N := some 12) (v := ?_) (a' := ?_) #[true, false, false, false, false, false, false, false, false, false, false, false, false, false, false, false, false, false, false, false, false, false, false, false] rfl rfl zz (fun _ _ _ h => h) (Or.inl ⟨by rfl, ?_⟩) ?_ ?_
    rotate_left
    ·intro w'
     go_simp
     with_reducible rfl
    rotate_left
    ·simp only [Act.put, xA, xB, xC, i64_w, i32_w]
     rfl
    refine take_ (i := 1) (N := some 13) (v := ?_) (a' := ?_) #[true, true, false, false, false, false, false, false, false, false, false, false, false, false, false, false, false, false, false, false, false, false, false, false] rfl rfl (take_ofW HT_.out HW_.out (by kernel_rfl)) (fun _ _ _ h => h) (Or.inl ⟨by rfl, ?_⟩) hHeld ?_ ?_
    rotate_left
    ·rintro w' ⟨s0, s1, s2, s3⟩
     go_simp
     with_reducible rfl
    rotate_left
    ·simp only [Act.put, xA, xB, xC, i64_w, i32_w]
     rfl
    refine one_ (i := 2) (N := some 14) #[true, true, true, false, false, false, false, false, false, false, false, false, false, false, false, false, false, false, false, false, false, false, false, false] rfl rfl (one_of HT_.out (by kernel_rfl)) (by decide) (fun K hK => ?_)
    refine goes_ Tryz.func25 (by kernel_rfl) rfl #[.int .i64 ((rd_T25 l0 x7_1).f0)] (by rfl) rfl rfl zm ?_
    with_reducible refine (impl_isCoordinate.calls ((rd_T25 l0 x7_1).f0) true _ A5.out).mono ?_
    rintro e w' ⟨rfl, ⟨nd, rfl⟩⟩
    refine ⟨_, rfl, ?_⟩
    refine hK.out _ _ ⟨(blk_cell BK330.out 0).trans rfl, (blk_cell BK330.out 1).trans rfl, ((HB.out.cell (World.block_lt_of_cell? w _ hw333_0)).trans hw333_0), ((HB.out.cell (World.block_lt_of_cell? w _ hw333_1)).trans hw333_1)⟩ (fun hHeld => ?_)
    clear hK K
    refine norm_ (a' := ?_) ?_ ?_
    rotate_left
    ·show Act.put _ (some 14) _ = _
     simp only [Act.put, xA, xB, xC, i64_w, i32_w]
     rfl
    refine pure_ (i := 3) (N := some 15) (v := ?_) (a' := ?_) #[true, true, true, true, false, false, false, false, false, false, false, false, false, false, false, false, false, false, false, false, false, false, false, false] rfl rfl zz (fun _ _ _ h => h) (Or.inl ⟨by rfl, ?_⟩) ?_ ?_
    rotate_left
    ·intro w'
     go_simp
     with_reducible rfl
    rotate_left
    ·simp only [Act.put, xA, xB, xC, i64_w, i32_w]
     rfl
    refine pure_ (i := 4) (N := some 16) (v := ?_) (a' := ?_) #[true, true, true, true, true, false, false, false, false, false, false, false, false, false, false, false, false, false, false, false, false, false, false, false] rfl rfl zz (fun _ _ _ h => h) (Or.inl ⟨by rfl, ?_⟩) ?_ ?_
    rotate_left
    ·intro w'
     go_simp
     with_reducible rfl
    rotate_left
    ·simp only [Act.put, xA, xB, xC, i64_w, i32_w]
     rfl
    refine pure_ (i := 5) (N := some 17) (v := ?_) (a' := ?_) #[true, true, true, true, true, true, false, false, false, false, false, false, false, false, false, false, false, false, false, false, false, false, false, false] rfl rfl zz (fun _ _ _ h => h) (Or.inl ⟨by rfl, ?_⟩) ?_ ?_
    rotate_left
    ·intro w'
     go_simp
     with_reducible rfl
    rotate_left
    ·simp only [Act.put, xA, xB, xC, i64_w, i32_w]
     rfl
    refine take_ (i := 6) (N := some 18) (v := ?_) (a' := ?_) #[true, true, true, true, true, true, true, false, false, false, false, false, false, false, false, false, false, false, false, false, false, false, false, false] rfl rfl (take_ofW HT_.out HW_.out (by kernel_rfl)) (fun _ _ _ h => h) (Or.inl ⟨by rfl, ?_⟩) hHeld ?_ ?_
    rotate_left
    ·rintro w' ⟨s0, s1, s2, s3⟩
     go_simp
     with_reducible rfl
    rotate_left
    ·simp only [Act.put, xA, xB, xC, i64_w, i32_w]
     rfl
    refine one_ (i := 7) (N := some 19) #[true, true, true, true, true, true, true, true, false, false, false, false, false, false, false, false, false, false, false, false, false, false, false, false] rfl rfl (one_of HT_.out (by kernel_rfl)) (by decide) (fun K hK => ?_)
    refine goes_ Tryz.func25 (by kernel_rfl) rfl #[.int .i64 ((rd_T25 l0 x7_1).f1)] (by rfl) rfl rfl zm ?_
    with_reducible refine (impl_isCoordinate.calls ((rd_T25 l0 x7_1).f1) true _ A7.out).mono ?_
    rintro e w' ⟨rfl, ⟨nd, rfl⟩⟩
    refine ⟨_, rfl, ?_⟩
    refine hK.out _ _ ⟨(blk_cell BK330.out 0).trans rfl, (blk_cell BK330.out 1).trans rfl, ((HB.out.cell (World.block_lt_of_cell? w _ hw333_0)).trans hw333_0), ((HB.out.cell (World.block_lt_of_cell? w _ hw333_1)).trans hw333_1)⟩ (fun hHeld => ?_)
    clear hK K
    refine norm_ (a' := ?_) ?_ ?_
    rotate_left
    ·show Act.put _ (some 19) _ = _
     simp only [Act.put, xA, xB, xC, i64_w, i32_w]
     rfl
    refine pure_ (i := 8) (N := some 20) (v := ?_) (a' := ?_) #[true, true, true, true, true, true, true, true, true, false, false, false, false, false, false, false, false, false, false, false, false, false, false, false] rfl rfl zz (fun _ _ _ h => h) (Or.inl ⟨by rfl, ?_⟩) ?_ ?_
    rotate_left
    ·intro w'
     go_simp
     with_reducible rfl
    rotate_left
    ·simp only [Act.put, xA, xB, xC, i64_w, i32_w]
     rfl
    refine pure_ (i := 9) (N := some 21) (v := ?_) (a' := ?_) #[true, true, true, true, true, true, true, true, true, true, false, false, false, false, false, false, false, false, false, false, false, false, false, false] rfl rfl zz (fun _ _ _ h => h) (Or.inl ⟨by rfl, ?_⟩) ?_ ?_
    rotate_left
    ·intro w'
     go_simp
     with_reducible rfl
    rotate_left
    ·simp only [Act.put, xA, xB, xC, i64_w, i32_w]
     rfl
    refine pure_ (i := 10) (N := some 22) (v := ?_) (a' := ?_) #[true, true, true, true, true, true, true, true, true, true, true, false, false, false, false, false, false, false, false, false, false, false, false, false] rfl rfl zz (fun _ _ _ h => h) (Or.inl ⟨by rfl, ?_⟩) ?_ ?_
    rotate_left
    ·intro w'
     go_simp
     with_reducible rfl
    rotate_left
    ·simp only [Act.put, xA, xB, xC, i64_w, i32_w]
     rfl
    refine pure_ (i := 11) (N := some 23) (v := ?_) (a' := ?_) #[true, true, true, true, true, true, true, true, true, true, true, true, false, false, false, false, false, false, false, false, false, false, false, false] rfl rfl zz (fun _ _ _ h => h) (Or.inl ⟨by rfl, ?_⟩) ?_ ?_
    rotate_left
    ·intro w'
     go_simp
     with_reducible rfl
    rotate_left
    ·simp only [Act.put, xA, xB, xC, i64_w, i32_w]
     rfl
    refine pure_ (i := 12) (N := some 24) (v := ?_) (a' := ?_) #[true, true, true, true, true, true, true, true, true, true, true, true, true, false, false, false, false, false, false, false, false, false, false, false] rfl rfl zz (fun _ _ _ h => h) (Or.inl ⟨by rfl, ?_⟩) ?_ ?_
    rotate_left
    ·intro w'
     go_simp
     with_reducible rfl
    rotate_left
    ·simp only [Act.put, xA, xB, xC, i64_w, i32_w]
     rfl
    refine pure_ (i := 13) (N := some 25) (v := ?_) (a' := ?_) #[true, true, true, true, true, true, true, true, true, true, true, true, true, true, false, false, false, false, false, false, false, false, false, false] rfl rfl zz (fun _ _ _ h => h) (Or.inl ⟨by rfl, ?_⟩) ?_ ?_
    rotate_left
    ·intro w'
     go_simp
     with_reducible rfl
    rotate_left
    ·simp only [Act.put, xA, xB, xC, i64_w, i32_w]
     rfl
    refine pure_ (i := 14) (N := some 26) (v := ?_) (a' := ?_) #[true, true, true, true, true, true, true, true, true, true, true, true, true, true, true, false, false, false, false, false, false, false, false, false] rfl rfl zz (fun _ _ _ h => h) (Or.inl ⟨by rfl, ?_⟩) ?_ ?_
    rotate_left
    ·intro w'
     go_simp
     with_reducible rfl
    rotate_left
    ·simp only [Act.put, xA, xB, xC, i64_w, i32_w]
     rfl
    refine pure_ (i := 15) (N := some 27) (v := ?_) (a' := ?_) #[true, true, true, true, true, true, true, true, true, true, true, true, true, true, true, true, false, false, false, false, false, false, false, false] rfl rfl zz (fun _ _ _ h => h) (Or.inl ⟨by rfl, ?_⟩) ?_ ?_
    rotate_left
    ·intro w'
     go_simp
     with_reducible rfl
    rotate_left
    ·simp only [Act.put, xA, xB, xC, i64_w, i32_w]
     rfl
    refine pure_ (i := 16) (N := some 28) (v := ?_) (a' := ?_) #[true, true, true, true, true, true, true, true, true, true, true, true, true, true, true, true, true, false, false, false, false, false, false, false] rfl rfl zz (fun _ _ _ h => h) (Or.inl ⟨by rfl, ?_⟩) ?_ ?_
    rotate_left
    ·intro w'
     go_simp
     with_reducible rfl
    rotate_left
    ·simp only [Act.put, xA, xB, xC, i64_w, i32_w]
     rfl
    refine pure_ (i := 17) (N := some 29) (v := ?_) (a' := ?_) #[true, true, true, true, true, true, true, true, true, true, true, true, true, true, true, true, true, true, false, false, false, false, false, false] rfl rfl zz (fun _ _ _ h => h) (Or.inl ⟨by rfl, ?_⟩) ?_ ?_
    rotate_left
    ·intro w'
     go_simp
     with_reducible rfl
    rotate_left
    ·simp only [Act.put, xA, xB, xC, i64_w, i32_w]
     rfl
    refine take_ (i := 18) (N := some 30) (v := ?_) (a' := ?_) #[true, true, true, true, true, true, true, true, true, true, true, true, true, true, true, true, true, true, true, false, false, false, false, false] rfl rfl (take_ofW HT_.out HW_.out (by kernel_rfl)) (fun _ _ _ h => h) (Or.inl ⟨by rfl, ?_⟩) hHeld ?_ ?_
    rotate_left
    ·rintro w' ⟨s0, s1, s2, s3⟩
     go_simp
     with_reducible rfl
    rotate_left
    ·simp only [Act.put, xA, xB, xC, i64_w, i32_w]
     rfl
    refine take_ (i := 19) (N := some 31) (v := ?_) (a' := ?_) #[true, true, true, true, true, true, true, true, true, true, true, true, true, true, true, true, true, true, true, true, false, false, false, false] rfl rfl (take_ofW HT_.out HW_.out (by kernel_rfl)) (fun _ _ _ h => h) (Or.inl ⟨by rfl, ?_⟩) hHeld ?_ ?_
    rotate_left
    ·rintro w' ⟨s0, s1, s2, s3⟩
     go_simp
     with_reducible rfl
    rotate_left
    ·simp only [Act.put, xA, xB, xC, i64_w, i32_w]
     rfl
    refine one_ (i := 20) (N := some 32) #[true, true, true, true, true, true, true, true, true, true, true, true, true, true, true, true, true, true, true, true, true, false, false, false] rfl rfl (one_of HT_.out (by kernel_rfl)) (by decide) (fun K hK => ?_)
    refine goes_ Tryz.func48 (by kernel_rfl) rfl #[.agg #[.int .i64 ((rd_T25 l0 (ji10)).f0), .int .i64 ((rd_T25 l0 (ji10)).f1)], .agg #[.int .i64 ((rd_T25 l0 x7_1).f0), .int .i64 ((rd_T25 l0 x7_1).f1)]] (by rfl) rfl rfl (by (try simp only [mA, mB, mC]); first | done | (simp only [hji10]; rfl) | rfl | (simp only [lD, lT]; rfl)) ?_
    with_reducible refine (impl_compareCells.calls ((rd_T25 l0 (ji10)).f0) ((rd_T25 l0 (ji10)).f1) ((rd_T25 l0 x7_1).f0) ((rd_T25 l0 x7_1).f1) t334 _ A13.out).mono ?_
    rintro e w19 ⟨rfl, hb⟩
    refine ⟨_, rfl, ?_⟩
    have n0_ := aM (blk_below (g := gb330) (o := .cells #[.int .i64 ((rd_T25 l0 x7_1).f0), .int .i64 ((rd_T25 l0 x7_1).f1)] 25 (0, 0)) (mB_ BK330.out) hb)
    have n1_ := aM (below_step (zs GE330.out) hb)
    clear BK330
    clear HB
    have BK330 := n0_
    have HB := n1_
    clear n0_ n1_
    (try clear hb)
    (try clear hb2)
    (try clear hk)
    (try clear hi)
    refine hK.out _ _ ⟨(blk_cell BK330.out 0).trans rfl, (blk_cell BK330.out 1).trans rfl, ((HB.out.cell (World.block_lt_of_cell? w _ hw333_0)).trans hw333_0), ((HB.out.cell (World.block_lt_of_cell? w _ hw333_1)).trans hw333_1)⟩ (fun hHeld => ?_)
    clear hK K
    refine norm_ (a' := ?_) ?_ ?_
    rotate_left
    ·show Act.put _ (some 32) _ = _
     simp only [Act.put, xA, xB, xC, i64_w, i32_w]
     rfl
    refine pure_ (i := 21) (N := some 33) (v := ?_) (a' := ?_) #[true, true, true, true, true, true, true, true, true, true, true, true, true, true, true, true, true, true, true, true, true, true, false, false] rfl rfl zz (fun _ _ _ h => h) (Or.inl ⟨by rfl, ?_⟩) ?_ ?_
    rotate_left
    ·intro w'
     go_simp
     with_reducible rfl
    rotate_left
    ·simp only [Act.put, xA, xB, xC, i64_w, i32_w]
     rfl
    refine pure_ (i := 22) (N := some 34) (v := ?_) (a' := ?_) #[true, true, true, true, true, true, true, true, true, true, true, true, true, true, true, true, true, true, true, true, true, true, true, false] rfl rfl zz (fun _ _ _ h => h) (Or.inl ⟨by rfl, ?_⟩) ?_ ?_
    rotate_left
    ·intro w'
     go_simp
     with_reducible rfl
    rotate_left
    ·simp only [Act.put, xA, xB, xC, i64_w, i32_w]
     rfl
    refine pure_ (i := 23) (N := some 35) (v := ?_) (a' := ?_) #[true, true, true, true, true, true, true, true, true, true, true, true, true, true, true, true, true, true, true, true, true, true, true, true] rfl rfl zz (fun _ _ _ h => h) (Or.inl ⟨by rfl, ?_⟩) ?_ ?_
    rotate_left
    ·intro w'
     go_simp
     with_reducible rfl
    rotate_left
    ·simp only [Act.put, xA, xB, xC, i64_w, i32_w]
     rfl
    refine done_ (done_of HT_.out (by kernel_rfl)) ?_
    try go_wp2
    go_ret
    exact ⟨by first | rfl | (simp [errW_none, errW_some] <;> rfl) | (simp only [← hji10]; first | rfl | (simp [errW_none, errW_some] <;> rfl)) | (simp [*, errW_none, errW_some] <;> rfl), zs GE330.out⟩
   rw [if_neg c14] at H
   have c14b0 : decide (0 ≤ t334) = false := decide_eq_false c14
   clear c14
   have H' := aM H
   clear H
   have p329 : 0 ≤ (x7_1 : Int) := of_decide_eq_true za
   have q329 : x7_1 < (l0.length : Int) := of_decide_eq_true za
   obtain ⟨ad329, e329, hx329_0, hx329_1⟩ := at_T25 HR0.out x7_1 p329 q329
   cases e329
   replace hx329_0 := (HB.out.cell (World.block_lt_of_cell? w _ hx329_0)).trans hx329_0
   replace hx329_1 := (HB.out.cell (World.block_lt_of_cell? w _ hx329_1)).trans hx329_1
   replace p329 := eq_true p329
   replace q329 := eq_true q329
   try go_wp2_with (first | ((with_reducible refine gate_dst (N := 4) rfl ?_); (try (refine gate_guard (by rfl) ?_; dsimp only)); refine box_event ?hg (N := 4) ?hd (cs := #[.int .i64 0, .int .i64 0]) (t := 25) ?hr ?_; (case hd => rfl); (case hg => rfl); (case hr => first | (go_simp; done) | (go_simp; rfl)); intro gb330 hg w20 hbox hb; have n0_ := aM (below_step zb hb); have n1_ := aM (hbox); have n2_ := aM ((ze : w.heap.size ≤ gb330)); have n3_ := aM ((ze : w.heap.size ≤ gb330)); clear HB; have HB := n0_; have BK330 := n1_; have GW330 := n2_; have GE330 := n3_; clear n0_ n1_ n2_ n3_; clear hb hbox hg; have hcz21_0 : w20.cell? ⟨gb330, 0, none⟩ = some (.int .i64 0) := (blk_cell BK330.out 0).trans rfl; have hcz21_1 : w20.cell? ⟨gb330, 1, none⟩ = some (.int .i64 0) := (blk_cell BK330.out 1).trans rfl; have hfz21_0 := blk_frozen BK330.out 0; have hfz21_1 := blk_frozen BK330.out 1))
   have n0_ : Aside0 (((w20.setCell ⟨gb330, 0, none⟩ (.int .i64 ((rd_T25 l0 x7_1).f0))).setCell ⟨gb330, 1, none⟩ (.int .i64 ((rd_T25 l0 x7_1).f1))).heap[gb330]? = some (.cells #[.int .i64 ((rd_T25 l0 x7_1).f0), .int .i64 ((rd_T25 l0 x7_1).f1)] 25 (0, 0))) := ⟨by (with_reducible repeat (first | refine blk_drewN ?_ _ | refine blk_drew ?_ | refine blk_alloc ?_ _)); refine blk_put (cs := #[.int .i64 ((rd_T25 l0 x7_1).f0), .int .i64 0]) ?_ 1 _ rfl; (with_reducible repeat (first | refine blk_drewN ?_ _ | refine blk_drew ?_ | refine blk_alloc ?_ _)); refine blk_put (cs := #[.int .i64 0, .int .i64 0]) ?_ 0 _ rfl; (with_reducible repeat (first | refine blk_drewN ?_ _ | refine blk_drew ?_ | refine blk_alloc ?_ _)); exact BK330.out⟩
   have n1_ : Aside0 (Below w.heap.size w ((w20.setCell ⟨gb330, 0, none⟩ (.int .i64 ((rd_T25 l0 x7_1).f0))).setCell ⟨gb330, 1, none⟩ (.int .i64 ((rd_T25 l0 x7_1).f1)))) := ⟨zs GE330.out⟩
   (try clear BK330)
   (try clear HB)
   generalize ((w20.setCell ⟨gb330, 0, none⟩ (.int .i64 ((rd_T25 l0 x7_1).f0))).setCell ⟨gb330, 1, none⟩ (.int .i64 ((rd_T25 l0 x7_1).f1))) = w22 at n0_ n1_ ⊢
   have BK330 := n0_
   have HB := n1_
   clear n0_ n1_
   have n0_ := aM (blk_drew BK330.out)
   have n1_ := aM (below_drew1 HB.out)
   clear BK330
   clear HB
   have BK330 := n0_
   have HB := n1_
   clear n0_ n1_
   have p333 : 0 ≤ ((ji10) : Int) := of_decide_eq_true za
   have q333 : (ji10) < (l0.length : Int) := of_decide_eq_true za
   obtain ⟨ad333, e333, hx333_0, hx333_1⟩ := at_T25 HR0.out (ji10) p333 q333
   have hw333_1 := hx333_1
   have hw333_0 := hx333_0
   obtain rfl : ad329 = ad333 := (by injection e333)
   replace hx333_0 := (HB.out.cell (World.block_lt_of_cell? w _ hx333_0)).trans hx333_0
   replace hx333_1 := (HB.out.cell (World.block_lt_of_cell? w _ hx333_1)).trans hx333_1
   replace p333 := eq_true p333
   replace q333 := eq_true q333
   refine start_ (n := 24) (S := fun w' => w'.cell? ⟨gb330, 0, none⟩ = some (.int .i64 ((rd_T25 l0 x7_1).f0)) ∧ w'.cell? ⟨gb330, 1, none⟩ = some (.int .i64 ((rd_T25 l0 x7_1).f1)) ∧ w'.cell? (ad329.add (((ji10)).toNat * 2)) = some (.int .i64 ((rd_T25 l0 (ji10)).f0)) ∧ w'.cell? ⟨(ad329.add (((ji10)).toNat * 2)).block, (ad329.add (((ji10)).toNat * 2)).off + 1, none⟩ = some (.int .i64 ((rd_T25 l0 (ji10)).f1))) (ds := []) #[false, false, false, false, false, false, false, false, false, false, false, false, false, false, false, false, false, false, false, false, false, false, false, false] (by kernel_rfl) rfl rfl ⟨(blk_cell BK330.out 0).trans rfl, (blk_cell BK330.out 1).trans rfl, ((HB.out.cell (World.block_lt_of_cell? w _ hw333_0)).trans hw333_0), ((HB.out.cell (World.block_lt_of_cell? w _ hw333_1)).trans hw333_1)⟩ (fun hHeld => ?_); refine with_tabW impl_IsShape.tab4 impl_IsShape.bits4 (fun HT_ HW_ => ?_)
   generalize w22.drew = w23 at BK330 HB hx333_0 hx333_1 hHeld ⊢
   refine pure_ (i := 0) (N := some 12) (v := ?_) (a' := ?_) #[true, false, false, false, false, false, false, false, false, false, false, false, false, false, false, false, false, false, false, false, false, false, false, false] rfl rfl zz (fun _ _ _ h => h) (Or.inl ⟨by rfl, ?_⟩) ?_ ?_
   rotate_left
   ·intro w'
    go_simp
    with_reducible rfl
   rotate_left
   ·simp only [Act.put, xA, xB, xC, i64_w, i32_w]
    rfl
   refine take_ (i := 1) (N := some 13) (v := ?_) (a' := ?_) #[true, true, false, false, false, false, false, false, false, false, false, false, false, false, false, false, false, false, false, false, false, false, false, false] rfl rfl (take_ofW HT_.out HW_.out (by kernel_rfl)) (fun _ _ _ h => h) (Or.inl ⟨by rfl, ?_⟩) hHeld ?_ ?_
   rotate_left
   ·rintro w' ⟨s0, s1, s2, s3⟩
    go_simp
    with_reducible rfl
   rotate_left
   ·simp only [Act.put, xA, xB, xC, i64_w, i32_w]
    rfl
   refine one_ (i := 2) (N := some 14) #[true, true, true, false, false, false, false, false, false, false, false, false, false, false, false, false, false, false, false, false, false, false, false, false] rfl rfl (one_of HT_.out (by kernel_rfl)) (by decide) (fun K hK => ?_)
   refine goes_ Tryz.func25 (by kernel_rfl) rfl #[.int .i64 ((rd_T25 l0 x7_1).f0)] (by rfl) rfl rfl zm ?_
   with_reducible refine (impl_isCoordinate.calls ((rd_T25 l0 x7_1).f0) true _ A5.out).mono ?_
   rintro e w' ⟨rfl, ⟨nd, rfl⟩⟩
   refine ⟨_, rfl, ?_⟩
   refine hK.out _ _ ⟨(blk_cell BK330.out 0).trans rfl, (blk_cell BK330.out 1).trans rfl, ((HB.out.cell (World.block_lt_of_cell? w _ hw333_0)).trans hw333_0), ((HB.out.cell (World.block_lt_of_cell? w _ hw333_1)).trans hw333_1)⟩ (fun hHeld => ?_)
   clear hK K
   refine norm_ (a' := ?_) ?_ ?_
   rotate_left
   ·show Act.put _ (some 14) _ = _
    simp only [Act.put, xA, xB, xC, i64_w, i32_w]
    rfl
   refine pure_ (i := 3) (N := some 15) (v := ?_) (a' := ?_) #[true, true, true, true, false, false, false, false, false, false, false, false, false, false, false, false, false, false, false, false, false, false, false, false] rfl rfl zz (fun _ _ _ h => h) (Or.inl ⟨by rfl, ?_⟩) ?_ ?_
   rotate_left
   ·intro w'
    go_simp
    with_reducible rfl
   rotate_left
   ·simp only [Act.put, xA, xB, xC, i64_w, i32_w]
    rfl
   refine pure_ (i := 4) (N := some 16) (v := ?_) (a' := ?_) #[true, true, true, true, true, false, false, false, false, false, false, false, false, false, false, false, false, false, false, false, false, false, false, false] rfl rfl zz (fun _ _ _ h => h) (Or.inl ⟨by rfl, ?_⟩) ?_ ?_
   rotate_left
   ·intro w'
    go_simp
    with_reducible rfl
   rotate_left
   ·simp only [Act.put, xA, xB, xC, i64_w, i32_w]
    rfl
   refine pure_ (i := 5) (N := some 17) (v := ?_) (a' := ?_) #[true, true, true, true, true, true, false, false, false, false, false, false, false, false, false, false, false, false, false, false, false, false, false, false] rfl rfl zz (fun _ _ _ h => h) (Or.inl ⟨by rfl, ?_⟩) ?_ ?_
   rotate_left
   ·intro w'
    go_simp
    with_reducible rfl
   rotate_left
   ·simp only [Act.put, xA, xB, xC, i64_w, i32_w]
    rfl
   refine take_ (i := 6) (N := some 18) (v := ?_) (a' := ?_) #[true, true, true, true, true, true, true, false, false, false, false, false, false, false, false, false, false, false, false, false, false, false, false, false] rfl rfl (take_ofW HT_.out HW_.out (by kernel_rfl)) (fun _ _ _ h => h) (Or.inl ⟨by rfl, ?_⟩) hHeld ?_ ?_
   rotate_left
   ·rintro w' ⟨s0, s1, s2, s3⟩
    go_simp
    with_reducible rfl
   rotate_left
   ·simp only [Act.put, xA, xB, xC, i64_w, i32_w]
    rfl
   refine one_ (i := 7) (N := some 19) #[true, true, true, true, true, true, true, true, false, false, false, false, false, false, false, false, false, false, false, false, false, false, false, false] rfl rfl (one_of HT_.out (by kernel_rfl)) (by decide) (fun K hK => ?_)
   refine goes_ Tryz.func25 (by kernel_rfl) rfl #[.int .i64 ((rd_T25 l0 x7_1).f1)] (by rfl) rfl rfl zm ?_
   with_reducible refine (impl_isCoordinate.calls ((rd_T25 l0 x7_1).f1) true _ A7.out).mono ?_
   rintro e w' ⟨rfl, ⟨nd, rfl⟩⟩
   refine ⟨_, rfl, ?_⟩
   refine hK.out _ _ ⟨(blk_cell BK330.out 0).trans rfl, (blk_cell BK330.out 1).trans rfl, ((HB.out.cell (World.block_lt_of_cell? w _ hw333_0)).trans hw333_0), ((HB.out.cell (World.block_lt_of_cell? w _ hw333_1)).trans hw333_1)⟩ (fun hHeld => ?_)
   clear hK K
   refine norm_ (a' := ?_) ?_ ?_
   rotate_left
   ·show Act.put _ (some 19) _ = _
    simp only [Act.put, xA, xB, xC, i64_w, i32_w]
    rfl
   refine pure_ (i := 8) (N := some 20) (v := ?_) (a' := ?_) #[true, true, true, true, true, true, true, true, true, false, false, false, false, false, false, false, false, false, false, false, false, false, false, false] rfl rfl zz (fun _ _ _ h => h) (Or.inl ⟨by rfl, ?_⟩) ?_ ?_
   rotate_left
   ·intro w'
    go_simp
    with_reducible rfl
   rotate_left
   ·simp only [Act.put, xA, xB, xC, i64_w, i32_w]
    rfl
   refine pure_ (i := 9) (N := some 21) (v := ?_) (a' := ?_) #[true, true, true, true, true, true, true, true, true, true, false, false, false, false, false, false, false, false, false, false, false, false, false, false] rfl rfl zz (fun _ _ _ h => h) (Or.inl ⟨by rfl, ?_⟩) ?_ ?_
   rotate_left
   ·intro w'
    go_simp
    with_reducible rfl
   rotate_left
   ·simp only [Act.put, xA, xB, xC, i64_w, i32_w]
    rfl
   refine pure_ (i := 10) (N := some 22) (v := ?_) (a' := ?_) #[true, true, true, true, true, true, true, true, true, true, true, false, false, false, false, false, false, false, false, false, false, false, false, false] rfl rfl zz (fun _ _ _ h => h) (Or.inl ⟨by rfl, ?_⟩) ?_ ?_
   rotate_left
   ·intro w'
    go_simp
    with_reducible rfl
   rotate_left
   ·simp only [Act.put, xA, xB, xC, i64_w, i32_w]
    rfl
   refine pure_ (i := 11) (N := some 23) (v := ?_) (a' := ?_) #[true, true, true, true, true, true, true, true, true, true, true, true, false, false, false, false, false, false, false, false, false, false, false, false] rfl rfl zz (fun _ _ _ h => h) (Or.inl ⟨by rfl, ?_⟩) ?_ ?_
   rotate_left
   ·intro w'
    go_simp
    with_reducible rfl
   rotate_left
   ·simp only [Act.put, xA, xB, xC, i64_w, i32_w]
    rfl
   refine pure_ (i := 12) (N := some 24) (v := ?_) (a' := ?_) #[true, true, true, true, true, true, true, true, true, true, true, true, true, false, false, false, false, false, false, false, false, false, false, false] rfl rfl zz (fun _ _ _ h => h) (Or.inl ⟨by rfl, ?_⟩) ?_ ?_
   rotate_left
   ·intro w'
    go_simp
    with_reducible rfl
   rotate_left
   ·simp only [Act.put, xA, xB, xC, i64_w, i32_w]
    rfl
   refine pure_ (i := 13) (N := some 25) (v := ?_) (a' := ?_) #[true, true, true, true, true, true, true, true, true, true, true, true, true, true, false, false, false, false, false, false, false, false, false, false] rfl rfl zz (fun _ _ _ h => h) (Or.inl ⟨by rfl, ?_⟩) ?_ ?_
   rotate_left
   ·intro w'
    go_simp
    with_reducible rfl
   rotate_left
   ·simp only [Act.put, xA, xB, xC, i64_w, i32_w]
    rfl
   refine pure_ (i := 14) (N := some 26) (v := ?_) (a' := ?_) #[true, true, true, true, true, true, true, true, true, true, true, true, true, true, true, false, false, false, false, false, false, false, false, false] rfl rfl zz (fun _ _ _ h => h) (Or.inl ⟨by rfl, ?_⟩) ?_ ?_
   rotate_left
   ·intro w'
    go_simp
    with_reducible rfl
   rotate_left
   ·simp only [Act.put, xA, xB, xC, i64_w, i32_w]
    rfl
   refine pure_ (i := 15) (N := some 27) (v := ?_) (a' := ?_) #[true, true, true, true, true, true, true, true, true, true, true, true, true, true, true, true, false, false, false, false, false, false, false, false] rfl rfl zz (fun _ _ _ h => h) (Or.inl ⟨by rfl, ?_⟩) ?_ ?_
   rotate_left
   ·intro w'
    go_simp
    with_reducible rfl
   rotate_left
   ·simp only [Act.put, xA, xB, xC, i64_w, i32_w]
    rfl
   refine pure_ (i := 16) (N := some 28) (v := ?_) (a' := ?_) #[true, true, true, true, true, true, true, true, true, true, true, true, true, true, true, true, true, false, false, false, false, false, false, false] rfl rfl zz (fun _ _ _ h => h) (Or.inl ⟨by rfl, ?_⟩) ?_ ?_
   rotate_left
   ·intro w'
    go_simp
    with_reducible rfl
   rotate_left
   ·simp only [Act.put, xA, xB, xC, i64_w, i32_w]
    rfl
   refine pure_ (i := 17) (N := some 29) (v := ?_) (a' := ?_) #[true, true, true, true, true, true, true, true, true, true, true, true, true, true, true, true, true, true, false, false, false, false, false, false] rfl rfl zz (fun _ _ _ h => h) (Or.inl ⟨by rfl, ?_⟩) ?_ ?_
   rotate_left
   ·intro w'
    go_simp
    with_reducible rfl
   rotate_left
   ·simp only [Act.put, xA, xB, xC, i64_w, i32_w]
    rfl
   refine take_ (i := 18) (N := some 30) (v := ?_) (a' := ?_) #[true, true, true, true, true, true, true, true, true, true, true, true, true, true, true, true, true, true, true, false, false, false, false, false] rfl rfl (take_ofW HT_.out HW_.out (by kernel_rfl)) (fun _ _ _ h => h) (Or.inl ⟨by rfl, ?_⟩) hHeld ?_ ?_
   rotate_left
   ·rintro w' ⟨s0, s1, s2, s3⟩
    go_simp
    with_reducible rfl
   rotate_left
   ·simp only [Act.put, xA, xB, xC, i64_w, i32_w]
    rfl
   refine take_ (i := 19) (N := some 31) (v := ?_) (a' := ?_) #[true, true, true, true, true, true, true, true, true, true, true, true, true, true, true, true, true, true, true, true, false, false, false, false] rfl rfl (take_ofW HT_.out HW_.out (by kernel_rfl)) (fun _ _ _ h => h) (Or.inl ⟨by rfl, ?_⟩) hHeld ?_ ?_
   rotate_left
   ·rintro w' ⟨s0, s1, s2, s3⟩
    go_simp
    with_reducible rfl
   rotate_left
   ·simp only [Act.put, xA, xB, xC, i64_w, i32_w]
    rfl
   refine one_ (i := 20) (N := some 32) #[true, true, true, true, true, true, true, true, true, true, true, true, true, true, true, true, true, true, true, true, true, false, false, false] rfl rfl (one_of HT_.out (by kernel_rfl)) (by decide) (fun K hK => ?_)
   refine goes_ Tryz.func48 (by kernel_rfl) rfl #[.agg #[.int .i64 ((rd_T25 l0 (ji10)).f0), .int .i64 ((rd_T25 l0 (ji10)).f1)], .agg #[.int .i64 ((rd_T25 l0 x7_1).f0), .int .i64 ((rd_T25 l0 x7_1).f1)]] (by rfl) rfl rfl (by (try simp only [mA, mB, mC]); first | done | (simp only [hji10]; rfl) | rfl | (simp only [lD, lT]; rfl)) ?_
   with_reducible refine (impl_compareCells.calls ((rd_T25 l0 (ji10)).f0) ((rd_T25 l0 (ji10)).f1) ((rd_T25 l0 x7_1).f0) ((rd_T25 l0 x7_1).f1) t334 _ A13.out).mono ?_
   rintro e w24 ⟨rfl, hb⟩
   refine ⟨_, rfl, ?_⟩
   have n0_ := aM (blk_below (g := gb330) (o := .cells #[.int .i64 ((rd_T25 l0 x7_1).f0), .int .i64 ((rd_T25 l0 x7_1).f1)] 25 (0, 0)) (mB_ BK330.out) hb)
   have n1_ := aM (below_step (zs GE330.out) hb)
   clear BK330
   clear HB
   have BK330 := n0_
   have HB := n1_
   clear n0_ n1_
   (try clear hb)
   (try clear hb2)
   (try clear hk)
   (try clear hi)
   refine hK.out _ _ ⟨(blk_cell BK330.out 0).trans rfl, (blk_cell BK330.out 1).trans rfl, ((HB.out.cell (World.block_lt_of_cell? w _ hw333_0)).trans hw333_0), ((HB.out.cell (World.block_lt_of_cell? w _ hw333_1)).trans hw333_1)⟩ (fun hHeld => ?_)
   clear hK K
   refine norm_ (a' := ?_) ?_ ?_
   rotate_left
   ·show Act.put _ (some 32) _ = _
    simp only [Act.put, xA, xB, xC, i64_w, i32_w]
    rfl
   refine pure_ (i := 21) (N := some 33) (v := ?_) (a' := ?_) #[true, true, true, true, true, true, true, true, true, true, true, true, true, true, true, true, true, true, true, true, true, true, false, false] rfl rfl zz (fun _ _ _ h => h) (Or.inl ⟨by rfl, ?_⟩) ?_ ?_
   rotate_left
   ·intro w'
    go_simp
    with_reducible rfl
   rotate_left
   ·simp only [Act.put, xA, xB, xC, i64_w, i32_w]
    rfl
   refine pure_ (i := 22) (N := some 34) (v := ?_) (a' := ?_) #[true, true, true, true, true, true, true, true, true, true, true, true, true, true, true, true, true, true, true, true, true, true, true, false] rfl rfl zz (fun _ _ _ h => h) (Or.inl ⟨by rfl, ?_⟩) ?_ ?_
   rotate_left
   ·intro w'
    go_simp
    with_reducible rfl
   rotate_left
   ·simp only [Act.put, xA, xB, xC, i64_w, i32_w]
    rfl
   refine pure_ (i := 23) (N := some 35) (v := ?_) (a' := ?_) #[true, true, true, true, true, true, true, true, true, true, true, true, true, true, true, true, true, true, true, true, true, true, true, true] rfl rfl zz (fun _ _ _ h => h) (Or.inl ⟨by rfl, ?_⟩) ?_ ?_
   rotate_left
   ·intro w'
    go_simp
    with_reducible rfl
   rotate_left
   ·simp only [Act.put, xA, xB, xC, i64_w, i32_w]
    rfl
   refine done_ (done_of HT_.out (by kernel_rfl)) ?_
   try go_wp2
   go_roundg k1
   case measure => have := HK1.out; omega
   case rel => exact ⟨(wrap64 (x7_1 + 1)), zr, H', ⟨by have := HK1.out; omega⟩, ⟨zs GE330.out⟩⟩
end Go.Proofs.YtlnliahadgmbcaaGreat.F
end
section
namespace Go.Proofs.YtlnliahadgmbcaaGreat.F
open Go.RowKit Go.Proofs.YtlnliahadgmbcaaGreatW.PrintWords Go.Proofs.YtlnliahadgmbcaaGreatW.PrintLast Go.Proofs.YtlnliahadgmbcaaGreatW.PrintMore
attribute [local go_sem] max2_int min2_int max_two min_two max_three min_three max_four min_four
set_option linter.unusedVariables false
set_option linter.unusedSimpArgs false
attribute [local go_sem high] eqA25
def IsEl (W : World) (A : Option Addr) (l : List (List S25)) (v : Value) (r : List S25) : Prop := ∃ (ad : Addr) (i : Int), A = some ad ∧ 0 ≤ i ∧ i < (l.length : Int) ∧ r = rd_L2 l i ∧ W.cell? (ad.add i.toNat) = some v
theorem IsEl.at {W : World} {ad : Addr} {l : List (List S25)} {v : Value} {i : Int} (h : W.cell? (ad.add i.toNat) = some v) (h0 : 0 ≤ i) (h1 : i < (l.length : Int)) : IsEl W (some ad) l v (rd_L2 l i) := ⟨ad, i, rfl, h0, h1, rfl, h⟩
theorem IsEl.below {W w1 : World} {A : Option Addr} {l : List (List S25)} {v : Value} {r : List S25} (h : IsEl W A l v r) (hb : Below W.heap.size W w1) : IsEl w1 A l v r := by
 obtain ⟨ad, i, h1, h2, h3, h4, h5⟩ := h
 exact ⟨ad, i, h1, h2, h3, h4, pw_cell_below hb h5⟩
theorem S_el {W : World} {base n c e : Nat} {ok : Nat → Prop} {A : Option Addr} {xs : List (List S25)} {v : Value} {r : List S25} (h : Kd.S (Kd.slice 25 k25) e W base ok (.slice A n c) xs) (he : IsEl W A xs v r) : Kd.R k25 25 W base ok v r := by
 obtain ⟨ad, i, rfl, h0, h1, rfl, hc⟩ := he
 have hR := Kd.S_R h
 have hn : n = xs.length := (Kd.R_reads' hR).1
 obtain ⟨c', hcl, hM, hcc⟩ := Kd.R_getA hR [] i h0 (by rw [hn]; exact h1)
 obtain ⟨v', rfl, hv⟩ := hM
 have h2 := hcc 0 v' rfl
 rw [Nat.add_zero, show (Kd.slice 25 k25).sz = 1 from rfl, Nat.mul_one] at h2
 obtain rfl := Option.some.inj (h2.symm.trans hc)
 exact Kd.R_mono hv (fun _ hk => hk.1)
def impl_Cell_68__impl_compareShapes.l0 : Nat → List (List (S25)) → List (S25) → Int → Option ((List (S25)))
 | 0, _, _, _ => none
 | k + 1, x0, x5, x6 => if x6 < (x0.length : Int) then (if 0 ≤ x6 then ((impl_compareShapes.f k (rd_L2 x0 x6) x5).bind fun t337 => (if t337 < 0 then (impl_Cell_68__impl_compareShapes.l0 k x0 (rd_L2 x0 x6) (wrap64 (x6 + 1))) else (impl_Cell_68__impl_compareShapes.l0 k x0 x5 (wrap64 (x6 + 1))))) else (none)) else (some x5)
def impl_Cell_68__impl_compareShapes.f (k : Nat) (l0 : List (List (S25)))  : Option ((List (S25))) := if (l0.length : Int) < 1 then (none) else (if 0 < (l0.length : Int) then (impl_Cell_68__impl_compareShapes.l0 k l0 (rd_L2 l0 0) 1) else (none))
theorem impl_Cell_68__impl_compareShapes.callsE (k : Nat) (P0_ : Nat → Prop) (A0 : Option Addr) (c0 : Nat) (l0 : List (List (S25)))  (r : List (S25)) (w : World) (hs0 : Kd.V (Kd.slice 25 k25) 27 w w.heap.size (fun k_ => P0_ k_) (.slice A0 l0.length c0) l0) (h : impl_Cell_68__impl_compareShapes.f k l0 = some r) :
  Calls Tryz.prog 68 #[.slice A0 l0.length c0, .func (.func 65) #[] #[]] w fun e w' => ∃ v0_ : Value, e = .returned (v0_) ∧ Kd.V k25 25 w' w.heap.size (fun k_ => (P0_ k_ ∨ w.heap.size ≤ k_)) v0_ r ∧ Below w.heap.size w w' ∧ IsEl w' A0 l0 v0_ r := by
 have HO0 := aM (show Kd.V (Kd.slice 25 k25) 27 w w.heap.size (fun k_ => (P0_ k_ ∨ w.heap.size ≤ k_)) (.slice A0 l0.length c0) l0 from Kd.V_mono hs0 (fun k_ hk => .inl hk))
 have HB := aM (Below.refl w.heap.size w)
 have H : (if (l0.length : Int) < 1 then (none) else (if 0 < (l0.length : Int) then (impl_Cell_68__impl_compareShapes.l0 k l0 (rd_L2 l0 0) 1) else (none))) = some r := h
 clear h
 by_cases c3 : (l0.length : Int) < 1
 ·rw [if_pos c3] at H
  exact absurd H (by simp)
 rw [if_neg c3] at H
 have c3b0 : decide ((l0.length : Int) < 1) = false := decide_eq_false c3
 have c3b1 : decide (l0.length < 1) = false := decide_eq_false (by omega)
 clear c3
 by_cases c4 : 0 < (l0.length : Int)
 rotate_left
 ·rw [if_neg c4] at H
  exact absurd H (by simp)
 rw [if_pos c4] at H
 have c4b0 : decide (0 < (l0.length : Int)) = true := decide_eq_true c4
 have c4b1 : decide (0 < l0.length) = true := decide_eq_true (by omega)
 clear c4
 have H' := aM H
 clear H
 have p335 : 0 ≤ (0 : Int) := (by omega)
 have q335 : 0 < (l0.length : Int) := of_decide_eq_true za
 obtain ⟨ad335, A335_0, c335_0, e335, hx335_0, hl335_0, hi335_0⟩ := at_L2 (Kd.V_reads' HO0.out).2.2 0 p335 q335
 cases e335
 have HE := aM (IsEl.at hx335_0 p335 q335)
 obtain ⟨ce335, hce335, hMe335, hcc335⟩ := Kd.V_get HO0.out [] 0 p335 (by first | exact q335 | exact of_decide_eq_true za | (have e_ := (Kd.V_reads' HO0.out).1; omega))
 obtain ⟨ua335_0, uc335_0, rfl, ul335_0, ge335_0⟩ := Kd.FK_slice_open hMe335
 have hv335_0 := hcc335 0 _ rfl
 rw [Nat.add_zero, show ((Kd.slice 25 k25)).sz = 1 from rfl, Nat.mul_one] at hv335_0
 replace hv335_0 := Option.some.inj (hv335_0.symm.trans hx335_0)
 injection hv335_0 with hva_ hvn_ hvc_
 rw [hva_] at ge335_0
 rw [hvc_] at ul335_0
 have HL335_0 := aM (show Kd.V k25 25 _ w.heap.size _ _ (rd_L2 l0 0) from Kd.V_mk ul335_0 ge335_0)
 clear hva_ hvn_ hvc_ ge335_0 ul335_0
 clear hcc335 hce335
 have qi335 : (0 < l0.length) = True := eq_true (by omega)
 (try rw [show ((0 : Int)).toNat = 0 from rfl] at hx335_0)
 (try rw [Addr.add_zero'] at hx335_0)
 have HR335_0 := aM hi335_0
 have HC335_0 := aM hl335_0
 clear hi335_0 hl335_0
 replace p335 := eq_true p335
 replace q335 := eq_true q335
 go_enter Tryz.func68, Tryz.ntmps68
 go_wp2
 go_loopg [5, 6] k (fun kq v5 v6 w' => ∃ (x5_1 : List (S25)) (x6_1 : Int), v6 = .int .i64 x6_1 ∧ Aside0 (impl_Cell_68__impl_compareShapes.l0 kq l0 x5_1 x6_1 = some r) ∧ Aside0 (kq ≤ k) ∧ Aside0 (Kd.V (Kd.slice 25 k25) 27 w' w.heap.size (fun k_ => (P0_ k_ ∨ w.heap.size ≤ k_)) (.slice (some ad335) l0.length c0) l0) ∧ Aside0 (Kd.V k25 25 w' w.heap.size (fun k_ => (P0_ k_ ∨ w.heap.size ≤ k_)) v5 x5_1) ∧ Aside0 (Kd.C k25 w' A335_0 (rd_L2 l0 0).length (rd_L2 l0 0)) ∧ Aside0 (Below w.heap.size w w') ∧ Aside0 (IsEl w' (some ad335) l0 v5 x5_1))
 case atStart => exact ⟨(rd_L2 l0 0), (1), zr, H', ⟨Nat.le_refl _⟩, ⟨mV_ HO0.out⟩, ⟨mV_ HL335_0.out⟩, ⟨mQ_ HR335_0.out⟩, ⟨zb⟩, ⟨HE.out⟩⟩
 case round =>
  clear H'
  try clear p2
  try clear c3
  try clear c3b0
  try clear c3b1
  try clear p3
  try clear q3
  try clear hx3
  try clear qi3
  try clear c4
  try clear c4b0
  try clear c4b1
  try clear hx335_0
  try clear p335
  try clear q335
  obtain ⟨x5_1, x6_1, rfl, HA, HK1, HO_0, HO_5, HR335_0, HB, HE⟩ := hrel
  cases gk with
  | zero => exact absurd HA.out (by simp [impl_Cell_68__impl_compareShapes.l0])
  | succ k1 =>
   have H := HA.out
   clear HA
   simp only [impl_Cell_68__impl_compareShapes.l0] at H
   by_cases c5 : x6_1 < (l0.length : Int)
   rotate_left
   ·rw [if_neg c5] at H
    have c5b0 : decide (x6_1 < (l0.length : Int)) = false := decide_eq_false c5
    clear c5
    obtain rfl := Option.some.inj H
    go_wp2
    go_ret
    exact ⟨_, zw, mV_ HO_5.out, zb, HE.out⟩
   rw [if_pos c5] at H
   have c5b0 : decide (x6_1 < (l0.length : Int)) = true := decide_eq_true c5
   clear c5
   by_cases c6 : 0 ≤ x6_1
   rotate_left
   ·rw [if_neg c6] at H
    exact absurd H (by simp)
   rw [if_pos c6] at H
   have c6b0 : decide (0 ≤ x6_1) = true := decide_eq_true c6
   clear c6
   replace H := Option.bind_eq_some_iff.mp H
   obtain ⟨t337, A70, H⟩ := H
   replace H : (if t337 < 0 then (impl_Cell_68__impl_compareShapes.l0 k1 l0 (rd_L2 l0 x6_1) (wrap64 (x6_1 + 1))) else (impl_Cell_68__impl_compareShapes.l0 k1 l0 x5_1 (wrap64 (x6_1 + 1)))) = some r := H
   have A7 := aM A70
   clear A70
   by_cases c8 : t337 < 0
   ·rw [if_pos c8] at H
    have c8b0 : decide (t337 < 0) = true := decide_eq_true c8
    clear c8
    have H' := aM H
    clear H
    have p336 : 0 ≤ (x6_1 : Int) := of_decide_eq_true za
    have q336 : x6_1 < (l0.length : Int) := of_decide_eq_true za
    obtain ⟨ad336, A336_0, c336_0, e336, hx336_0, hl336_0, hi336_0⟩ := at_L2 (Kd.V_reads' HO_0.out).2.2 x6_1 p336 q336
    obtain rfl : ad335 = ad336 := (by injection e336)
    obtain ⟨ce336, hce336, hMe336, hcc336⟩ := Kd.V_get HO_0.out [] x6_1 p336 (by first | exact q336 | exact of_decide_eq_true za | (have e_ := (Kd.V_reads' HO_0.out).1; omega))
    obtain ⟨ua336_0, uc336_0, rfl, ul336_0, ge336_0⟩ := Kd.FK_slice_open hMe336
    have hv336_0 := hcc336 0 _ rfl
    rw [Nat.add_zero, show ((Kd.slice 25 k25)).sz = 1 from rfl, Nat.mul_one] at hv336_0
    replace hv336_0 := Option.some.inj (hv336_0.symm.trans hx336_0)
    injection hv336_0 with hva_ hvn_ hvc_
    rw [hva_] at ge336_0
    rw [hvc_] at ul336_0
    have HL336_0 := aM (show Kd.V k25 25 _ w.heap.size _ _ (rd_L2 l0 x6_1) from Kd.V_mk ul336_0 ge336_0)
    clear hva_ hvn_ hvc_ ge336_0 ul336_0
    clear hcc336 hce336
    have HR336_0 := aM hi336_0
    have HC336_0 := aM hl336_0
    clear hi336_0 hl336_0
    replace p336 := eq_true p336
    replace q336 := eq_true q336
    obtain ⟨Ao9, co9, eo9⟩ := Kd.V_slice HO_5.out
    subst eo9
    go_wp2_with (first | (go_at_call 65; (with_reducible refine (impl_compareShapes.calls k1 _ _ (rd_L2 l0 x6_1) _ _ x5_1 t337 _ ?side1 ?side2 ?side3 ?side4 A7.out).mono ?_); (case side1 => repeat (first | exact (mQ_ HR336_0.out) | (with_reducible refine Kd.C_alloc ?_ _) | (with_reducible refine Kd.C_drewN ?_ _) | (with_reducible refine Kd.C_drew ?_))); (case side2 => exact HC336_0.out); (case side3 => repeat (first | exact (Kd.V_reads' HO_5.out).2.2 | (with_reducible refine Kd.C_alloc ?_ _) | (with_reducible refine Kd.C_drewN ?_ _) | (with_reducible refine Kd.C_drew ?_))); (case side4 => exact (Kd.V_reads' HO_5.out).2.1); rintro e w10 ⟨rfl, hb⟩; have m0_ := aM (IsEl.below HE.out hb); clear HE; have HE := m0_; clear m0_; have n0_ := aM (Kd.V_below (mV_ HO_0.out) hb); have n1_ := aM (Kd.V_below (mV_ HO_5.out) hb); have n2_ := aM (Kd.V_below (mV_ HL336_0.out) hb); have n3_ := aM (Kd.C_below (mQ_ HR335_0.out) hb); have n4_ := aM (Kd.C_below (mQ_ HR336_0.out) hb); have n5_ := aM (below_step zb hb); clear HO_0; clear HO_5; clear HL336_0; clear HR335_0; clear HR336_0; clear HB; have HO_0 := n0_; have HO_5 := n1_; have HL336_0 := n2_; have HR335_0 := n3_; have HR336_0 := n4_; have HB := n5_; clear n0_ n1_ n2_ n3_ n4_ n5_; (try clear hb); (try clear hb2); (try clear hk); (try clear hi); have p338 : 0 ≤ (x6_1 : Int) := of_decide_eq_true za; have q338 : x6_1 < (l0.length : Int) := of_decide_eq_true za; obtain ⟨ad338, A338_0, c338_0, e338, hx338_0, hl338_0, hi338_0⟩ := at_L2 (Kd.V_reads' HO_0.out).2.2 x6_1 p338 q338; obtain rfl : ad335 = ad338 := (by injection e338); obtain ⟨ce338, hce338, hMe338, hcc338⟩ := Kd.V_get HO_0.out [] x6_1 p338 (by first | exact q338 | exact of_decide_eq_true za | (have e_ := (Kd.V_reads' HO_0.out).1; omega)); obtain ⟨ua338_0, uc338_0, rfl, ul338_0, ge338_0⟩ := Kd.FK_slice_open hMe338; have hv338_0 := hcc338 0 _ rfl; rw [Nat.add_zero, show ((Kd.slice 25 k25)).sz = 1 from rfl, Nat.mul_one] at hv338_0; replace hv338_0 := Option.some.inj (hv338_0.symm.trans hx338_0); injection hv338_0 with hva_ hvn_ hvc_; rw [hva_] at ge338_0; rw [hvc_] at ul338_0; have HL338_0 := aM (show Kd.V k25 25 _ w.heap.size _ _ (rd_L2 l0 x6_1) from Kd.V_mk ul338_0 ge338_0); clear hva_ hvn_ hvc_ ge338_0 ul338_0; clear hcc338 hce338; have HR338_0 := aM hi338_0; have HC338_0 := aM hl338_0; clear hi338_0 hl338_0; replace p338 := eq_true p338; replace q338 := eq_true q338))
    go_roundg k1
    case measure => have := HK1.out; omega
    case rel => exact ⟨(rd_L2 l0 x6_1), (wrap64 (x6_1 + 1)), zr, H', ⟨by have := HK1.out; omega⟩, ⟨mV_ HO_0.out⟩, ⟨mV_ HL338_0.out⟩, ⟨mQ_ HR335_0.out⟩, ⟨zb⟩, ⟨IsEl.at hx338_0 (of_eq_true p338) (of_eq_true q338)⟩⟩
   rw [if_neg c8] at H
   have c8b0 : decide (t337 < 0) = false := decide_eq_false c8
   clear c8
   have H' := aM H
   clear H
   have p336 : 0 ≤ (x6_1 : Int) := of_decide_eq_true za
   have q336 : x6_1 < (l0.length : Int) := of_decide_eq_true za
   obtain ⟨ad336, A336_0, c336_0, e336, hx336_0, hl336_0, hi336_0⟩ := at_L2 (Kd.V_reads' HO_0.out).2.2 x6_1 p336 q336
   obtain rfl : ad335 = ad336 := (by injection e336)
   obtain ⟨ce336, hce336, hMe336, hcc336⟩ := Kd.V_get HO_0.out [] x6_1 p336 (by first | exact q336 | exact of_decide_eq_true za | (have e_ := (Kd.V_reads' HO_0.out).1; omega))
   obtain ⟨ua336_0, uc336_0, rfl, ul336_0, ge336_0⟩ := Kd.FK_slice_open hMe336
   have hv336_0 := hcc336 0 _ rfl
   rw [Nat.add_zero, show ((Kd.slice 25 k25)).sz = 1 from rfl, Nat.mul_one] at hv336_0
   replace hv336_0 := Option.some.inj (hv336_0.symm.trans hx336_0)
   injection hv336_0 with hva_ hvn_ hvc_
   rw [hva_] at ge336_0
   rw [hvc_] at ul336_0
   have HL336_0 := aM (show Kd.V k25 25 _ w.heap.size _ _ (rd_L2 l0 x6_1) from Kd.V_mk ul336_0 ge336_0)
   clear hva_ hvn_ hvc_ ge336_0 ul336_0
   clear hcc336 hce336
   have HR336_0 := aM hi336_0
   have HC336_0 := aM hl336_0
   clear hi336_0 hl336_0
   replace p336 := eq_true p336
   replace q336 := eq_true q336
   obtain ⟨Ao11, co11, eo11⟩ := Kd.V_slice HO_5.out
   subst eo11
   go_wp2_with (first | (go_at_call 65; (with_reducible refine (impl_compareShapes.calls k1 _ _ (rd_L2 l0 x6_1) _ _ x5_1 t337 _ ?side1 ?side2 ?side3 ?side4 A7.out).mono ?_); (case side1 => repeat (first | exact (mQ_ HR336_0.out) | (with_reducible refine Kd.C_alloc ?_ _) | (with_reducible refine Kd.C_drewN ?_ _) | (with_reducible refine Kd.C_drew ?_))); (case side2 => exact HC336_0.out); (case side3 => repeat (first | exact (Kd.V_reads' HO_5.out).2.2 | (with_reducible refine Kd.C_alloc ?_ _) | (with_reducible refine Kd.C_drewN ?_ _) | (with_reducible refine Kd.C_drew ?_))); (case side4 => exact (Kd.V_reads' HO_5.out).2.1); rintro e w12 ⟨rfl, hb⟩; have m0_ := aM (IsEl.below HE.out hb); clear HE; have HE := m0_; clear m0_; have n0_ := aM (Kd.V_below (mV_ HO_0.out) hb); have n1_ := aM (Kd.V_below (mV_ HO_5.out) hb); have n2_ := aM (Kd.V_below (mV_ HL336_0.out) hb); have n3_ := aM (Kd.C_below (mQ_ HR335_0.out) hb); have n4_ := aM (Kd.C_below (mQ_ HR336_0.out) hb); have n5_ := aM (below_step zb hb); clear HO_0; clear HO_5; clear HL336_0; clear HR335_0; clear HR336_0; clear HB; have HO_0 := n0_; have HO_5 := n1_; have HL336_0 := n2_; have HR335_0 := n3_; have HR336_0 := n4_; have HB := n5_; clear n0_ n1_ n2_ n3_ n4_ n5_; (try clear hb); (try clear hb2); (try clear hk); (try clear hi)))
   go_roundg k1
   case measure => have := HK1.out; omega
   case rel => exact ⟨(x5_1), (wrap64 (x6_1 + 1)), zr, H', ⟨by have := HK1.out; omega⟩, ⟨mV_ HO_0.out⟩, ⟨mV_ HO_5.out⟩, ⟨mQ_ HR335_0.out⟩, ⟨zb⟩, ⟨HE.out⟩⟩
def impl_leastOf.f (k : Nat) (l0 : List (List (S25))) : Option ((List (S25))) := (impl_Cell_68__impl_compareShapes.f k l0).bind fun t339 => (some t339)
theorem impl_leastOf.callsE (k : Nat) (P0_ : Nat → Prop) (A0 : Option Addr) (c0 : Nat) (l0 : List (List (S25))) (r : List (S25)) (w : World) (hs0 : Kd.V (Kd.slice 25 k25) 27 w w.heap.size (fun k_ => P0_ k_) (.slice A0 l0.length c0) l0) (h : impl_leastOf.f k l0 = some r) :
  Calls Tryz.prog 54 #[.slice A0 l0.length c0] w fun e w' => ∃ v0_ : Value, e = .returned (v0_) ∧ Kd.V k25 25 w' w.heap.size (fun k_ => (P0_ k_ ∨ w.heap.size ≤ k_)) v0_ r ∧ Below w.heap.size w w' ∧ IsEl w' A0 l0 v0_ r := by
 have HO0 := aM (show Kd.V (Kd.slice 25 k25) 27 w w.heap.size (fun k_ => (P0_ k_ ∨ w.heap.size ≤ k_)) (.slice A0 l0.length c0) l0 from Kd.V_mono hs0 (fun k_ hk => .inl hk))
 have HB := aM (Below.refl w.heap.size w)
 have H : ((impl_Cell_68__impl_compareShapes.f k l0).bind fun t339 => (some t339)) = some r := h
 clear h
 replace H := Option.bind_eq_some_iff.mp H
 obtain ⟨t339, A20, H⟩ := H
 replace H : (some t339) = some r := H
 have A2 := aM A20
 clear A20
 obtain rfl := Option.some.inj H
 go_enter Tryz.func54, Tryz.ntmps54
 go_wp2_with (first | ((with_reducible refine gate_callee (f := 68) rfl ?_); refine goesL_ (some 4) rfl rfl Tryz.func68 (by kernel_rfl) rfl #[.slice A0 l0.length c0, .func (.func 65) #[] #[]] rfl zm ?_; (with_reducible refine (impl_Cell_68__impl_compareShapes.callsE k (fun k_ => (P0_ k_ ∨ w.heap.size ≤ k_)) _ _ l0  t339 _ ?side1 A2.out).mono ?_); (case side1 => exact HO0.out); rintro e w3 ⟨v340, rfl, ho0, hb, hel⟩; have HE := aM hel; clear hel; refine ⟨_, rfl, ?_⟩; have n0_ := aM (Kd.V_below (mV_ HO0.out) hb); have n1_ := aM (Kd.V_lower (Kd.V_mono (ok' := fun k_ => (P0_ k_ ∨ w.heap.size ≤ k_)) ho0 (fun k_ hk_ => Or.elim hk_ (fun hs_ => hs_) (fun hn_ => (.inr (Nat.le_trans (below_size zb) hn_))))) (below_size zb)); have n2_ := aM (below_step zb hb); clear HO0; clear HB; have HO0 := n0_; have HO341 := n1_; have HB := n2_; clear n0_ n1_ n2_; (try clear hb); (try clear hb2); (try clear hk); (try clear hi); (try clear ho0)))
 go_ret
 exact ⟨_, zw, mV_ HO341.out, zb, HE.out⟩
def impl_leastForm__impl_triangleForm.l0 : Nat → List (S25) → List (List (S25)) → Int → Option ((List (S25)) × Bool)
 | 0, _, _, _ => none
 | k + 1, x0, x6, x10 => if x10 < 12 then ((impl_triangleForm.f k x0 x10).bind fun t348 => ((impl_IsShape.f k t348).bind fun t351 => (if t351 = true then (if x6.length < 5864062014805 then (impl_leastForm__impl_triangleForm.l0 k x0 (x6 ++ [t348]) (wrap64 (x10 + 1))) else (none)) else (some (([] : List (S25)), false))))) else ((impl_leastOf.f k x6).bind fun t345 => (some (t345, true)))
def impl_leastForm__impl_triangleForm.f (k : Nat) (l0 : List (S25))  : Option ((List (S25)) × Bool) := impl_leastForm__impl_triangleForm.l0 k l0 (([] : List (List (S25)))) 0
theorem impl_leastForm__impl_triangleForm.calls (k : Nat) (A0 : Option Addr) (c0 : Nat) (l0 : List (S25))  (r1 : List (S25)) (r2 : Bool) (w : World) (hr0 : Kd.C k25 w A0 l0.length l0) (hc0 : l0.length ≤ c0) (h : impl_leastForm__impl_triangleForm.f k l0 = some (r1, r2)) :
  Calls Tryz.prog 36 #[.slice A0 l0.length c0, .func (.func 21) #[] #[]] w fun e w' => ∃ v0_ : Value, e = .returned (.tuple #[v0_, .bool r2]) ∧ Kd.R k25 25 w' w.heap.size (fun _ => True) v0_ r1 ∧ Below w.heap.size w w' := by
 have HR0 := aM hr0
 have HC0 := aM hc0
 clear hr0 hc0
 have HB := aM (Below.refl w.heap.size w)
 have H : (impl_leastForm__impl_triangleForm.l0 k l0 (([] : List (List (S25)))) 0) = some (r1, r2) := h
 clear h
 obtain ⟨y342, hy342⟩ : ∃ y_ : List (List (S25)), y_ = (([] : List (List (S25)))) := ⟨_, rfl⟩
 replace H : (impl_leastForm__impl_triangleForm.l0 k l0 y342 0) = some (r1, r2) := zy H hy342
 have Ny342 := aM hy342
 clear hy342
 have H' := aM H
 clear H
 go_enter Tryz.func36, Tryz.ntmps36
 go_wp2_with (first | ((with_reducible refine gate_dst (N := 9) rfl ?_); refine Kd.S_lit (Kd.slice 25 k25) _ 27 ?hg (N := 9) ?hd (xs := ([] : List (List (S25)))) (inner := []) (ok := fun _ => True) (okp := fun _ => True) ?hr ?hp (fun _ hk => hk) trivial (Below.refl _ _) (Nat.le_refl _) (by simp) ?_; (case hd => rfl); (case hg => rfl); (case hr => first | (go_simp; done) | (go_simp; rfl)); (case hp => exact (Reps.none _ _)); intro v343 w3 ho4 hb hg_ hnew_; clear hg_ hnew_; (first | rw [← Ny342.out] at ho4 | (simp only [Int.reduceToNat] at ho4; rw [← Ny342.out] at ho4)); have n0_ := aM (Kd.S_lower (Kd.S_newM (M := fun k_ => (w.heap.size ≤ k_)) ho4 (below_size zb) (fun k_ h_ => h_)) (below_size zb)); have n1_ := aM (below_step zb hb); clear HB; have HO344 := n0_; have HB := n1_; clear n0_ n1_; clear hb ho4))
 go_loopg [6, 10] k (fun kq v6 v10 w' => ∃ (x6_1 : List (List (S25))) (x10_1 : Int), v10 = .int .i64 x10_1 ∧ Aside0 (impl_leastForm__impl_triangleForm.l0 kq l0 x6_1 x10_1 = some (r1, r2)) ∧ Aside0 (kq ≤ k) ∧ Aside0 (Kd.S (Kd.slice 25 k25) 27 w' w.heap.size (fun k_ => (w.heap.size ≤ k_)) v6 x6_1) ∧ Aside0 (Below w.heap.size w w'))
 case atStart => exact ⟨(y342), (0), zr, H', ⟨Nat.le_refl _⟩, ⟨by (with_reducible repeat (first | apply Kd.S_alloc | apply Kd.S_drewN | apply Kd.S_drew)); exact Kd.S_mono HO344.out (fun _ hk => hk.1)⟩, ⟨zb⟩⟩
 case round =>
  clear H'
  try clear p2
  obtain ⟨x6_1, x10_1, rfl, HA, HK1, HO_6, HB⟩ := hrel
  cases gk with
  | zero => exact absurd HA.out (by simp [impl_leastForm__impl_triangleForm.l0])
  | succ k1 =>
   have H := HA.out
   clear HA
   simp only [impl_leastForm__impl_triangleForm.l0] at H
   by_cases c5 : x10_1 < 12
   rotate_left
   ·rw [if_neg c5] at H
    have c5b0 : decide (x10_1 < 12) = false := decide_eq_false c5
    clear c5
    replace H := Option.bind_eq_some_iff.mp H
    obtain ⟨t345, A170, H⟩ := H
    replace H : (some (t345, true)) = some (r1, r2) := H
    have A17 := aM A170
    clear A170
    simp only [Option.some.injEq, Prod.mk.injEq] at H
    obtain ⟨rfl, rfl⟩ := H
    obtain ⟨Ao18, co18, eo18⟩ := Kd.S_slice HO_6.out
    subst eo18
    go_wp2_with (first | ((with_reducible refine gate_callee (f := 54) rfl ?_); refine goesL_ (some 26) rfl rfl Tryz.func54 (by kernel_rfl) rfl #[.slice Ao18 x6_1.length co18] rfl zm ?_; (with_reducible refine (impl_leastOf.callsE k1 (fun k_ => (w.heap.size ≤ k_)) _ _ x6_1 t345 _ ?side1 A17.out).mono ?_); (case side1 => exact Kd.S_V (HO_6.out)); rintro e w19 ⟨v346, rfl, ho0, hb, hel⟩; have HE := aM hel; clear hel; refine ⟨_, rfl, ?_⟩; have n0_ := aM (Kd.S_below (mS_ HO_6.out) hb); have n1_ := aM (Kd.V_lower (Kd.V_mono (ok' := fun k_ => (w.heap.size ≤ k_)) ho0 (fun k_ hk_ => Or.elim hk_ (fun hs_ => hs_) (fun hn_ => (Nat.le_trans (below_size zb) hn_)))) (below_size zb)); have n2_ := aM (below_step zb hb); clear HO_6; clear HB; have HO_6 := n0_; have HO347 := n1_; have HB := n2_; clear n0_ n1_ n2_; (try clear hb); (try clear hb2); (try clear hk); (try clear hi); (try clear ho0)))
    go_ret2
    exact ⟨_, zw, Kd.R_mono (S_el HO_6.out HE.out) (fun _ _ => trivial), zb⟩
   rw [if_pos c5] at H
   have c5b0 : decide (x10_1 < 12) = true := decide_eq_true c5
   clear c5
   replace H := Option.bind_eq_some_iff.mp H
   obtain ⟨t348, A60, H⟩ := H
   replace H : ((impl_IsShape.f k1 t348).bind fun t351 => (if t351 = true then (if x6_1.length < 5864062014805 then (impl_leastForm__impl_triangleForm.l0 k1 l0 (x6_1 ++ [t348]) (wrap64 (x10_1 + 1))) else (none)) else (some (([] : List (S25)), false)))) = some (r1, r2) := H
   have A6 := aM A60
   clear A60
   replace H := Option.bind_eq_some_iff.mp H
   obtain ⟨t351, A70, H⟩ := H
   replace H : (if t351 = true then (if x6_1.length < 5864062014805 then (impl_leastForm__impl_triangleForm.l0 k1 l0 (x6_1 ++ [t348]) (wrap64 (x10_1 + 1))) else (none)) else (some (([] : List (S25)), false))) = some (r1, r2) := H
   have A7 := aM A70
   clear A70
   by_cases c8 : t351 = true
   rotate_left
   ·replace c8 := Bool.eq_false_iff.mpr c8
    subst c8
    have H1 : (some (([] : List (S25)), false)) = some (r1, r2) := by rw [if_neg (show ¬ (false = true) by decide)] at H; exact H
    clear H
    have H := H1
    clear H1
    simp only [Option.some.injEq, Prod.mk.injEq] at H
    obtain ⟨rfl, rfl⟩ := H
    go_wp2_with (first | (go_at_call 21; (with_reducible refine (impl_triangleForm.calls k1 _ _ l0 x10_1 t348 _ ?side1 ?side2 A6.out).mono ?_); (case side1 => repeat (first | exact (Kd.C_below HR0.out HB.out) | (with_reducible refine Kd.C_alloc ?_ _) | (with_reducible refine Kd.C_drewN ?_ _) | (with_reducible refine Kd.C_drew ?_))); (case side2 => exact HC0.out); rintro e w14 ⟨v349, rfl, ho0, hb⟩; have n0_ := aM (Kd.S_elder' (mS_ HO_6.out) (Kd.R_base ho0) hb); have n1_ := aM (Kd.R_lower (Kd.R_newM (M := fun k_ => (w.heap.size ≤ k_)) ho0 (below_size zb) (fun k_ h_ => h_)) (below_size zb)); have n2_ := aM (below_step zb hb); clear HO_6; clear HB; have HO_6 := n0_; have HO350 := n1_; have HB := n2_; clear n0_ n1_ n2_; (try clear hb); (try clear hb2); (try clear hk); (try clear hi); (try clear ho0); obtain ⟨Ao15, co15, eo15⟩ := Kd.R_slice HO350.out; subst eo15) | ((with_reducible refine gate_callee (f := 53) rfl ?_); refine goesL_ (some 18) rfl rfl Tryz.func53 (by kernel_rfl) rfl #[.slice Ao15 t348.length co15] rfl zm ?_; (with_reducible refine (impl_IsShape.calls k1 _ _ t348 false _ ?side1 ?side2 A7.out).mono ?_); (case side1 => repeat (first | exact (Kd.R_reads' HO350.out).2.2 | (with_reducible refine Kd.C_alloc ?_ _) | (with_reducible refine Kd.C_drewN ?_ _) | (with_reducible refine Kd.C_drew ?_))); (case side2 => exact (Kd.R_reads' HO350.out).2.1); rintro e w16 ⟨rfl, hb⟩; refine ⟨_, rfl, ?_⟩; have n0_ := aM (Kd.S_below (mS_ HO_6.out) hb); have n1_ := aM (Kd.R_below (mR_ HO350.out) hb); have n2_ := aM (below_step zb hb); clear HO_6; clear HO350; clear HB; have HO_6 := n0_; have HO350 := n1_; have HB := n2_; clear n0_ n1_ n2_; (try clear hb); (try clear hb2); (try clear hk); (try clear hi)))
    go_ret2
    exact ⟨_, zw, Kd.R_nil _ _ _ _ _, zb⟩
   subst c8
   have H1 : (if x6_1.length < 5864062014805 then (impl_leastForm__impl_triangleForm.l0 k1 l0 (x6_1 ++ [t348]) (wrap64 (x10_1 + 1))) else (none)) = some (r1, r2) := by rw [if_pos rfl] at H; exact H
   clear H
   have H := H1
   clear H1
   by_cases c9 : x6_1.length < 5864062014805
   rotate_left
   ·rw [if_neg c9] at H
    exact absurd H (by simp)
   rw [if_pos c9] at H
   have LMc9 := aM c9
   clear c9
   obtain ⟨y352, hy352⟩ : ∃ y_ : List (List (S25)), y_ = (x6_1 ++ [t348]) := ⟨_, rfl⟩
   replace H : (impl_leastForm__impl_triangleForm.l0 k1 l0 y352 (wrap64 (x10_1 + 1))) = some (r1, r2) := zy H hy352
   have Ny352 := aM hy352
   clear hy352
   have H' := aM H
   clear H
   go_wp2_with (first | (go_at_call 21; (with_reducible refine (impl_triangleForm.calls k1 _ _ l0 x10_1 t348 _ ?side1 ?side2 A6.out).mono ?_); (case side1 => repeat (first | exact (Kd.C_below HR0.out HB.out) | (with_reducible refine Kd.C_alloc ?_ _) | (with_reducible refine Kd.C_drewN ?_ _) | (with_reducible refine Kd.C_drew ?_))); (case side2 => exact HC0.out); rintro e w10 ⟨v349, rfl, ho0, hb⟩; have n0_ := aM (Kd.S_elder' (mS_ HO_6.out) (Kd.R_base ho0) hb); have n1_ := aM (Kd.R_lower (Kd.R_newM (M := fun k_ => (w.heap.size ≤ k_)) ho0 (below_size zb) (fun k_ h_ => h_)) (below_size zb)); have n2_ := aM (below_step zb hb); clear HO_6; clear HB; have HO_6 := n0_; have HO350 := n1_; have HB := n2_; clear n0_ n1_ n2_; (try clear hb); (try clear hb2); (try clear hk); (try clear hi); (try clear ho0); obtain ⟨Ao11, co11, eo11⟩ := Kd.R_slice HO350.out; subst eo11) | ((with_reducible refine gate_callee (f := 53) rfl ?_); refine goesL_ (some 18) rfl rfl Tryz.func53 (by kernel_rfl) rfl #[.slice Ao11 t348.length co11] rfl zm ?_; (with_reducible refine (impl_IsShape.calls k1 _ _ t348 true _ ?side1 ?side2 A7.out).mono ?_); (case side1 => repeat (first | exact (Kd.R_reads' HO350.out).2.2 | (with_reducible refine Kd.C_alloc ?_ _) | (with_reducible refine Kd.C_drewN ?_ _) | (with_reducible refine Kd.C_drew ?_))); (case side2 => exact (Kd.R_reads' HO350.out).2.1); rintro e w12 ⟨rfl, hb⟩; refine ⟨_, rfl, ?_⟩; have n0_ := aM (Kd.S_below (mS_ HO_6.out) hb); have n1_ := aM (Kd.R_below (mR_ HO350.out) hb); have n2_ := aM (below_step zb hb); clear HO_6; clear HO350; clear HB; have HO_6 := n0_; have HO350 := n1_; have HB := n2_; clear n0_ n1_ n2_; (try clear hb); (try clear hb2); (try clear hk); (try clear hi)) | ((with_reducible refine gate_builtin (b := .append) (xs := #[.tmp 20, .tmp 22]) rfl ?_); at_builtin; refine Kd.S_append (Kd.slice 25 k25) (w0 := w) w.heap.size rfl (.tmp 20) (.tmp 22) 39 27 (.slice none 0 0) 24 rfl Tryz.underlying39 info27 rfl (by decide) (by omega) u6 x6_1 t348 [.slice Ao11 t348.length co11] (fun k_ => (w.heap.size ≤ k_)) (fun k_ => some k_ = (.slice Ao11 t348.length co11 : Value).ownBlock) rfl rfl ?aP (fun k_ hk_ => ((Kd.R_mono (ok' := fun k_ => ((fun k_ => (w.heap.size ≤ k_))) k_ ∧ some k_ ≠ (u6 : Value).ownBlock) (Kd.R_apart' (HO350.out) (Kd.S_typed HO_6.out) (by decide)) (fun k_ hk => ⟨hk.1.1, hk.2⟩))).1 k_ hk_.symm) ?aF ?aO ?aB ?aS ?aL ?_; (case aP => exact Kd.M_row (Kd.R_mono (Kd.R_tight rfl (Kd.R_mono (ok' := fun k_ => ((fun k_ => (w.heap.size ≤ k_))) k_ ∧ some k_ ≠ (u6 : Value).ownBlock) (Kd.R_apart' (HO350.out) (Kd.S_typed HO_6.out) (by decide)) (fun k_ hk => ⟨hk.1.1, hk.2⟩))) (fun _ h_ => h_))); (case aB => exact zb); (case aF => exact (fun k_ hk => (Nat.le_trans (below_size zb) hk))); (case aO => exact (by (with_reducible repeat (first | apply Kd.S_alloc | apply Kd.S_drewN | apply Kd.S_drew)); exact Kd.S_mono HO_6.out (fun k_ hk => ⟨hk.1, fun e_ => hk.2 e_⟩))); (case aS => exact (below_size zb)); (case aL => have := LMc9.out; omega); intro v353 w13 ho hb hg hat; rw [← Ny352.out] at ho; have n0_ := aM (hb); have n1_ := aM (ho); clear HB; clear HO_6; clear HO350; have HB := n0_; have HO354 := n1_; clear n0_ n1_; clear ho hb hg hat))
   go_roundg k1
   case measure => have := HK1.out; omega
   case rel => exact ⟨(y352), (wrap64 (x10_1 + 1)), zr, H', ⟨by have := HK1.out; omega⟩, ⟨mS_ HO354.out⟩, ⟨zb⟩⟩
def impl_ownLeast__impl_triangleForm.l0 : Nat → List (List (S25)) → List (List (S25)) → Int → Int → Option ((List (List (S25))))
 | 0, _, _, _, _ => none
 | k + 1, x5, x11, x12, x13 => if x13 < x12 then (if 0 ≤ x13 then (if x13 < (x11.length : Int) then ((impl_leastForm__impl_triangleForm.f k (rd_L2 x11 x13)).bind fun bt359 => (if bt359.2 = true then ((impl_Cell_37.f k bt359.1 (rd_L2 x11 x13)).bind fun t363 => (if t363 = true then (if x5.length < 5864062014805 then (impl_ownLeast__impl_triangleForm.l0 k (x5 ++ [rd_L2 x11 x13]) x11 x12 (wrap64 (x13 + 1))) else (none)) else (impl_ownLeast__impl_triangleForm.l0 k x5 x11 x12 (wrap64 (x13 + 1))))) else (impl_ownLeast__impl_triangleForm.l0 k x5 x11 x12 (wrap64 (x13 + 1))))) else (none)) else (none)) else (some x5)
def impl_ownLeast__impl_triangleForm.f (k : Nat) (l0 : List (List (S25)))  : Option ((List (List (S25)))) := impl_ownLeast__impl_triangleForm.l0 k (([] : List (List (S25)))) l0 (l0.length : Int) 0
theorem impl_ownLeast__impl_triangleForm.calls (k : Nat) (P0_ : Nat → Prop) (A0 : Option Addr) (c0 : Nat) (l0 : List (List (S25)))  (r : List (List (S25))) (w : World) (hs0 : Kd.V (Kd.slice 25 k25) 27 w w.heap.size (fun k_ => P0_ k_) (.slice A0 l0.length c0) l0) (h : impl_ownLeast__impl_triangleForm.f k l0 = some r) :
  Calls Tryz.prog 20 #[.slice A0 l0.length c0, .func (.func 21) #[] #[]] w fun e w' => ∃ v0_ : Value, e = .returned (v0_) ∧ Kd.N (Kd.slice 25 k25) 27 w' w.heap.size (fun k_ => (P0_ k_ ∨ w.heap.size ≤ k_)) v0_ r ∧ Below w.heap.size w w' := by
 have HO0 := aM (show Kd.V (Kd.slice 25 k25) 27 w w.heap.size (fun k_ => (P0_ k_ ∨ w.heap.size ≤ k_)) (.slice A0 l0.length c0) l0 from Kd.V_mono hs0 (fun k_ hk => .inl hk))
 have HB := aM (Below.refl w.heap.size w)
 have H : (impl_ownLeast__impl_triangleForm.l0 k (([] : List (List (S25)))) l0 (l0.length : Int) 0) = some r := h
 clear h
 obtain ⟨y355, hy355⟩ : ∃ y_ : List (List (S25)), y_ = (([] : List (List (S25)))) := ⟨_, rfl⟩
 replace H : (impl_ownLeast__impl_triangleForm.l0 k y355 l0 (l0.length : Int) 0) = some r := zy H hy355
 have Ny355 := aM hy355
 clear hy355
 have H' := aM H
 clear H
 go_enter Tryz.func20, Tryz.ntmps20
 go_wp2_with (first | ((with_reducible refine gate_dst (N := 10) rfl ?_); refine Kd.N_lit (Kd.slice 25 k25) _ 27 ?hg (N' := 10) ?hd (xs := ([] : List (List (S25)))) (inner := []) (ok := (fun k_ => (P0_ k_ ∨ w.heap.size ≤ k_))) (okp := (fun k_ => (P0_ k_ ∨ w.heap.size ≤ k_))) ?hr ?hp (fun _ hk => hk) ((show ∀ k_, w.heap.size ≤ k_ → (fun k_ => (P0_ k_ ∨ w.heap.size ≤ k_)) k_ from fun k_ hk => (.inr (Nat.le_trans (below_size zb) hk))) _ (Nat.le_refl _)) (Below.refl _ _) (Nat.le_refl _) (by simp) ?_; (case hd => rfl); (case hg => rfl); (case hr => first | (go_simp; done) | (go_simp; rfl)); (case hp => exact (Reps.none _ _)); intro v356 w3 ho4 hb hg_ hnew_; clear hg_ hnew_; (first | rw [← Ny355.out] at ho4 | (simp only [Int.reduceToNat] at ho4; rw [← Ny355.out] at ho4)); have n0_ := aM (Kd.V_elder' (mV_ HO0.out) (by first | exact Kd.N_base ho4 | exact Kd.S_base ho4 | exact Kd.R_base ho4) hb); have n1_ := aM (Kd.N_lower ho4 (below_size zb)); have n2_ := aM (below_step zb hb); clear HO0; clear HB; have HO0 := n0_; have HO357 := n1_; have HB := n2_; clear n0_ n1_ n2_; clear hb ho4))
 go_loopg [5, 13] k (fun kq v5 v13 w' => ∃ (x5_1 : List (List (S25))) (x13_1 : Int), v13 = .int .i64 x13_1 ∧ Aside0 (impl_ownLeast__impl_triangleForm.l0 kq x5_1 l0 (l0.length : Int) x13_1 = some r) ∧ Aside0 (kq ≤ k) ∧ Aside0 (Kd.N (Kd.slice 25 k25) 27 w' w.heap.size (fun k_ => (P0_ k_ ∨ w.heap.size ≤ k_)) v5 x5_1) ∧ Aside0 (Kd.V (Kd.slice 25 k25) 27 w' w.heap.size (fun k_ => (P0_ k_ ∨ w.heap.size ≤ k_) ∧ some k_ ≠ (v5 : Value).ownBlock) (.slice A0 l0.length c0) l0) ∧ Aside0 (Below w.heap.size w w'))
 case atStart => exact ⟨(y355), (0), zr, H', ⟨Nat.le_refl _⟩, ⟨mN_ HO357.out⟩, ⟨mV_ HO0.out⟩, ⟨zb⟩⟩
 case round =>
  clear H'
  try clear p2
  obtain ⟨x5_1, x13_1, rfl, HA, HK1, HO_5, HO_11, HB⟩ := hrel
  cases gk with
  | zero => exact absurd HA.out (by simp [impl_ownLeast__impl_triangleForm.l0])
  | succ k1 =>
   have H := HA.out
   clear HA
   simp only [impl_ownLeast__impl_triangleForm.l0] at H
   by_cases c5 : x13_1 < (l0.length : Int)
   rotate_left
   ·rw [if_neg c5] at H
    have c5b0 : decide (x13_1 < (l0.length : Int)) = false := decide_eq_false c5
    clear c5
    obtain rfl := Option.some.inj H
    go_wp2
    go_ret
    exact ⟨_, zw, mN_ HO_5.out, zb⟩
   rw [if_pos c5] at H
   have c5b0 : decide (x13_1 < (l0.length : Int)) = true := decide_eq_true c5
   clear c5
   by_cases c6 : 0 ≤ x13_1
   rotate_left
   ·rw [if_neg c6] at H
    exact absurd H (by simp)
   rw [if_pos c6] at H
   have c6b0 : decide (0 ≤ x13_1) = true := decide_eq_true c6
   clear c6
   by_cases c7 : x13_1 < (l0.length : Int)
   rotate_left
   ·rw [if_neg c7] at H
    exact absurd H (by simp)
   rw [if_pos c7] at H
   have c7b0 : decide (x13_1 < (l0.length : Int)) = true := decide_eq_true c7
   clear c7
   replace H := Option.bind_eq_some_iff.mp H
   obtain ⟨⟨t359, t360⟩, A80, H⟩ := H
   replace H : (if t360 = true then ((impl_Cell_37.f k1 t359 (rd_L2 l0 x13_1)).bind fun t363 => (if t363 = true then (if x5_1.length < 5864062014805 then (impl_ownLeast__impl_triangleForm.l0 k1 (x5_1 ++ [rd_L2 l0 x13_1]) l0 (l0.length : Int) (wrap64 (x13_1 + 1))) else (none)) else (impl_ownLeast__impl_triangleForm.l0 k1 x5_1 l0 (l0.length : Int) (wrap64 (x13_1 + 1))))) else (impl_ownLeast__impl_triangleForm.l0 k1 x5_1 l0 (l0.length : Int) (wrap64 (x13_1 + 1)))) = some r := H
   have A8 := aM A80
   clear A80
   by_cases c9 : t360 = true
   rotate_left
   ·replace c9 := Bool.eq_false_iff.mpr c9
    subst c9
    have H1 : (impl_ownLeast__impl_triangleForm.l0 k1 x5_1 l0 (l0.length : Int) (wrap64 (x13_1 + 1))) = some r := by rw [if_neg (show ¬ (false = true) by decide)] at H; exact H
    clear H
    have H := H1
    clear H1
    have H' := aM H
    clear H
    have p358 : 0 ≤ (x13_1 : Int) := of_decide_eq_true za
    have q358 : x13_1 < (l0.length : Int) := of_decide_eq_true za
    obtain ⟨ad358, A358_0, c358_0, e358, hx358_0, hl358_0, hi358_0⟩ := at_L2 (Kd.V_reads' HO_11.out).2.2 x13_1 p358 q358
    cases e358
    obtain ⟨ce358, hce358, hMe358, hcc358⟩ := Kd.V_get HO_11.out [] x13_1 p358 (by first | exact q358 | exact of_decide_eq_true za | (have e_ := (Kd.V_reads' HO_11.out).1; omega))
    obtain ⟨ua358_0, uc358_0, rfl, ul358_0, ge358_0⟩ := Kd.FK_slice_open hMe358
    have hv358_0 := hcc358 0 _ rfl
    rw [Nat.add_zero, show ((Kd.slice 25 k25)).sz = 1 from rfl, Nat.mul_one] at hv358_0
    replace hv358_0 := Option.some.inj (hv358_0.symm.trans hx358_0)
    injection hv358_0 with hva_ hvn_ hvc_
    rw [hva_] at ge358_0
    rw [hvc_] at ul358_0
    have HL358_0 := aM (show Kd.V k25 25 _ w.heap.size _ _ (rd_L2 l0 x13_1) from Kd.V_mk ul358_0 ge358_0)
    clear hva_ hvn_ hvc_ ge358_0 ul358_0
    clear hcc358 hce358
    have HR358_0 := aM hi358_0
    have HC358_0 := aM hl358_0
    clear hi358_0 hl358_0
    replace p358 := eq_true p358
    replace q358 := eq_true q358
    go_wp2_with (first | ((with_reducible refine gate_callee (f := 36) rfl ?_); refine goesL_ (some 20) rfl rfl Tryz.func36 (by kernel_rfl) rfl #[.slice A358_0 (rd_L2 l0 x13_1).length c358_0, .func (.func 21) #[] #[]] rfl zm ?_; (with_reducible refine (impl_leastForm__impl_triangleForm.calls k1 _ _ (rd_L2 l0 x13_1)  t359 false _ ?side1 ?side2 A8.out).mono ?_); (case side1 => repeat (first | exact (mQ_ HR358_0.out) | (with_reducible refine Kd.C_alloc ?_ _) | (with_reducible refine Kd.C_drewN ?_ _) | (with_reducible refine Kd.C_drew ?_))); (case side2 => exact HC358_0.out); rintro e w18 ⟨v361, rfl, ho0, hb⟩; refine ⟨_, rfl, ?_⟩; have n0_ := aM (Kd.N_elder' (mN_ HO_5.out) (Kd.R_base ho0) hb); have n1_ := aM (Kd.V_elder' (mV_ HO_11.out) (Kd.R_base ho0) hb); have n2_ := aM (Kd.V_elder' (mV_ HL358_0.out) (Kd.R_base ho0) hb); have n3_ := aM (Kd.R_lower (Kd.R_newM (M := fun k_ => (w.heap.size ≤ k_)) ho0 (below_size zb) (fun k_ h_ => h_)) (below_size zb)); have n4_ := aM (Kd.C_below (mQ_ HR358_0.out) hb); have n5_ := aM (below_step zb hb); clear HO_5; clear HO_11; clear HL358_0; clear HR358_0; clear HB; have HO_5 := n0_; have HO_11 := n1_; have HL358_0 := n2_; have HO362 := n3_; have HR358_0 := n4_; have HB := n5_; clear n0_ n1_ n2_ n3_ n4_ n5_; (try clear hb); (try clear hb2); (try clear hk); (try clear hi); (try clear ho0)))
    go_roundg k1
    case measure => have := HK1.out; omega
    case rel => exact ⟨(x5_1), (wrap64 (x13_1 + 1)), zr, H', ⟨by have := HK1.out; omega⟩, ⟨by (with_reducible repeat (first | apply Kd.N_alloc | apply Kd.N_drewN | apply Kd.N_drew)); exact Kd.N_mono HO_5.out (fun _ hk => hk.1)⟩, ⟨by (with_reducible repeat (first | apply Kd.V_alloc | apply Kd.V_drewN | apply Kd.V_drew)); exact Kd.V_mono HO_11.out (fun _ hk => ⟨hk.1.1, hk.1.2⟩)⟩, ⟨zb⟩⟩
   subst c9
   have H1 : ((impl_Cell_37.f k1 t359 (rd_L2 l0 x13_1)).bind fun t363 => (if t363 = true then (if x5_1.length < 5864062014805 then (impl_ownLeast__impl_triangleForm.l0 k1 (x5_1 ++ [rd_L2 l0 x13_1]) l0 (l0.length : Int) (wrap64 (x13_1 + 1))) else (none)) else (impl_ownLeast__impl_triangleForm.l0 k1 x5_1 l0 (l0.length : Int) (wrap64 (x13_1 + 1))))) = some r := by rw [if_pos rfl] at H; exact H
   clear H
   have H := H1
   clear H1
   replace H := Option.bind_eq_some_iff.mp H
   obtain ⟨t363, A100, H⟩ := H
   replace H : (if t363 = true then (if x5_1.length < 5864062014805 then (impl_ownLeast__impl_triangleForm.l0 k1 (x5_1 ++ [rd_L2 l0 x13_1]) l0 (l0.length : Int) (wrap64 (x13_1 + 1))) else (none)) else (impl_ownLeast__impl_triangleForm.l0 k1 x5_1 l0 (l0.length : Int) (wrap64 (x13_1 + 1)))) = some r := H
   have A10 := aM A100
   clear A100
   by_cases c11 : t363 = true
   rotate_left
   ·replace c11 := Bool.eq_false_iff.mpr c11
    subst c11
    have H1 : (impl_ownLeast__impl_triangleForm.l0 k1 x5_1 l0 (l0.length : Int) (wrap64 (x13_1 + 1))) = some r := by rw [if_neg (show ¬ (false = true) by decide)] at H; exact H
    clear H
    have H := H1
    clear H1
    have H' := aM H
    clear H
    have p358 : 0 ≤ (x13_1 : Int) := of_decide_eq_true za
    have q358 : x13_1 < (l0.length : Int) := of_decide_eq_true za
    obtain ⟨ad358, A358_0, c358_0, e358, hx358_0, hl358_0, hi358_0⟩ := at_L2 (Kd.V_reads' HO_11.out).2.2 x13_1 p358 q358
    cases e358
    obtain ⟨ce358, hce358, hMe358, hcc358⟩ := Kd.V_get HO_11.out [] x13_1 p358 (by first | exact q358 | exact of_decide_eq_true za | (have e_ := (Kd.V_reads' HO_11.out).1; omega))
    obtain ⟨ua358_0, uc358_0, rfl, ul358_0, ge358_0⟩ := Kd.FK_slice_open hMe358
    have hv358_0 := hcc358 0 _ rfl
    rw [Nat.add_zero, show ((Kd.slice 25 k25)).sz = 1 from rfl, Nat.mul_one] at hv358_0
    replace hv358_0 := Option.some.inj (hv358_0.symm.trans hx358_0)
    injection hv358_0 with hva_ hvn_ hvc_
    rw [hva_] at ge358_0
    rw [hvc_] at ul358_0
    have HL358_0 := aM (show Kd.V k25 25 _ w.heap.size _ _ (rd_L2 l0 x13_1) from Kd.V_mk ul358_0 ge358_0)
    clear hva_ hvn_ hvc_ ge358_0 ul358_0
    clear hcc358 hce358
    have HR358_0 := aM hi358_0
    have HC358_0 := aM hl358_0
    clear hi358_0 hl358_0
    replace p358 := eq_true p358
    replace q358 := eq_true q358
    go_wp2_with (first | ((with_reducible refine gate_callee (f := 36) rfl ?_); refine goesL_ (some 20) rfl rfl Tryz.func36 (by kernel_rfl) rfl #[.slice A358_0 (rd_L2 l0 x13_1).length c358_0, .func (.func 21) #[] #[]] rfl zm ?_; (with_reducible refine (impl_leastForm__impl_triangleForm.calls k1 _ _ (rd_L2 l0 x13_1)  t359 true _ ?side1 ?side2 A8.out).mono ?_); (case side1 => repeat (first | exact (mQ_ HR358_0.out) | (with_reducible refine Kd.C_alloc ?_ _) | (with_reducible refine Kd.C_drewN ?_ _) | (with_reducible refine Kd.C_drew ?_))); (case side2 => exact HC358_0.out); rintro e w16 ⟨v361, rfl, ho0, hb⟩; refine ⟨_, rfl, ?_⟩; have n0_ := aM (Kd.N_elder' (mN_ HO_5.out) (Kd.R_base ho0) hb); have n1_ := aM (Kd.V_elder' (mV_ HO_11.out) (Kd.R_base ho0) hb); have n2_ := aM (Kd.V_elder' (mV_ HL358_0.out) (Kd.R_base ho0) hb); have n3_ := aM (Kd.R_lower (Kd.R_newM (M := fun k_ => (w.heap.size ≤ k_)) ho0 (below_size zb) (fun k_ h_ => h_)) (below_size zb)); have n4_ := aM (Kd.C_below (mQ_ HR358_0.out) hb); have n5_ := aM (below_step zb hb); clear HO_5; clear HO_11; clear HL358_0; clear HR358_0; clear HB; have HO_5 := n0_; have HO_11 := n1_; have HL358_0 := n2_; have HO362 := n3_; have HR358_0 := n4_; have HB := n5_; clear n0_ n1_ n2_ n3_ n4_ n5_; (try clear hb); (try clear hb2); (try clear hk); (try clear hi); (try clear ho0); obtain ⟨Ao17, co17, eo17⟩ := Kd.R_slice HO362.out; subst eo17) | (go_at_call 37; (with_reducible refine (impl_Cell_37.calls k1 _ _ t359 _ _ (rd_L2 l0 x13_1) false _ ?side1 ?side2 ?side3 ?side4 A10.out).mono ?_); (case side1 => repeat (first | exact (Kd.R_reads' HO362.out).2.2 | (with_reducible refine Kd.C_alloc ?_ _) | (with_reducible refine Kd.C_drewN ?_ _) | (with_reducible refine Kd.C_drew ?_))); (case side2 => exact (Kd.R_reads' HO362.out).2.1); (case side3 => repeat (first | exact (mQ_ HR358_0.out) | (with_reducible refine Kd.C_alloc ?_ _) | (with_reducible refine Kd.C_drewN ?_ _) | (with_reducible refine Kd.C_drew ?_))); (case side4 => exact HC358_0.out); rintro e w' ⟨rfl, ⟨nd, rfl⟩⟩))
    go_roundg k1
    case measure => have := HK1.out; omega
    case rel => exact ⟨(x5_1), (wrap64 (x13_1 + 1)), zr, H', ⟨by have := HK1.out; omega⟩, ⟨by (with_reducible repeat (first | apply Kd.N_alloc | apply Kd.N_drewN | apply Kd.N_drew)); exact Kd.N_mono HO_5.out (fun _ hk => hk.1)⟩, ⟨by (with_reducible repeat (first | apply Kd.V_alloc | apply Kd.V_drewN | apply Kd.V_drew)); exact Kd.V_mono HO_11.out (fun _ hk => ⟨hk.1.1, hk.1.2⟩)⟩, ⟨zb⟩⟩
   subst c11
   have H1 : (if x5_1.length < 5864062014805 then (impl_ownLeast__impl_triangleForm.l0 k1 (x5_1 ++ [rd_L2 l0 x13_1]) l0 (l0.length : Int) (wrap64 (x13_1 + 1))) else (none)) = some r := by rw [if_pos rfl] at H; exact H
   clear H
   have H := H1
   clear H1
   by_cases c12 : x5_1.length < 5864062014805
   rotate_left
   ·rw [if_neg c12] at H
    exact absurd H (by simp)
   rw [if_pos c12] at H
   have LMc12 := aM c12
   clear c12
   obtain ⟨y364, hy364⟩ : ∃ y_ : List (List (S25)), y_ = (x5_1 ++ [rd_L2 l0 x13_1]) := ⟨_, rfl⟩
   replace H : (impl_ownLeast__impl_triangleForm.l0 k1 y364 l0 (l0.length : Int) (wrap64 (x13_1 + 1))) = some r := zy H hy364
   have Ny364 := aM hy364
   clear hy364
   have H' := aM H
   clear H
   have p358 : 0 ≤ (x13_1 : Int) := of_decide_eq_true za
   have q358 : x13_1 < (l0.length : Int) := of_decide_eq_true za
   obtain ⟨ad358, A358_0, c358_0, e358, hx358_0, hl358_0, hi358_0⟩ := at_L2 (Kd.V_reads' HO_11.out).2.2 x13_1 p358 q358
   cases e358
   obtain ⟨ce358, hce358, hMe358, hcc358⟩ := Kd.V_get HO_11.out [] x13_1 p358 (by first | exact q358 | exact of_decide_eq_true za | (have e_ := (Kd.V_reads' HO_11.out).1; omega))
   obtain ⟨ua358_0, uc358_0, rfl, ul358_0, ge358_0⟩ := Kd.FK_slice_open hMe358
   have hv358_0 := hcc358 0 _ rfl
   rw [Nat.add_zero, show ((Kd.slice 25 k25)).sz = 1 from rfl, Nat.mul_one] at hv358_0
   replace hv358_0 := Option.some.inj (hv358_0.symm.trans hx358_0)
   injection hv358_0 with hva_ hvn_ hvc_
   rw [hva_] at ge358_0
   rw [hvc_] at ul358_0
   have HL358_0 := aM (show Kd.V k25 25 _ w.heap.size _ _ (rd_L2 l0 x13_1) from Kd.V_mk ul358_0 ge358_0)
   clear hva_ hvn_ hvc_ ge358_0 ul358_0
   clear hcc358 hce358
   have HR358_0 := aM hi358_0
   have HC358_0 := aM hl358_0
   clear hi358_0 hl358_0
   replace p358 := eq_true p358
   replace q358 := eq_true q358
   go_wp2_with (first | ((with_reducible refine gate_callee (f := 36) rfl ?_); refine goesL_ (some 20) rfl rfl Tryz.func36 (by kernel_rfl) rfl #[.slice A358_0 (rd_L2 l0 x13_1).length c358_0, .func (.func 21) #[] #[]] rfl zm ?_; (with_reducible refine (impl_leastForm__impl_triangleForm.calls k1 _ _ (rd_L2 l0 x13_1)  t359 true _ ?side1 ?side2 A8.out).mono ?_); (case side1 => repeat (first | exact (mQ_ HR358_0.out) | (with_reducible refine Kd.C_alloc ?_ _) | (with_reducible refine Kd.C_drewN ?_ _) | (with_reducible refine Kd.C_drew ?_))); (case side2 => exact HC358_0.out); rintro e w13 ⟨v361, rfl, ho0, hb⟩; refine ⟨_, rfl, ?_⟩; have n0_ := aM (Kd.N_elder' (mN_ HO_5.out) (Kd.R_base ho0) hb); have n1_ := aM (Kd.V_elder' (mV_ HO_11.out) (Kd.R_base ho0) hb); have n2_ := aM (Kd.V_elder' (mV_ HL358_0.out) (Kd.R_base ho0) hb); have n3_ := aM (Kd.R_lower (Kd.R_newM (M := fun k_ => (w.heap.size ≤ k_)) ho0 (below_size zb) (fun k_ h_ => h_)) (below_size zb)); have n4_ := aM (Kd.C_below (mQ_ HR358_0.out) hb); have n5_ := aM (below_step zb hb); clear HO_5; clear HO_11; clear HL358_0; clear HR358_0; clear HB; have HO_5 := n0_; have HO_11 := n1_; have HL358_0 := n2_; have HO362 := n3_; have HR358_0 := n4_; have HB := n5_; clear n0_ n1_ n2_ n3_ n4_ n5_; (try clear hb); (try clear hb2); (try clear hk); (try clear hi); (try clear ho0); obtain ⟨Ao14, co14, eo14⟩ := Kd.R_slice HO362.out; subst eo14) | (go_at_call 37; (with_reducible refine (impl_Cell_37.calls k1 _ _ t359 _ _ (rd_L2 l0 x13_1) true _ ?side1 ?side2 ?side3 ?side4 A10.out).mono ?_); (case side1 => repeat (first | exact (Kd.R_reads' HO362.out).2.2 | (with_reducible refine Kd.C_alloc ?_ _) | (with_reducible refine Kd.C_drewN ?_ _) | (with_reducible refine Kd.C_drew ?_))); (case side2 => exact (Kd.R_reads' HO362.out).2.1); (case side3 => repeat (first | exact (mQ_ HR358_0.out) | (with_reducible refine Kd.C_alloc ?_ _) | (with_reducible refine Kd.C_drewN ?_ _) | (with_reducible refine Kd.C_drew ?_))); (case side4 => exact HC358_0.out); rintro e w' ⟨rfl, ⟨nd, rfl⟩⟩) | ((with_reducible refine gate_builtin (b := .append) (xs := #[.tmp 29, .tmp 31]) rfl ?_); at_builtin; refine Kd.N_append (Kd.slice 25 k25) (w0 := w) w.heap.size rfl (.tmp 29) (.tmp 31) 39 27 (.slice none 0 0) 24 rfl Tryz.underlying39 info27 rfl (by decide) (by omega) u5 x5_1 (rd_L2 l0 x13_1) [.slice A358_0 (rd_L2 l0 x13_1).length c358_0] (fun k_ => (P0_ k_ ∨ w.heap.size ≤ k_) ∧ some k_ ≠ (.slice Ao14 t359.length co14 : Value).ownBlock) (fun k_ => ((fun k_ => (P0_ k_ ∨ w.heap.size ≤ k_) ∧ some k_ ≠ (.slice Ao14 t359.length co14 : Value).ownBlock)) k_ ∧ some k_ ≠ (u5 : Value).ownBlock) rfl rfl ?aP (fun _ hk => hk) ?aF ?aO ?aB ?aS ?aL ?_; (case aP => first | exact (Kd.FK_slice_mk (Kd.V_reads' (Kd.V_mono (ok' := (fun k_ => ((fun k_ => (P0_ k_ ∨ w.heap.size ≤ k_) ∧ some k_ ≠ (.slice Ao14 t359.length co14 : Value).ownBlock)) k_ ∧ some k_ ≠ (u5 : Value).ownBlock)) (Kd.V_drewN HL358_0.out _) (fun k_ hk => ⟨⟨hk.1.1, hk.2⟩, hk.1.2⟩))).2.1 (Kd.V_F (Kd.V_mono (ok' := (fun k_ => ((fun k_ => (P0_ k_ ∨ w.heap.size ≤ k_) ∧ some k_ ≠ (.slice Ao14 t359.length co14 : Value).ownBlock)) k_ ∧ some k_ ≠ (u5 : Value).ownBlock)) (Kd.V_drewN HL358_0.out _) (fun k_ hk => ⟨⟨hk.1.1, hk.2⟩, hk.1.2⟩)))) | exact (Kd.FK_slice_mk (Kd.V_reads' (Kd.V_mono (ok' := (fun k_ => ((fun k_ => (P0_ k_ ∨ w.heap.size ≤ k_) ∧ some k_ ≠ (.slice Ao14 t359.length co14 : Value).ownBlock)) k_ ∧ some k_ ≠ (u5 : Value).ownBlock)) (HL358_0.out) (fun k_ hk => ⟨⟨hk.1.1, hk.2⟩, hk.1.2⟩))).2.1 (Kd.V_F (Kd.V_mono (ok' := (fun k_ => ((fun k_ => (P0_ k_ ∨ w.heap.size ≤ k_) ∧ some k_ ≠ (.slice Ao14 t359.length co14 : Value).ownBlock)) k_ ∧ some k_ ≠ (u5 : Value).ownBlock)) (HL358_0.out) (fun k_ hk => ⟨⟨hk.1.1, hk.2⟩, hk.1.2⟩)))) | exact (Kd.FK_slice_mk (Kd.V_reads' (Kd.V_mono (ok' := (fun k_ => ((fun k_ => (P0_ k_ ∨ w.heap.size ≤ k_) ∧ some k_ ≠ (.slice Ao14 t359.length co14 : Value).ownBlock)) k_ ∧ some k_ ≠ (u5 : Value).ownBlock)) (Kd.V_alloc (Kd.V_drewN HL358_0.out _) _) (fun k_ hk => ⟨⟨hk.1.1, hk.2⟩, hk.1.2⟩))).2.1 (Kd.V_F (Kd.V_mono (ok' := (fun k_ => ((fun k_ => (P0_ k_ ∨ w.heap.size ≤ k_) ∧ some k_ ≠ (.slice Ao14 t359.length co14 : Value).ownBlock)) k_ ∧ some k_ ≠ (u5 : Value).ownBlock)) (Kd.V_alloc (Kd.V_drewN HL358_0.out _) _) (fun k_ hk => ⟨⟨hk.1.1, hk.2⟩, hk.1.2⟩)))) | (have h2_ := Kd.V_mono (ok' := (fun k_ => ((fun k_ => (P0_ k_ ∨ w.heap.size ≤ k_) ∧ some k_ ≠ (.slice Ao14 t359.length co14 : Value).ownBlock)) k_ ∧ some k_ ≠ (u5 : Value).ownBlock)) (Kd.V_drewN HL358_0.out nd) (fun k_ hk => ⟨⟨hk.1.1, hk.2⟩, hk.1.2⟩); exact Kd.FK_slice_mk (Kd.V_reads' h2_).2.1 (Kd.V_F h2_))); (case aB => exact zb); (case aF => exact (fun k_ hk => ⟨(.inr (Nat.le_trans (below_size zb) hk)), Kd.fresh' (Kd.R_lt (mR_ HO362.out)) k_ hk⟩)); (case aO => exact (mN_ HO_5.out)); (case aS => exact (below_size zb)); (case aL => have := LMc12.out; omega); intro v365 w15 ho hb hg hat; rw [← Ny364.out] at ho; have n0_ := aM (Kd.V_afterv (ok := (fun k_ => (P0_ k_ ∨ w.heap.size ≤ k_) ∧ some k_ ≠ (.slice Ao14 t359.length co14 : Value).ownBlock)) (by (with_reducible repeat (first | apply Kd.V_alloc | apply Kd.V_drewN | apply Kd.V_drew)); exact Kd.V_mono HO_11.out (fun _ hk => ⟨⟨hk.1.1, hk.2⟩, hk.1.2⟩)) hg hat); have n1_ := aM (Kd.V_afterv (ok := (fun k_ => (P0_ k_ ∨ w.heap.size ≤ k_) ∧ some k_ ≠ (.slice Ao14 t359.length co14 : Value).ownBlock)) (by (with_reducible repeat (first | apply Kd.V_alloc | apply Kd.V_drewN | apply Kd.V_drew)); exact Kd.V_mono HL358_0.out (fun _ hk => ⟨⟨hk.1.1, hk.2⟩, hk.1.2⟩)) hg hat); have n2_ := aM (Kd.R_over' (mR_ HO362.out) (Kd.N_typed (mN_ HO_5.out)) (by decide) hg); have n3_ := aM (hb); have n4_ := aM (ho); clear HO_11; clear HL358_0; clear HO362; clear HB; clear HO_5; have HO_11 := n0_; have HL358_0 := n1_; have HO362 := n2_; have HB := n3_; have HO366 := n4_; clear n0_ n1_ n2_ n3_ n4_; clear ho hb hg hat))
   go_roundg k1
   case measure => have := HK1.out; omega
   case rel => exact ⟨(y364), (wrap64 (x13_1 + 1)), zr, H', ⟨by have := HK1.out; omega⟩, ⟨by (with_reducible repeat (first | apply Kd.N_alloc | apply Kd.N_drewN | apply Kd.N_drew)); exact Kd.N_mono HO366.out (fun _ hk => hk.1)⟩, ⟨by (with_reducible repeat (first | apply Kd.V_alloc | apply Kd.V_drewN | apply Kd.V_drew)); exact Kd.V_mono HO_11.out (fun _ hk => ⟨hk.1.1, hk.2⟩)⟩, ⟨zb⟩⟩
def impl_CountTriangles.f (k : Nat) (a0 : Int) : Option (Int × Int × Int) := (impl_within.f a0 1 6).bind fun t367 => (if t367 = true then ((impl_allTriangles.f k a0).bind fun t368 => ((impl_ownLeast__impl_triangleForm.f k t368).bind fun t371 => (some ((t368.length : Int), (t371.length : Int), 0)))) else (some (0, 0, 2)))
theorem impl_CountTriangles.calls (k : Nat) (a0 : Int) (r1 : Int) (r2 : Int) (r3 : Int) (w : World) (h : impl_CountTriangles.f k a0 = some (r1, r2, r3)) :
  Calls Tryz.prog 9 #[.int .i64 a0] w fun e w' => e = .returned (.tuple #[.int .i64 r1, .int .i64 r2, .int .i64 r3]) ∧ Below w.heap.size w w' := by
 have HB := aM (Below.refl w.heap.size w)
 have H : ((impl_within.f a0 1 6).bind fun t367 => (if t367 = true then ((impl_allTriangles.f k a0).bind fun t368 => ((impl_ownLeast__impl_triangleForm.f k t368).bind fun t371 => (some ((t368.length : Int), (t371.length : Int), 0)))) else (some (0, 0, 2)))) = some (r1, r2, r3) := h
 clear h
 replace H := Option.bind_eq_some_iff.mp H
 obtain ⟨t367, A20, H⟩ := H
 replace H : (if t367 = true then ((impl_allTriangles.f k a0).bind fun t368 => ((impl_ownLeast__impl_triangleForm.f k t368).bind fun t371 => (some ((t368.length : Int), (t371.length : Int), 0)))) else (some (0, 0, 2))) = some (r1, r2, r3) := H
 have A2 := aM A20
 clear A20
 by_cases c3 : t367 = true
 rotate_left
 ·replace c3 := Bool.eq_false_iff.mpr c3
  subst c3
  have H1 : (some (0, 0, 2)) = some (r1, r2, r3) := by rw [if_neg (show ¬ (false = true) by decide)] at H; exact H
  clear H
  have H := H1
  clear H1
  simp only [Option.some.injEq, Prod.mk.injEq] at H
  obtain ⟨rfl, rfl, rfl⟩ := H
  go_enter Tryz.func9, Tryz.ntmps9
  go_wp2_with (first | ((with_reducible refine gate_callee (f := 18) rfl ?_); refine goesL_ (some 7) rfl rfl Tryz.func18 (by kernel_rfl) rfl #[.int .i64 a0, .int .i64 1, .int .i64 6] rfl zm ?_; (with_reducible refine (impl_within.calls a0 1 6 false _ A2.out).mono ?_); rintro e w' ⟨rfl, ⟨nd, rfl⟩⟩; refine ⟨_, rfl, ?_⟩))
  go_ret3
  exact ⟨zw, zb⟩
 subst c3
 have H1 : ((impl_allTriangles.f k a0).bind fun t368 => ((impl_ownLeast__impl_triangleForm.f k t368).bind fun t371 => (some ((t368.length : Int), (t371.length : Int), 0)))) = some (r1, r2, r3) := by rw [if_pos rfl] at H; exact H
 clear H
 have H := H1
 clear H1
 replace H := Option.bind_eq_some_iff.mp H
 obtain ⟨t368, A40, H⟩ := H
 replace H : ((impl_ownLeast__impl_triangleForm.f k t368).bind fun t371 => (some ((t368.length : Int), (t371.length : Int), 0))) = some (r1, r2, r3) := H
 have A4 := aM A40
 clear A40
 replace H := Option.bind_eq_some_iff.mp H
 obtain ⟨t371, A50, H⟩ := H
 replace H : (some ((t368.length : Int), (t371.length : Int), 0)) = some (r1, r2, r3) := H
 have A5 := aM A50
 clear A50
 simp only [Option.some.injEq, Prod.mk.injEq] at H
 obtain ⟨rfl, rfl, rfl⟩ := H
 go_enter Tryz.func9, Tryz.ntmps9
 go_wp2_with (first | ((with_reducible refine gate_callee (f := 18) rfl ?_); refine goesL_ (some 7) rfl rfl Tryz.func18 (by kernel_rfl) rfl #[.int .i64 a0, .int .i64 1, .int .i64 6] rfl zm ?_; (with_reducible refine (impl_within.calls a0 1 6 true _ A2.out).mono ?_); rintro e w' ⟨rfl, ⟨nd, rfl⟩⟩; refine ⟨_, rfl, ?_⟩) | ((with_reducible refine gate_callee (f := 19) rfl ?_); refine goesL_ (some 10) rfl rfl Tryz.func19 (by kernel_rfl) rfl #[.int .i64 a0] rfl zm ?_; (with_reducible refine (impl_allTriangles.calls k a0 t368 _ A4.out).mono ?_); rintro e w6 ⟨v369, rfl, ho0, hb⟩; refine ⟨_, rfl, ?_⟩; have n0_ := aM (Kd.V_lower (Kd.V_mono (ok' := fun k_ => True) ho0 (fun k_ hk_ => trivial)) (below_size zb)); have n1_ := aM (below_step zb hb); clear HB; have HO370 := n0_; have HB := n1_; clear n0_ n1_; (try clear hb); (try clear hb2); (try clear hk); (try clear hi); (try clear ho0); obtain ⟨Ao7, co7, eo7⟩ := Kd.V_slice HO370.out; subst eo7) | ((with_reducible refine gate_callee (f := 20) rfl ?_); refine goesL_ (some 14) rfl rfl Tryz.func20 (by kernel_rfl) rfl #[.slice Ao7 t368.length co7, .func (.func 21) #[] #[]] rfl zm ?_; (with_reducible refine (impl_ownLeast__impl_triangleForm.calls k (fun k_ => True) _ _ t368  t371 _ ?side1 A5.out).mono ?_); (case side1 => exact HO370.out); rintro e w8 ⟨v372, rfl, ho0, hb⟩; refine ⟨_, rfl, ?_⟩; have n0_ := aM (Kd.V_elder' (mV_ HO370.out) (by first | exact Kd.N_base ho0 | exact Kd.S_base ho0 | exact Kd.R_base ho0) hb); have n1_ := aM (Kd.N_lower (Kd.N_mono (ok' := fun k_ => True) ho0 (fun k_ hk_ => trivial)) (below_size zb)); have n2_ := aM (below_step zb hb); clear HO370; clear HB; have HO370 := n0_; have HO373 := n1_; have HB := n2_; clear n0_ n1_ n2_; (try clear hb); (try clear hb2); (try clear hk); (try clear hi); (try clear ho0); obtain ⟨Ao9, co9, eo9⟩ := Kd.N_slice HO373.out; subst eo9))
 go_ret3
 exact ⟨zw, zb⟩
def spec_l02Index.l0 : Nat → List (S25) → Int → Int → Int → Option (Int)
 | 0, _, _, _, _ => none
 | k + 1, x0, x5, x375000, x375001 => if x5 < (x0.length : Int) then (if 0 ≤ x5 then (if (((rd_T25 x0 x5).f0) == x375000 && (((rd_T25 x0 x5).f1) == x375001)) = true then (some x5) else (spec_l02Index.l0 k x0 (wrap64 (x5 + 1)) x375000 x375001)) else (none)) else (some (-1))
def spec_l02Index.f (k : Nat) (l0 : List (S25)) (a1_0 : Int) (a1_1 : Int) : Option (Int) := spec_l02Index.l0 k l0 0 a1_0 a1_1
theorem spec_l02Index.calls (k : Nat) (A0 : Option Addr) (c0 : Nat) (l0 : List (S25)) (a1_0 : Int) (a1_1 : Int) (r : Int) (w : World) (hr0 : Kd.C k25 w A0 l0.length l0) (hc0 : l0.length ≤ c0) (h : spec_l02Index.f k l0 a1_0 a1_1 = some r) :
  Calls Tryz.prog 39 #[.slice A0 l0.length c0, .agg #[.int .i64 a1_0, .int .i64 a1_1]] w fun e w' => e = .returned (.int .i64 r) ∧ Below w.heap.size w w' := by
 have hu25 := Tryz.underlying25
 have HR0 := aM hr0
 have HC0 := aM hc0
 clear hr0 hc0
 have HB := aM (Below.refl w.heap.size w)
 have H : (spec_l02Index.l0 k l0 0 a1_0 a1_1) = some r := h
 clear h
 have H' := aM H
 clear H
 go_enter Tryz.func39, Tryz.ntmps39
 go_wp2_with (first | ((with_reducible refine gate_dst (N := 3) rfl ?_); refine box_event ?hg (N := 3) ?hd (cs := #[.int .i64 a1_0, .int .i64 a1_1]) (t := 25) ?hr ?_; (case hd => rfl); (case hg => rfl); (case hr => first | (go_simp; done) | (go_simp; rfl)); intro gb374 hg w3 hbox hb; have n0_ := aM (below_step zb hb); have n1_ := aM (hbox); have n2_ := aM ((ze : w.heap.size ≤ gb374)); have n3_ := aM ((ze : w.heap.size ≤ gb374)); clear HB; have HB := n0_; have BK374 := n1_; have GW374 := n2_; have GE374 := n3_; clear n0_ n1_ n2_ n3_; clear hb hbox hg))
 repeat (go_quiet (first | ((with_reducible refine gate_dst (N := 3) rfl ?_); refine box_event ?hg (N := 3) ?hd (cs := #[.int .i64 a1_0, .int .i64 a1_1]) (t := 25) ?hr ?_; (case hd => rfl); (case hg => rfl); (case hr => first | (go_simp; done) | (go_simp; rfl)); intro gb374 hg w3 hbox hb; have n0_ := aM (below_step zb hb); have n1_ := aM (hbox); have n2_ := aM ((ze : w.heap.size ≤ gb374)); have n3_ := aM ((ze : w.heap.size ≤ gb374)); clear HB; have HB := n0_; have BK374 := n1_; have GW374 := n2_; have GE374 := n3_; clear n0_ n1_ n2_ n3_; clear hb hbox hg)); try go_wp2_with (first | ((with_reducible refine gate_dst (N := 3) rfl ?_); refine box_event ?hg (N := 3) ?hd (cs := #[.int .i64 a1_0, .int .i64 a1_1]) (t := 25) ?hr ?_; (case hd => rfl); (case hg => rfl); (case hr => first | (go_simp; done) | (go_simp; rfl)); intro gb374 hg w3 hbox hb; have n0_ := aM (below_step zb hb); have n1_ := aM (hbox); have n2_ := aM ((ze : w.heap.size ≤ gb374)); have n3_ := aM ((ze : w.heap.size ≤ gb374)); clear HB; have HB := n0_; have BK374 := n1_; have GW374 := n2_; have GE374 := n3_; clear n0_ n1_ n2_ n3_; clear hb hbox hg)))
 go_loopg [5] k (fun kq v5 w' => ∃ (x5_1 : Int), v5 = .int .i64 x5_1 ∧ Aside0 (spec_l02Index.l0 kq l0 x5_1 a1_0 a1_1 = some r) ∧ Aside0 (kq ≤ k) ∧ Aside0 (w'.heap[gb374]? = some (.cells #[.int .i64 a1_0, .int .i64 a1_1] 25 (0, 0))) ∧ Aside0 (Below w.heap.size w w'))
 case atStart => exact ⟨(0), zr, H', ⟨Nat.le_refl _⟩, ⟨mB_ BK374.out⟩, ⟨zs GE374.out⟩⟩
 case round =>
  clear H'
  try clear p2
  try clear c3
  obtain ⟨x5_1, rfl, HA, HK1, BK374, HB⟩ := hrel
  cases gk with
  | zero => exact absurd HA.out (by simp [spec_l02Index.l0])
  | succ k1 =>
   have H := HA.out
   clear HA
   simp only [spec_l02Index.l0] at H
   by_cases c4 : x5_1 < (l0.length : Int)
   rotate_left
   ·rw [if_neg c4] at H
    have c4b0 : decide (x5_1 < (l0.length : Int)) = false := decide_eq_false c4
    clear c4
    obtain rfl := Option.some.inj H
    go_wp2
    repeat (go_quiet (fail); try go_wp2)
    go_ret
    exact ⟨zw, zs GE374.out⟩
   rw [if_pos c4] at H
   have c4b0 : decide (x5_1 < (l0.length : Int)) = true := decide_eq_true c4
   clear c4
   by_cases c5 : 0 ≤ x5_1
   rotate_left
   ·rw [if_neg c5] at H
    exact absurd H (by simp)
   rw [if_pos c5] at H
   have c5b0 : decide (0 ≤ x5_1) = true := decide_eq_true c5
   clear c5
   by_cases c6 : (((rd_T25 l0 x5_1).f0) == a1_0 && (((rd_T25 l0 x5_1).f1) == a1_1)) = true
   ·rw [if_pos c6] at H
    have c6b0 : (((rd_T25 l0 x5_1).f0) == a1_0 && (((rd_T25 l0 x5_1).f1) == a1_1)) = true := c6
    (try (have c6b1 : decide (((rd_T25 l0 x5_1).f0) = a1_0 && (((rd_T25 l0 x5_1).f1) == a1_1)) = true := by simpa using c6))
    (try (have c6b2 : (((rd_T25 l0 x5_1).f0) == a1_0 && (((rd_T25 l0 x5_1).f1) == a1_1)) = true := by simpa using c6))
    clear c6
    obtain rfl := Option.some.inj H
    have p375 : 0 ≤ (x5_1 : Int) := of_decide_eq_true za
    have q375 : x5_1 < (l0.length : Int) := of_decide_eq_true za
    obtain ⟨ad375, e375, hx375_0, hx375_1⟩ := at_T25 HR0.out x5_1 p375 q375
    cases e375
    replace hx375_0 := (HB.out.cell (World.block_lt_of_cell? w _ hx375_0)).trans hx375_0
    replace hx375_1 := (HB.out.cell (World.block_lt_of_cell? w _ hx375_1)).trans hx375_1
    replace p375 := eq_true p375
    replace q375 := eq_true q375
    have hcz7_0 : wr.cell? ⟨gb374, 0, none⟩ = some (.int .i64 a1_0) := (blk_cell BK374.out 0).trans rfl
    have hcz7_1 : wr.cell? ⟨gb374, 1, none⟩ = some (.int .i64 a1_1) := (blk_cell BK374.out 1).trans rfl
    have hfz7_0 := blk_frozen BK374.out 0
    have hfz7_1 := blk_frozen BK374.out 1
    go_wp2
    repeat (go_quiet (fail); try go_wp2)
    go_ret
    exact ⟨zw, zs GE374.out⟩
   rw [if_neg c6] at H
   have c6b0 : (((rd_T25 l0 x5_1).f0) == a1_0 && (((rd_T25 l0 x5_1).f1) == a1_1)) = false := by simpa using c6
   (try (have c6b1 : decide (((rd_T25 l0 x5_1).f0) = a1_0 && (((rd_T25 l0 x5_1).f1) == a1_1)) = false := by simpa using c6))
   (try (have c6b2 : (((rd_T25 l0 x5_1).f0) == a1_0 && (((rd_T25 l0 x5_1).f1) == a1_1)) = false := by simpa using c6))
   (try (have c6b3 : ¬ (((rd_T25 l0 x5_1).f0) = a1_0 && (((rd_T25 l0 x5_1).f1) == a1_1)) := by simpa using c6))
   clear c6
   have H' := aM H
   clear H
   have p375 : 0 ≤ (x5_1 : Int) := of_decide_eq_true za
   have q375 : x5_1 < (l0.length : Int) := of_decide_eq_true za
   obtain ⟨ad375, e375, hx375_0, hx375_1⟩ := at_T25 HR0.out x5_1 p375 q375
   cases e375
   replace hx375_0 := (HB.out.cell (World.block_lt_of_cell? w _ hx375_0)).trans hx375_0
   replace hx375_1 := (HB.out.cell (World.block_lt_of_cell? w _ hx375_1)).trans hx375_1
   replace p375 := eq_true p375
   replace q375 := eq_true q375
   have hcz8_0 : wr.cell? ⟨gb374, 0, none⟩ = some (.int .i64 a1_0) := (blk_cell BK374.out 0).trans rfl
   have hcz8_1 : wr.cell? ⟨gb374, 1, none⟩ = some (.int .i64 a1_1) := (blk_cell BK374.out 1).trans rfl
   have hfz8_0 := blk_frozen BK374.out 0
   have hfz8_1 := blk_frozen BK374.out 1
   go_wp2
   repeat (go_quiet (fail); try go_wp2)
   go_roundg k1
   case measure => have := HK1.out; omega
   case rel => exact ⟨(wrap64 (x5_1 + 1)), zr, H', ⟨by have := HK1.out; omega⟩, ⟨mB_ BK374.out⟩, ⟨zs GE374.out⟩⟩
def spec_l02Less.f (a0_0 : Int) (a0_1 : Int) (a1_0 : Int) (a1_1 : Int) : Option (Bool) := if a0_1 < a1_1 then (some true) else (if a0_1 = a1_1 then (some (decide (a0_0 < a1_0))) else (some false))
end Go.Proofs.YtlnliahadgmbcaaGreat.F
end
