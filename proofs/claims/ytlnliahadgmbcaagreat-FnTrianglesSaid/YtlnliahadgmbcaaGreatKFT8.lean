/- The row of FnTriangles, with what it needs: text 9 of 13. -/
import Derived.Test.YtlnliahadgmbcaaGreatKFT7
set_option maxHeartbeats 8000000
set_option maxRecDepth 100000
section
namespace Go.Proofs.YtlnliahadgmbcaaGreat.F
open Go.RowKit Go.Proofs.YtlnliahadgmbcaaGreatW.PrintWords Go.Proofs.YtlnliahadgmbcaaGreatW.PrintLast Go.Proofs.YtlnliahadgmbcaaGreatW.PrintMore
attribute [local go_sem] max2_int min2_int max_two min_two max_three min_three max_four min_four
set_option linter.unusedVariables false
set_option linter.unusedSimpArgs false
theorem spec_l02Insert.calls (k : Nat) (A0 : Option Addr) (c0 : Nat) (l0 : List (S25)) (a1_0 : Int) (a1_1 : Int) (r : List (S25)) (w : World) (hr0 : Kd.C k25 w A0 l0.length l0) (hc0 : l0.length ≤ c0) (h : spec_l02Insert.f k l0 a1_0 a1_1 = some r) :
  Calls Tryz.prog 42 #[.slice A0 l0.length c0, .agg #[.int .i64 a1_0, .int .i64 a1_1]] w fun e w' => ∃ v0_ : Value, e = .returned (v0_) ∧ Kd.R k25 25 w' w.heap.size (fun _ => True) v0_ r ∧ Below w.heap.size w w' := by
 have hu25 := Tryz.underlying25
 have HR0 := aM hr0
 have HC0 := aM hc0
 clear hr0 hc0
 have HB := aM (Below.refl w.heap.size w)
 have H : (spec_l02Insert.l0 k l0 (([] : List (S25))) false 0 a1_0 a1_1) = some r := h
 clear h
 obtain ⟨y430, hy430⟩ : ∃ y_ : List (S25), y_ = (([] : List (S25))) := ⟨_, rfl⟩
 replace H : (spec_l02Insert.l0 k l0 y430 false 0 a1_0 a1_1) = some r := zy H hy430
 have Ny430 := aM hy430
 clear hy430
 have H' := aM H
 clear H
 go_enter Tryz.func42, Tryz.ntmps42
 go_wp2_with (first | ((with_reducible refine gate_dst (N := 3) rfl ?_); refine box_event ?hg (N := 3) ?hd (cs := #[.int .i64 a1_0, .int .i64 a1_1]) (t := 25) ?hr ?_; (case hd => rfl); (case hg => rfl); (case hr => first | (go_simp; done) | (go_simp; rfl)); intro gb429 hg w3 hbox hb; have n0_ := aM (below_step zb hb); have n1_ := aM (hbox); have n2_ := aM ((ze : w.heap.size ≤ gb429)); have n3_ := aM ((ze : w.heap.size ≤ gb429)); clear HB; have HB := n0_; have BK429 := n1_; have GW429 := n2_; have GE429 := n3_; clear n0_ n1_ n2_ n3_; clear hb hbox hg) | ((with_reducible refine gate_dst (N := 8) rfl ?_); refine Kd.R_lit k25 _ 25 ?hg (N := 8) ?hd (xs := ([] : List (S25))) (inner := []) (ok := fun _ => True) (okp := fun _ => True) ?hr ?hp (fun _ hk => hk) trivial (Below.refl _ _) (Nat.le_refl _) (by simp) ?_; (case hd => rfl); (case hg => rfl); (case hr => first | (go_simp; done) | (go_simp; rfl)); (case hp => exact (Reps.none _ _)); intro v431 w4 ho5 hb hg_ hnew_; clear hg_ hnew_; (first | rw [← Ny430.out] at ho5 | (simp only [Int.reduceToNat] at ho5; rw [← Ny430.out] at ho5)); have n0_ := aM (Kd.R_lower (Kd.R_newB ho5 (g := gb429) (o := .cells #[.int .i64 a1_0, .int .i64 a1_1] 25 (0, 0)) (mB_ BK429.out)) (below_size (zs GE429.out))); have n1_ := aM (blk_below (g := gb429) (o := .cells #[.int .i64 a1_0, .int .i64 a1_1] 25 (0, 0)) (mB_ BK429.out) hb); have n2_ := aM (below_step (zs GE429.out) hb); clear BK429; clear HB; have HO432 := n0_; have BK429 := n1_; have HB := n2_; clear n0_ n1_ n2_; clear hb ho5))
 go_loopg [5, 6, 7] k (fun kq v5 v6 v7 w' => ∃ (x5_1 : List (S25)) (x6_1 : Bool) (x7_1 : Int), v6 = .bool x6_1 ∧ v7 = .int .i64 x7_1 ∧ Aside0 (spec_l02Insert.l0 kq l0 x5_1 x6_1 x7_1 a1_0 a1_1 = some r) ∧ Aside0 (kq ≤ k) ∧ Aside0 (Kd.R k25 25 w' w.heap.size (fun k_ => k_ ≠ gb429) v5 x5_1) ∧ Aside0 (w'.heap[gb429]? = some (.cells #[.int .i64 a1_0, .int .i64 a1_1] 25 (0, 0))) ∧ Aside0 (Below w.heap.size w w'))
 case atStart => exact ⟨(y430), (false), (0), zr, zr, H', ⟨Nat.le_refl _⟩, ⟨by (with_reducible repeat (first | apply Kd.R_alloc | apply Kd.R_drewN | apply Kd.R_drew)); exact Kd.R_mono HO432.out (fun _ hk => hk.2)⟩, ⟨mB_ BK429.out⟩, ⟨zs GE429.out⟩⟩
 case round =>
  clear H'
  try clear p2
  try clear c4
  obtain ⟨x5_1, x6_1, x7_1, rfl, rfl, HA, HK1, HO_5, BK429, HB⟩ := hrel
  cases gk with
  | zero => exact absurd HA.out (by simp [spec_l02Insert.l0])
  | succ k1 =>
   have H := HA.out
   clear HA
   simp only [spec_l02Insert.l0] at H
   by_cases c6 : x7_1 < (l0.length : Int)
   rotate_left
   ·rw [if_neg c6] at H
    have c6b0 : decide (x7_1 < (l0.length : Int)) = false := decide_eq_false c6
    clear c6
    by_cases c26 : x6_1 = true
    ·subst c26
     have H1 : (some x5_1) = some r := by rw [if_pos rfl] at H; exact H
     clear H
     have H := H1
     clear H1
     obtain rfl := Option.some.inj H
     go_wp2
     go_ret
     exact ⟨_, zw, by (with_reducible repeat (first | apply Kd.R_alloc | apply Kd.R_drewN | apply Kd.R_drew)); exact Kd.R_mono HO_5.out (fun _ hk => trivial), zs GE429.out⟩
    replace c26 := Bool.eq_false_iff.mpr c26
    subst c26
    have H1 : (if x5_1.length < 8796093022208 then (some (x5_1 ++ [(⟨a1_0, a1_1⟩ : S25)])) else (none)) = some r := by rw [if_neg (show ¬ (false = true) by decide)] at H; exact H
    clear H
    have H := H1
    clear H1
    by_cases c27 : x5_1.length < 8796093022208
    rotate_left
    ·rw [if_neg c27] at H
     exact absurd H (by simp)
    rw [if_pos c27] at H
    have LMc27 := aM c27
    clear c27
    obtain ⟨y450, hy450⟩ : ∃ y_ : List (S25), y_ = (x5_1 ++ [(⟨a1_0, a1_1⟩ : S25)]) := ⟨_, rfl⟩
    replace H : (some y450) = some r := zy H hy450
    have Ny450 := aM hy450
    clear hy450
    obtain rfl := Option.some.inj H
    have hcz28_0 : wr.cell? ⟨gb429, 0, none⟩ = some (.int .i64 a1_0) := (blk_cell BK429.out 0).trans rfl
    have hcz28_1 : wr.cell? ⟨gb429, 1, none⟩ = some (.int .i64 a1_1) := (blk_cell BK429.out 1).trans rfl
    have hfz28_0 := blk_frozen BK429.out 0
    have hfz28_1 := blk_frozen BK429.out 1
    go_wp2_with (first | ((with_reducible refine gate_builtin (b := .append) (xs := #[.tmp 38, .tmp 40]) rfl ?_); at_builtin; refine Kd.R_append k25 (w0 := w) w.heap.size rfl (.tmp 38) (.tmp 40) 27 25 (.agg #[(.int .i64 0), (.int .i64 0)]) 16 rfl Tryz.underlying27 info25 rfl (by decide) (by omega) u5 x5_1 (⟨a1_0, a1_1⟩ : S25) [.int .i64 a1_0, .int .i64 a1_1] (fun k_ => k_ ≠ gb429) (fun _ => False) rfl rfl ?aP (fun _ hk => hk.elim) ?aF ?aO ?aB ?aS ?aL ?_; (case aP => exact k25_mkM _ _ _ (⟨a1_0, a1_1⟩ : S25)); (case aB => exact (zs GE429.out)); (case aF => exact (fun k_ hk => Kd.freshB (g := gb429) (o := .cells #[.int .i64 a1_0, .int .i64 a1_1] 25 (0, 0)) (mB_ BK429.out) k_ hk)); (case aO => exact (mR_ HO_5.out)); (case aS => exact (below_size (zs GE429.out))); (case aL => have := LMc27.out; omega); intro v451 w29 ho hb hg hat; rw [← Ny450.out] at ho; have n0_ := aM (blk_grown (g := gb429) (o := .cells #[.int .i64 a1_0, .int .i64 a1_1] 25 (0, 0)) (mB_ BK429.out) hg (Kd.R_away HO_5.out (fun _ hk => hk))); have n1_ := aM (hb); have n2_ := aM (ho); clear BK429; clear HB; clear HO_5; have BK429 := n0_; have HB := n1_; have HO452 := n2_; clear n0_ n1_ n2_; clear ho hb hg hat))
    go_ret
    exact ⟨_, zw, by (with_reducible repeat (first | apply Kd.R_alloc | apply Kd.R_drewN | apply Kd.R_drew)); exact Kd.R_mono HO452.out (fun _ hk => trivial), zs GE429.out⟩
   rw [if_pos c6] at H
   have c6b0 : decide (x7_1 < (l0.length : Int)) = true := decide_eq_true c6
   clear c6
   by_cases c7 : x6_1 = true
   ·subst c7
    have H1 : (if 0 ≤ x7_1 then (if x5_1.length < 8796093022208 then (spec_l02Insert.l0 k1 l0 (x5_1 ++ [(⟨(rd_T25 l0 x7_1).f0, (rd_T25 l0 x7_1).f1⟩ : S25)]) true (wrap64 (x7_1 + 1)) a1_0 a1_1) else (none)) else (none)) = some r := by rw [if_pos rfl] at H; exact H
    clear H
    have H := H1
    clear H1
    by_cases c8 : 0 ≤ x7_1
    rotate_left
    ·rw [if_neg c8] at H
     exact absurd H (by simp)
    rw [if_pos c8] at H
    have c8b0 : decide (0 ≤ x7_1) = true := decide_eq_true c8
    clear c8
    by_cases c9 : x5_1.length < 8796093022208
    rotate_left
    ·rw [if_neg c9] at H
     exact absurd H (by simp)
    rw [if_pos c9] at H
    have LMc9 := aM c9
    clear c9
    obtain ⟨y434, hy434⟩ : ∃ y_ : List (S25), y_ = (x5_1 ++ [(⟨(rd_T25 l0 x7_1).f0, (rd_T25 l0 x7_1).f1⟩ : S25)]) := ⟨_, rfl⟩
    replace H : (spec_l02Insert.l0 k1 l0 y434 true (wrap64 (x7_1 + 1)) a1_0 a1_1) = some r := zy H hy434
    have Ny434 := aM hy434
    clear hy434
    have H' := aM H
    clear H
    try go_wp2
    have n0_ := aM (Kd.R_drew HO_5.out)
    have n1_ := aM (blk_drew BK429.out)
    have n2_ := aM (below_drew1 HB.out)
    clear HO_5
    clear BK429
    clear HB
    have HO_5 := n0_
    have BK429 := n1_
    have HB := n2_
    clear n0_ n1_ n2_
    refine start_ (n := 10) (S := fun w' => True) (ds := []) #[false, false, false, false, false, false, false, false, false, false] (by kernel_rfl) rfl rfl trivial (fun hHeld => ?_); refine with_tabW spec_l02Insert.tab6 spec_l02Insert.bits6 (fun HT_ HW_ => ?_)
    generalize wr.drew = w10 at HO_5 BK429 HB hHeld ⊢
    refine pure_ (i := 0) (N := some 15) (v := ?_) (a' := ?_) #[true, false, false, false, false, false, false, false, false, false] rfl rfl zz (fun _ _ _ h => h) (Or.inl ⟨by rfl, ?_⟩) ?_ ?_
    rotate_left
    ·intro w'
     go_simp
     with_reducible rfl
    rotate_left
    ·simp only [Act.put, xA, xB, xC, i64_w, i32_w]
     rfl
    refine pure_ (i := 1) (N := some 16) (v := ?_) (a' := ?_) #[true, true, false, false, false, false, false, false, false, false] rfl rfl zz (fun _ _ _ h => h) (Or.inl ⟨by rfl, ?_⟩) ?_ ?_
    rotate_left
    ·intro w'
     go_simp
     with_reducible rfl
    rotate_left
    ·simp only [Act.put, xA, xB, xC, i64_w, i32_w]
     rfl
    refine pure_ (i := 2) (N := some 17) (v := ?_) (a' := ?_) #[true, true, true, false, false, false, false, false, false, false] rfl rfl zz (fun _ _ _ h => h) (Or.inl ⟨by rfl, ?_⟩) ?_ ?_
    rotate_left
    ·intro w'
     go_simp
     with_reducible rfl
    rotate_left
    ·simp only [Act.put, xA, xB, xC, i64_w, i32_w]
     rfl
    refine pure_ (i := 3) (N := some 18) (v := undef) (a' := ?_) #[true, true, true, true, false, false, false, false, false, false] rfl rfl zz (fun _ _ _ h => h) (Or.inr ⟨by rfl, rfl⟩) ?_ ?_
    rotate_left
    ·simp only [Act.put, xA, xB, xC, i64_w, i32_w]
     rfl
    refine pure_ (i := 4) (N := some 19) (v := undef) (a' := ?_) #[true, true, true, true, true, false, false, false, false, false] rfl rfl zz (fun _ _ _ h => h) (Or.inr ⟨by rfl, rfl⟩) ?_ ?_
    rotate_left
    ·simp only [Act.put, xA, xB, xC, i64_w, i32_w]
     rfl
    refine pure_ (i := 5) (N := some 20) (v := undef) (a' := ?_) #[true, true, true, true, true, true, false, false, false, false] rfl rfl zz (fun _ _ _ h => h) (Or.inr ⟨by rfl, rfl⟩) ?_ ?_
    rotate_left
    ·simp only [Act.put, xA, xB, xC, i64_w, i32_w]
     rfl
    refine pure_ (i := 6) (N := some 21) (v := undef) (a' := ?_) #[true, true, true, true, true, true, true, false, false, false] rfl rfl zz (fun _ _ _ h => h) (Or.inr ⟨by rfl, rfl⟩) ?_ ?_
    rotate_left
    ·simp only [Act.put, xA, xB, xC, i64_w, i32_w]
     rfl
    refine pure_ (i := 7) (N := some 22) (v := undef) (a' := ?_) #[true, true, true, true, true, true, true, true, false, false] rfl rfl zz (fun _ _ _ h => h) (Or.inr ⟨by rfl, rfl⟩) ?_ ?_
    rotate_left
    ·simp only [Act.put, xA, xB, xC, i64_w, i32_w]
     rfl
    refine pure_ (i := 8) (N := some 23) (v := undef) (a' := ?_) #[true, true, true, true, true, true, true, true, true, false] rfl rfl zz (fun _ _ _ h => h) (Or.inr ⟨by rfl, rfl⟩) ?_ ?_
    rotate_left
    ·simp only [Act.put, xA, xB, xC, i64_w, i32_w]
     rfl
    refine pure_ (i := 9) (N := some 24) (v := ?_) (a' := ?_) #[true, true, true, true, true, true, true, true, true, true] rfl rfl zz (fun _ _ _ h => h) (Or.inl ⟨by rfl, ?_⟩) ?_ ?_
    rotate_left
    ·intro w'
     go_simp
     with_reducible rfl
    rotate_left
    ·simp only [Act.put, xA, xB, xC, i64_w, i32_w]
     rfl
    refine done_ (done_of HT_.out (by kernel_rfl)) ?_
    have p433 : 0 ≤ (x7_1 : Int) := of_decide_eq_true za
    have q433 : x7_1 < (l0.length : Int) := of_decide_eq_true za
    obtain ⟨ad433, e433, hx433_0, hx433_1⟩ := at_T25 HR0.out x7_1 p433 q433
    cases e433
    replace hx433_0 := (HB.out.cell (World.block_lt_of_cell? w _ hx433_0)).trans hx433_0
    replace hx433_1 := (HB.out.cell (World.block_lt_of_cell? w _ hx433_1)).trans hx433_1
    replace p433 := eq_true p433
    replace q433 := eq_true q433
    try go_wp2_with (first | ((with_reducible refine gate_builtin (b := .append) (xs := #[.tmp 29, .tmp 34]) rfl ?_); at_builtin; refine Kd.R_append k25 (w0 := w) w.heap.size rfl (.tmp 29) (.tmp 34) 27 25 (.agg #[(.int .i64 0), (.int .i64 0)]) 16 rfl Tryz.underlying27 info25 rfl (by decide) (by omega) u5 x5_1 (⟨(rd_T25 l0 x7_1).f0, (rd_T25 l0 x7_1).f1⟩ : S25) [.int .i64 ((rd_T25 l0 x7_1).f0), .int .i64 ((rd_T25 l0 x7_1).f1)] (fun k_ => k_ ≠ gb429) (fun _ => False) rfl rfl ?aP (fun _ hk => hk.elim) ?aF ?aO ?aB ?aS ?aL ?_; (case aP => exact k25_mkM _ _ _ (⟨(rd_T25 l0 x7_1).f0, (rd_T25 l0 x7_1).f1⟩ : S25)); (case aB => exact (zs GE429.out)); (case aF => exact (fun k_ hk => Kd.freshB (g := gb429) (o := .cells #[.int .i64 a1_0, .int .i64 a1_1] 25 (0, 0)) (mB_ BK429.out) k_ hk)); (case aO => exact (mR_ HO_5.out)); (case aS => exact (below_size (zs GE429.out))); (case aL => have := LMc9.out; omega); intro v435 w11 ho hb hg hat; rw [← Ny434.out] at ho; have n0_ := aM (blk_grown (g := gb429) (o := .cells #[.int .i64 a1_0, .int .i64 a1_1] 25 (0, 0)) (mB_ BK429.out) hg (Kd.R_away HO_5.out (fun _ hk => hk))); have n1_ := aM (hb); have n2_ := aM (ho); clear BK429; clear HB; clear HO_5; have BK429 := n0_; have HB := n1_; have HO436 := n2_; clear n0_ n1_ n2_; clear ho hb hg hat))
    go_roundg k1
    case measure => have := HK1.out; omega
    case rel => exact ⟨(y434), (true), (wrap64 (x7_1 + 1)), zr, zr, H', ⟨by have := HK1.out; omega⟩, ⟨mR_ HO436.out⟩, ⟨mB_ BK429.out⟩, ⟨zs GE429.out⟩⟩
   replace c7 := Bool.eq_false_iff.mpr c7
   subst c7
   have H1 : (if 0 ≤ x7_1 then ((spec_l02Less.f a1_0 a1_1 ((rd_T25 l0 x7_1).f0) ((rd_T25 l0 x7_1).f1)).bind fun t438 => (if t438 = true then (if x5_1.length < 8796093022208 then ((some (x5_1 ++ [(⟨a1_0, a1_1⟩ : S25)] : List (S25))).bind fun y439 => (if y439.length < 8796093022208 then (spec_l02Insert.l0 k1 l0 (y439 ++ [(⟨(rd_T25 l0 x7_1).f0, (rd_T25 l0 x7_1).f1⟩ : S25)]) true (wrap64 (x7_1 + 1)) a1_0 a1_1) else (none))) else (none)) else (if x5_1.length < 8796093022208 then (spec_l02Insert.l0 k1 l0 (x5_1 ++ [(⟨(rd_T25 l0 x7_1).f0, (rd_T25 l0 x7_1).f1⟩ : S25)]) false (wrap64 (x7_1 + 1)) a1_0 a1_1) else (none)))) else (none)) = some r := by rw [if_neg (show ¬ (false = true) by decide)] at H; exact H
   clear H
   have H := H1
   clear H1
   by_cases c12 : 0 ≤ x7_1
   rotate_left
   ·rw [if_neg c12] at H
    exact absurd H (by simp)
   rw [if_pos c12] at H
   have c12b0 : decide (0 ≤ x7_1) = true := decide_eq_true c12
   clear c12
   replace H := Option.bind_eq_some_iff.mp H
   obtain ⟨t438, A130, H⟩ := H
   replace H : (if t438 = true then (if x5_1.length < 8796093022208 then ((some (x5_1 ++ [(⟨a1_0, a1_1⟩ : S25)] : List (S25))).bind fun y439 => (if y439.length < 8796093022208 then (spec_l02Insert.l0 k1 l0 (y439 ++ [(⟨(rd_T25 l0 x7_1).f0, (rd_T25 l0 x7_1).f1⟩ : S25)]) true (wrap64 (x7_1 + 1)) a1_0 a1_1) else (none))) else (none)) else (if x5_1.length < 8796093022208 then (spec_l02Insert.l0 k1 l0 (x5_1 ++ [(⟨(rd_T25 l0 x7_1).f0, (rd_T25 l0 x7_1).f1⟩ : S25)]) false (wrap64 (x7_1 + 1)) a1_0 a1_1) else (none))) = some r := H
   have A13 := aM A130
   clear A130
   by_cases c14 : t438 = true
   rotate_left
   ·replace c14 := Bool.eq_false_iff.mpr c14
    subst c14
    have H1 : (if x5_1.length < 8796093022208 then (spec_l02Insert.l0 k1 l0 (x5_1 ++ [(⟨(rd_T25 l0 x7_1).f0, (rd_T25 l0 x7_1).f1⟩ : S25)]) false (wrap64 (x7_1 + 1)) a1_0 a1_1) else (none)) = some r := by rw [if_neg (show ¬ (false = true) by decide)] at H; exact H
    clear H
    have H := H1
    clear H1
    by_cases c22 : x5_1.length < 8796093022208
    rotate_left
    ·rw [if_neg c22] at H
     exact absurd H (by simp)
    rw [if_pos c22] at H
    have LMc22 := aM c22
    clear c22
    obtain ⟨y447, hy447⟩ : ∃ y_ : List (S25), y_ = (x5_1 ++ [(⟨(rd_T25 l0 x7_1).f0, (rd_T25 l0 x7_1).f1⟩ : S25)]) := ⟨_, rfl⟩
    replace H : (spec_l02Insert.l0 k1 l0 y447 false (wrap64 (x7_1 + 1)) a1_0 a1_1) = some r := zy H hy447
    have Ny447 := aM hy447
    clear hy447
    have H' := aM H
    clear H
    try go_wp2
    have n0_ := aM (Kd.R_drew HO_5.out)
    have n1_ := aM (blk_drew BK429.out)
    have n2_ := aM (below_drew1 HB.out)
    clear HO_5
    clear BK429
    clear HB
    have HO_5 := n0_
    have BK429 := n1_
    have HB := n2_
    clear n0_ n1_ n2_
    have p437 : 0 ≤ (x7_1 : Int) := of_decide_eq_true za
    have q437 : x7_1 < (l0.length : Int) := of_decide_eq_true za
    obtain ⟨ad437, e437, hx437_0, hx437_1⟩ := at_T25 HR0.out x7_1 p437 q437
    have hw437_1 := hx437_1
    have hw437_0 := hx437_0
    cases e437
    replace hx437_0 := (HB.out.cell (World.block_lt_of_cell? w _ hx437_0)).trans hx437_0
    replace hx437_1 := (HB.out.cell (World.block_lt_of_cell? w _ hx437_1)).trans hx437_1
    replace p437 := eq_true p437
    replace q437 := eq_true q437
    refine start_ (n := 10) (S := fun w' => w'.cell? ⟨gb429, 0, none⟩ = some (.int .i64 a1_0) ∧ w'.cell? ⟨gb429, 1, none⟩ = some (.int .i64 a1_1) ∧ w'.cell? (ad437.add ((x7_1).toNat * 2)) = some (.int .i64 ((rd_T25 l0 x7_1).f0)) ∧ w'.cell? ⟨(ad437.add ((x7_1).toNat * 2)).block, (ad437.add ((x7_1).toNat * 2)).off + 1, none⟩ = some (.int .i64 ((rd_T25 l0 x7_1).f1))) (ds := []) #[false, false, false, false, false, false, false, false, false, false] (by kernel_rfl) rfl rfl ⟨(blk_cell BK429.out 0).trans rfl, (blk_cell BK429.out 1).trans rfl, ((HB.out.cell (World.block_lt_of_cell? w _ hw437_0)).trans hw437_0), ((HB.out.cell (World.block_lt_of_cell? w _ hw437_1)).trans hw437_1)⟩ (fun hHeld => ?_); refine with_tabW spec_l02Insert.tab6 spec_l02Insert.bits6 (fun HT_ HW_ => ?_)
    generalize wr.drew = w23 at HO_5 BK429 HB hx437_0 hx437_1 hHeld ⊢
    refine pure_ (i := 0) (N := some 15) (v := ?_) (a' := ?_) #[true, false, false, false, false, false, false, false, false, false] rfl rfl zz (fun _ _ _ h => h) (Or.inl ⟨by rfl, ?_⟩) ?_ ?_
    rotate_left
    ·intro w'
     go_simp
     with_reducible rfl
    rotate_left
    ·simp only [Act.put, xA, xB, xC, i64_w, i32_w]
     rfl
    refine pure_ (i := 1) (N := some 16) (v := ?_) (a' := ?_) #[true, true, false, false, false, false, false, false, false, false] rfl rfl zz (fun _ _ _ h => h) (Or.inl ⟨by rfl, ?_⟩) ?_ ?_
    rotate_left
    ·intro w'
     go_simp
     with_reducible rfl
    rotate_left
    ·simp only [Act.put, xA, xB, xC, i64_w, i32_w]
     rfl
    refine pure_ (i := 2) (N := some 17) (v := ?_) (a' := ?_) #[true, true, true, false, false, false, false, false, false, false] rfl rfl zz (fun _ _ _ h => h) (Or.inl ⟨by rfl, ?_⟩) ?_ ?_
    rotate_left
    ·intro w'
     go_simp
     with_reducible rfl
    rotate_left
    ·simp only [Act.put, xA, xB, xC, i64_w, i32_w]
     rfl
    refine pure_ (i := 4) (N := some 19) (v := ?_) (a' := ?_) #[true, true, true, false, true, false, false, false, false, false] rfl rfl zz (fun _ _ _ h => h) (Or.inl ⟨by rfl, ?_⟩) ?_ ?_
    rotate_left
    ·intro w'
     go_simp
     with_reducible rfl
    rotate_left
    ·simp only [Act.put, xA, xB, xC, i64_w, i32_w]
     rfl
    refine pure_ (i := 5) (N := some 20) (v := ?_) (a' := ?_) #[true, true, true, false, true, true, false, false, false, false] rfl rfl zz (fun _ _ _ h => h) (Or.inl ⟨by rfl, ?_⟩) ?_ ?_
    rotate_left
    ·intro w'
     go_simp
     with_reducible rfl
    rotate_left
    ·simp only [Act.put, xA, xB, xC, i64_w, i32_w]
     rfl
    refine pure_ (i := 6) (N := some 21) (v := ?_) (a' := ?_) #[true, true, true, false, true, true, true, false, false, false] rfl rfl zz (fun _ _ _ h => h) (Or.inl ⟨by rfl, ?_⟩) ?_ ?_
    rotate_left
    ·intro w'
     go_simp
     with_reducible rfl
    rotate_left
    ·simp only [Act.put, xA, xB, xC, i64_w, i32_w]
     rfl
    refine take_ (i := 3) (N := some 18) (v := ?_) (a' := ?_) #[true, true, true, true, true, true, true, false, false, false] rfl rfl (take_ofW HT_.out HW_.out (by kernel_rfl)) (fun _ _ _ h => h) (Or.inl ⟨by rfl, ?_⟩) hHeld ?_ ?_
    rotate_left
    ·rintro w' ⟨s0, s1, s2, s3⟩
     go_simp
     with_reducible rfl
    rotate_left
    ·simp only [Act.put, xA, xB, xC, i64_w, i32_w]
     rfl
    refine take_ (i := 7) (N := some 22) (v := ?_) (a' := ?_) #[true, true, true, true, true, true, true, true, false, false] rfl rfl (take_ofW HT_.out HW_.out (by kernel_rfl)) (fun _ _ _ h => h) (Or.inl ⟨by rfl, ?_⟩) hHeld ?_ ?_
    rotate_left
    ·rintro w' ⟨s0, s1, s2, s3⟩
     go_simp
     with_reducible rfl
    rotate_left
    ·simp only [Act.put, xA, xB, xC, i64_w, i32_w]
     rfl
    refine one_ (i := 8) (N := some 23) #[true, true, true, true, true, true, true, true, true, false] rfl rfl (one_of HT_.out (by kernel_rfl)) (by decide) (fun K hK => ?_)
    refine goes_ Tryz.func57 (by kernel_rfl) rfl #[.agg #[.int .i64 a1_0, .int .i64 a1_1], .agg #[.int .i64 ((rd_T25 l0 x7_1).f0), .int .i64 ((rd_T25 l0 x7_1).f1)]] (by rfl) rfl rfl zm ?_
    with_reducible refine (spec_l02Less.calls a1_0 a1_1 ((rd_T25 l0 x7_1).f0) ((rd_T25 l0 x7_1).f1) false _ A13.out).mono ?_
    rintro e w24 ⟨rfl, hb⟩
    refine ⟨_, rfl, ?_⟩
    have n0_ := aM (Kd.R_below (mR_ HO_5.out) hb)
    have n1_ := aM (blk_below (g := gb429) (o := .cells #[.int .i64 a1_0, .int .i64 a1_1] 25 (0, 0)) (mB_ BK429.out) hb)
    have n2_ := aM (below_step (zs GE429.out) hb)
    clear HO_5
    clear BK429
    clear HB
    have HO_5 := n0_
    have BK429 := n1_
    have HB := n2_
    clear n0_ n1_ n2_
    (try clear hb)
    (try clear hb2)
    (try clear hk)
    (try clear hi)
    refine hK.out _ _ ⟨(blk_cell BK429.out 0).trans rfl, (blk_cell BK429.out 1).trans rfl, ((HB.out.cell (World.block_lt_of_cell? w _ hw437_0)).trans hw437_0), ((HB.out.cell (World.block_lt_of_cell? w _ hw437_1)).trans hw437_1)⟩ (fun hHeld => ?_)
    clear hK K
    refine norm_ (a' := ?_) ?_ ?_
    rotate_left
    ·show Act.put _ (some 23) _ = _
     simp only [Act.put, xA, xB, xC, i64_w, i32_w]
     rfl
    refine pure_ (i := 9) (N := some 24) (v := ?_) (a' := ?_) #[true, true, true, true, true, true, true, true, true, true] rfl rfl zz (fun _ _ _ h => h) (Or.inl ⟨by rfl, ?_⟩) ?_ ?_
    rotate_left
    ·intro w'
     go_simp
     with_reducible rfl
    rotate_left
    ·simp only [Act.put, xA, xB, xC, i64_w, i32_w]
     rfl
    refine done_ (done_of HT_.out (by kernel_rfl)) ?_
    have p446 : 0 ≤ (x7_1 : Int) := of_decide_eq_true za
    have q446 : x7_1 < (l0.length : Int) := of_decide_eq_true za
    obtain ⟨ad446, e446, hx446_0, hx446_1⟩ := at_T25 HR0.out x7_1 p446 q446
    obtain rfl : ad437 = ad446 := (by injection e446)
    replace hx446_0 := (HB.out.cell (World.block_lt_of_cell? w _ hx446_0)).trans hx446_0
    replace hx446_1 := (HB.out.cell (World.block_lt_of_cell? w _ hx446_1)).trans hx446_1
    replace p446 := eq_true p446
    replace q446 := eq_true q446
    try go_wp2_with (first | ((with_reducible refine gate_builtin (b := .append) (xs := #[.tmp 29, .tmp 34]) rfl ?_); at_builtin; refine Kd.R_append k25 (w0 := w) w.heap.size rfl (.tmp 29) (.tmp 34) 27 25 (.agg #[(.int .i64 0), (.int .i64 0)]) 16 rfl Tryz.underlying27 info25 rfl (by decide) (by omega) u5 x5_1 (⟨(rd_T25 l0 x7_1).f0, (rd_T25 l0 x7_1).f1⟩ : S25) [.int .i64 ((rd_T25 l0 x7_1).f0), .int .i64 ((rd_T25 l0 x7_1).f1)] (fun k_ => k_ ≠ gb429) (fun _ => False) rfl rfl ?aP (fun _ hk => hk.elim) ?aF ?aO ?aB ?aS ?aL ?_; (case aP => exact k25_mkM _ _ _ (⟨(rd_T25 l0 x7_1).f0, (rd_T25 l0 x7_1).f1⟩ : S25)); (case aB => exact (zs GE429.out)); (case aF => exact (fun k_ hk => Kd.freshB (g := gb429) (o := .cells #[.int .i64 a1_0, .int .i64 a1_1] 25 (0, 0)) (mB_ BK429.out) k_ hk)); (case aO => exact (mR_ HO_5.out)); (case aS => exact (below_size (zs GE429.out))); (case aL => have := LMc22.out; omega); intro v448 w25 ho hb hg hat; rw [← Ny447.out] at ho; have n0_ := aM (blk_grown (g := gb429) (o := .cells #[.int .i64 a1_0, .int .i64 a1_1] 25 (0, 0)) (mB_ BK429.out) hg (Kd.R_away HO_5.out (fun _ hk => hk))); have n1_ := aM (hb); have n2_ := aM (ho); clear BK429; clear HB; clear HO_5; have BK429 := n0_; have HB := n1_; have HO449 := n2_; clear n0_ n1_ n2_; clear ho hb hg hat))
    go_roundg k1
    case measure => have := HK1.out; omega
    case rel => exact ⟨(y447), (false), (wrap64 (x7_1 + 1)), zr, zr, H', ⟨by have := HK1.out; omega⟩, ⟨mR_ HO449.out⟩, ⟨mB_ BK429.out⟩, ⟨zs GE429.out⟩⟩
   subst c14
   have H1 : (if x5_1.length < 8796093022208 then ((some (x5_1 ++ [(⟨a1_0, a1_1⟩ : S25)] : List (S25))).bind fun y439 => (if y439.length < 8796093022208 then (spec_l02Insert.l0 k1 l0 (y439 ++ [(⟨(rd_T25 l0 x7_1).f0, (rd_T25 l0 x7_1).f1⟩ : S25)]) true (wrap64 (x7_1 + 1)) a1_0 a1_1) else (none))) else (none)) = some r := by rw [if_pos rfl] at H; exact H
   clear H
   have H := H1
   clear H1
   by_cases c15 : x5_1.length < 8796093022208
   rotate_left
   ·rw [if_neg c15] at H
    exact absurd H (by simp)
   rw [if_pos c15] at H
   have LMc15 := aM c15
   clear c15
   obtain ⟨y439, hy439⟩ : ∃ y_ : List (S25), y_ = (x5_1 ++ [(⟨a1_0, a1_1⟩ : S25)]) := ⟨_, rfl⟩
   replace H : (if y439.length < 8796093022208 then (spec_l02Insert.l0 k1 l0 (y439 ++ [(⟨(rd_T25 l0 x7_1).f0, (rd_T25 l0 x7_1).f1⟩ : S25)]) true (wrap64 (x7_1 + 1)) a1_0 a1_1) else (none)) = some r := zy H hy439
   have Ny439 := aM hy439
   clear hy439
   by_cases c16 : y439.length < 8796093022208
   rotate_left
   ·rw [if_neg c16] at H
    exact absurd H (by simp)
   rw [if_pos c16] at H
   have LMc16 := aM c16
   clear c16
   obtain ⟨y443, hy443⟩ : ∃ y_ : List (S25), y_ = (y439 ++ [(⟨(rd_T25 l0 x7_1).f0, (rd_T25 l0 x7_1).f1⟩ : S25)]) := ⟨_, rfl⟩
   replace H : (spec_l02Insert.l0 k1 l0 y443 true (wrap64 (x7_1 + 1)) a1_0 a1_1) = some r := zy H hy443
   have Ny443 := aM hy443
   clear hy443
   have H' := aM H
   clear H
   try go_wp2
   have n0_ := aM (Kd.R_drew HO_5.out)
   have n1_ := aM (blk_drew BK429.out)
   have n2_ := aM (below_drew1 HB.out)
   clear HO_5
   clear BK429
   clear HB
   have HO_5 := n0_
   have BK429 := n1_
   have HB := n2_
   clear n0_ n1_ n2_
   have p437 : 0 ≤ (x7_1 : Int) := of_decide_eq_true za
   have q437 : x7_1 < (l0.length : Int) := of_decide_eq_true za
   obtain ⟨ad437, e437, hx437_0, hx437_1⟩ := at_T25 HR0.out x7_1 p437 q437
   have hw437_1 := hx437_1
   have hw437_0 := hx437_0
   cases e437
   replace hx437_0 := (HB.out.cell (World.block_lt_of_cell? w _ hx437_0)).trans hx437_0
   replace hx437_1 := (HB.out.cell (World.block_lt_of_cell? w _ hx437_1)).trans hx437_1
   replace p437 := eq_true p437
   replace q437 := eq_true q437
   refine start_ (n := 10) (S := fun w' => w'.cell? ⟨gb429, 0, none⟩ = some (.int .i64 a1_0) ∧ w'.cell? ⟨gb429, 1, none⟩ = some (.int .i64 a1_1) ∧ w'.cell? (ad437.add ((x7_1).toNat * 2)) = some (.int .i64 ((rd_T25 l0 x7_1).f0)) ∧ w'.cell? ⟨(ad437.add ((x7_1).toNat * 2)).block, (ad437.add ((x7_1).toNat * 2)).off + 1, none⟩ = some (.int .i64 ((rd_T25 l0 x7_1).f1))) (ds := []) #[false, false, false, false, false, false, false, false, false, false] (by kernel_rfl) rfl rfl ⟨(blk_cell BK429.out 0).trans rfl, (blk_cell BK429.out 1).trans rfl, ((HB.out.cell (World.block_lt_of_cell? w _ hw437_0)).trans hw437_0), ((HB.out.cell (World.block_lt_of_cell? w _ hw437_1)).trans hw437_1)⟩ (fun hHeld => ?_); refine with_tabW spec_l02Insert.tab6 spec_l02Insert.bits6 (fun HT_ HW_ => ?_)
   generalize wr.drew = w17 at HO_5 BK429 HB hx437_0 hx437_1 hHeld ⊢
   refine pure_ (i := 0) (N := some 15) (v := ?_) (a' := ?_) #[true, false, false, false, false, false, false, false, false, false] rfl rfl zz (fun _ _ _ h => h) (Or.inl ⟨by rfl, ?_⟩) ?_ ?_
   rotate_left
   ·intro w'
    go_simp
    with_reducible rfl
   rotate_left
   ·simp only [Act.put, xA, xB, xC, i64_w, i32_w]
    rfl
   refine pure_ (i := 1) (N := some 16) (v := ?_) (a' := ?_) #[true, true, false, false, false, false, false, false, false, false] rfl rfl zz (fun _ _ _ h => h) (Or.inl ⟨by rfl, ?_⟩) ?_ ?_
   rotate_left
   ·intro w'
    go_simp
    with_reducible rfl
   rotate_left
   ·simp only [Act.put, xA, xB, xC, i64_w, i32_w]
    rfl
   refine pure_ (i := 2) (N := some 17) (v := ?_) (a' := ?_) #[true, true, true, false, false, false, false, false, false, false] rfl rfl zz (fun _ _ _ h => h) (Or.inl ⟨by rfl, ?_⟩) ?_ ?_
   rotate_left
   ·intro w'
    go_simp
    with_reducible rfl
   rotate_left
   ·simp only [Act.put, xA, xB, xC, i64_w, i32_w]
    rfl
   refine pure_ (i := 4) (N := some 19) (v := ?_) (a' := ?_) #[true, true, true, false, true, false, false, false, false, false] rfl rfl zz (fun _ _ _ h => h) (Or.inl ⟨by rfl, ?_⟩) ?_ ?_
   rotate_left
   ·intro w'
    go_simp
    with_reducible rfl
   rotate_left
   ·simp only [Act.put, xA, xB, xC, i64_w, i32_w]
    rfl
   refine pure_ (i := 5) (N := some 20) (v := ?_) (a' := ?_) #[true, true, true, false, true, true, false, false, false, false] rfl rfl zz (fun _ _ _ h => h) (Or.inl ⟨by rfl, ?_⟩) ?_ ?_
   rotate_left
   ·intro w'
    go_simp
    with_reducible rfl
   rotate_left
   ·simp only [Act.put, xA, xB, xC, i64_w, i32_w]
    rfl
   refine pure_ (i := 6) (N := some 21) (v := ?_) (a' := ?_) #[true, true, true, false, true, true, true, false, false, false] rfl rfl zz (fun _ _ _ h => h) (Or.inl ⟨by rfl, ?_⟩) ?_ ?_
   rotate_left
   ·intro w'
    go_simp
    with_reducible rfl
   rotate_left
   ·simp only [Act.put, xA, xB, xC, i64_w, i32_w]
    rfl
   refine take_ (i := 3) (N := some 18) (v := ?_) (a' := ?_) #[true, true, true, true, true, true, true, false, false, false] rfl rfl (take_ofW HT_.out HW_.out (by kernel_rfl)) (fun _ _ _ h => h) (Or.inl ⟨by rfl, ?_⟩) hHeld ?_ ?_
   rotate_left
   ·rintro w' ⟨s0, s1, s2, s3⟩
    go_simp
    with_reducible rfl
   rotate_left
   ·simp only [Act.put, xA, xB, xC, i64_w, i32_w]
    rfl
   refine take_ (i := 7) (N := some 22) (v := ?_) (a' := ?_) #[true, true, true, true, true, true, true, true, false, false] rfl rfl (take_ofW HT_.out HW_.out (by kernel_rfl)) (fun _ _ _ h => h) (Or.inl ⟨by rfl, ?_⟩) hHeld ?_ ?_
   rotate_left
   ·rintro w' ⟨s0, s1, s2, s3⟩
    go_simp
    with_reducible rfl
   rotate_left
   ·simp only [Act.put, xA, xB, xC, i64_w, i32_w]
    rfl
   refine one_ (i := 8) (N := some 23) #[true, true, true, true, true, true, true, true, true, false] rfl rfl (one_of HT_.out (by kernel_rfl)) (by decide) (fun K hK => ?_)
   refine goes_ Tryz.func57 (by kernel_rfl) rfl #[.agg #[.int .i64 a1_0, .int .i64 a1_1], .agg #[.int .i64 ((rd_T25 l0 x7_1).f0), .int .i64 ((rd_T25 l0 x7_1).f1)]] (by rfl) rfl rfl zm ?_
   with_reducible refine (spec_l02Less.calls a1_0 a1_1 ((rd_T25 l0 x7_1).f0) ((rd_T25 l0 x7_1).f1) true _ A13.out).mono ?_
   rintro e w18 ⟨rfl, hb⟩
   refine ⟨_, rfl, ?_⟩
   have n0_ := aM (Kd.R_below (mR_ HO_5.out) hb)
   have n1_ := aM (blk_below (g := gb429) (o := .cells #[.int .i64 a1_0, .int .i64 a1_1] 25 (0, 0)) (mB_ BK429.out) hb)
   have n2_ := aM (below_step (zs GE429.out) hb)
   clear HO_5
   clear BK429
   clear HB
   have HO_5 := n0_
   have BK429 := n1_
   have HB := n2_
   clear n0_ n1_ n2_
   (try clear hb)
   (try clear hb2)
   (try clear hk)
   (try clear hi)
   refine hK.out _ _ ⟨(blk_cell BK429.out 0).trans rfl, (blk_cell BK429.out 1).trans rfl, ((HB.out.cell (World.block_lt_of_cell? w _ hw437_0)).trans hw437_0), ((HB.out.cell (World.block_lt_of_cell? w _ hw437_1)).trans hw437_1)⟩ (fun hHeld => ?_)
   clear hK K
   refine norm_ (a' := ?_) ?_ ?_
   rotate_left
   ·show Act.put _ (some 23) _ = _
    simp only [Act.put, xA, xB, xC, i64_w, i32_w]
    rfl
   refine pure_ (i := 9) (N := some 24) (v := ?_) (a' := ?_) #[true, true, true, true, true, true, true, true, true, true] rfl rfl zz (fun _ _ _ h => h) (Or.inl ⟨by rfl, ?_⟩) ?_ ?_
   rotate_left
   ·intro w'
    go_simp
    with_reducible rfl
   rotate_left
   ·simp only [Act.put, xA, xB, xC, i64_w, i32_w]
    rfl
   refine done_ (done_of HT_.out (by kernel_rfl)) ?_
   have hcz19_0 : w18.cell? ⟨gb429, 0, none⟩ = some (.int .i64 a1_0) := (blk_cell BK429.out 0).trans rfl
   have hcz19_1 : w18.cell? ⟨gb429, 1, none⟩ = some (.int .i64 a1_1) := (blk_cell BK429.out 1).trans rfl
   have hfz19_0 := blk_frozen BK429.out 0
   have hfz19_1 := blk_frozen BK429.out 1
   try go_wp2_with (first | ((with_reducible refine gate_builtin (b := .append) (xs := #[.tmp 25, .tmp 27]) rfl ?_); at_builtin; refine Kd.R_append k25 (w0 := w) w.heap.size rfl (.tmp 25) (.tmp 27) 27 25 (.agg #[(.int .i64 0), (.int .i64 0)]) 16 rfl Tryz.underlying27 info25 rfl (by decide) (by omega) u5 x5_1 (⟨a1_0, a1_1⟩ : S25) [.int .i64 a1_0, .int .i64 a1_1] (fun k_ => k_ ≠ gb429) (fun _ => False) rfl rfl ?aP (fun _ hk => hk.elim) ?aF ?aO ?aB ?aS ?aL ?_; (case aP => exact k25_mkM _ _ _ (⟨a1_0, a1_1⟩ : S25)); (case aB => exact (zs GE429.out)); (case aF => exact (fun k_ hk => Kd.freshB (g := gb429) (o := .cells #[.int .i64 a1_0, .int .i64 a1_1] 25 (0, 0)) (mB_ BK429.out) k_ hk)); (case aO => exact (mR_ HO_5.out)); (case aS => exact (below_size (zs GE429.out))); (case aL => have := LMc15.out; omega); intro v440 w20 ho hb hg hat; rw [← Ny439.out] at ho; have n0_ := aM (blk_grown (g := gb429) (o := .cells #[.int .i64 a1_0, .int .i64 a1_1] 25 (0, 0)) (mB_ BK429.out) hg (Kd.R_away HO_5.out (fun _ hk => hk))); have n1_ := aM (hb); have n2_ := aM (ho); clear BK429; clear HB; clear HO_5; have BK429 := n0_; have HB := n1_; have HO441 := n2_; clear n0_ n1_ n2_; clear ho hb hg hat; have p442 : 0 ≤ (x7_1 : Int) := of_decide_eq_true za; have q442 : x7_1 < (l0.length : Int) := of_decide_eq_true za; obtain ⟨ad442, e442, hx442_0, hx442_1⟩ := at_T25 HR0.out x7_1 p442 q442; obtain rfl : ad437 = ad442 := (by injection e442); replace hx442_0 := (HB.out.cell (World.block_lt_of_cell? w _ hx442_0)).trans hx442_0; replace hx442_1 := (HB.out.cell (World.block_lt_of_cell? w _ hx442_1)).trans hx442_1; replace p442 := eq_true p442; replace q442 := eq_true q442) | ((with_reducible refine gate_builtin (b := .append) (xs := #[.tmp 29, .tmp 34]) rfl ?_); at_builtin; refine Kd.R_append k25 (w0 := w) w.heap.size rfl (.tmp 29) (.tmp 34) 27 25 (.agg #[(.int .i64 0), (.int .i64 0)]) 16 rfl Tryz.underlying27 info25 rfl (by decide) (by omega) v440 y439 (⟨(rd_T25 l0 x7_1).f0, (rd_T25 l0 x7_1).f1⟩ : S25) [.int .i64 ((rd_T25 l0 x7_1).f0), .int .i64 ((rd_T25 l0 x7_1).f1)] (fun k_ => k_ ≠ gb429) (fun _ => False) rfl rfl ?aP (fun _ hk => hk.elim) ?aF ?aO ?aB ?aS ?aL ?_; (case aP => exact k25_mkM _ _ _ (⟨(rd_T25 l0 x7_1).f0, (rd_T25 l0 x7_1).f1⟩ : S25)); (case aB => exact (zs GE429.out)); (case aF => exact (fun k_ hk => Kd.freshB (g := gb429) (o := .cells #[.int .i64 a1_0, .int .i64 a1_1] 25 (0, 0)) (mB_ BK429.out) k_ hk)); (case aO => exact (mR_ HO441.out)); (case aS => exact (below_size (zs GE429.out))); (case aL => have := LMc16.out; omega); intro v444 w21 ho hb hg hat; rw [← Ny443.out] at ho; have n0_ := aM (blk_grown (g := gb429) (o := .cells #[.int .i64 a1_0, .int .i64 a1_1] 25 (0, 0)) (mB_ BK429.out) hg (Kd.R_away HO441.out (fun _ hk => hk))); have n1_ := aM (hb); have n2_ := aM (ho); clear BK429; clear HB; clear HO441; have BK429 := n0_; have HB := n1_; have HO445 := n2_; clear n0_ n1_ n2_; clear ho hb hg hat))
   go_roundg k1
   case measure => have := HK1.out; omega
   case rel => exact ⟨(y443), (true), (wrap64 (x7_1 + 1)), zr, zr, H', ⟨by have := HK1.out; omega⟩, ⟨mR_ HO445.out⟩, ⟨mB_ BK429.out⟩, ⟨zs GE429.out⟩⟩
mutual
def spec_l07All.j0 : Nat → Int → Int → List (List (S25)) → Option ((List (List (S25))))
 | 0, _, _, _ => none
 | k + 1, x0, x1, x5 => spec_l07All.l0 k x0 x1 x5 1
def spec_l07All.l0 : Nat → Int → Int → List (List (S25)) → Int → Option ((List (List (S25))))
 | 0, _, _, _, _ => none
 | k + 1, x0, x1, x5, x6 => if x6 < x1 then (spec_l07All.l1 k x0 x1 x5 x6 (([] : List (List (S25)))) 0) else (some x5)
def spec_l07All.l1 : Nat → Int → Int → List (List (S25)) → Int → List (List (S25)) → Int → Option ((List (List (S25))))
 | 0, _, _, _, _, _, _ => none
 | k + 1, x0, x1, x5, x6, x7, x8 => if x8 < (x5.length : Int) then (spec_l07All.l2 k x0 x1 x5 x6 x7 x8 0) else (spec_l07All.l0 k x0 x1 x7 (wrap64 (x6 + 1)))
def spec_l07All.l2 : Nat → Int → Int → List (List (S25)) → Int → List (List (S25)) → Int → Int → Option ((List (List (S25))))
 | 0, _, _, _, _, _, _, _ => none
 | k + 1, x0, x1, x5, x6, x7, x8, x9 => if 0 ≤ x8 then (if x8 < (x5.length : Int) then (if x9 < ((rd_L2 x5 x8).length : Int) then (if 0 ≤ x9 then ((spec_l07Around.f x0 ((rd_T25 (rd_L2 x5 x8) x9).f0) ((rd_T25 (rd_L2 x5 x8) x9).f1)).bind fun t474 => (spec_l07All.l3 k x0 x1 x5 x6 x7 x8 x9 t474 0)) else (none)) else (spec_l07All.l1 k x0 x1 x5 x6 x7 (wrap64 (x8 + 1)))) else (none)) else (none)
def spec_l07All.l3 : Nat → Int → Int → List (List (S25)) → Int → List (List (S25)) → Int → Int → List (S25) → Int → Option ((List (List (S25))))
 | 0, _, _, _, _, _, _, _, _, _ => none
 | k + 1, x0, x1, x5, x6, x7, x8, x9, x10, x11 => if x11 < (x10.length : Int) then (if 0 ≤ x8 then (if x8 < (x5.length : Int) then (if 0 ≤ x11 then ((spec_l02Index.f k (rd_L2 x5 x8) ((rd_T25 x10 x11).f0) ((rd_T25 x10 x11).f1)).bind fun t479 => (if t479 < 0 then ((spec_l02Insert.f k (rd_L2 x5 x8) ((rd_T25 x10 x11).f0) ((rd_T25 x10 x11).f1)).bind fun t482 => ((spec_l07Normal.f k x0 t482).bind fun t485 => ((spec_l03Add.f k x7 t485).bind fun t488 => (spec_l07All.l3 k x0 x1 x5 x6 t488 x8 x9 x10 (wrap64 (x11 + 1)))))) else (spec_l07All.l3 k x0 x1 x5 x6 x7 x8 x9 x10 (wrap64 (x11 + 1))))) else (none)) else (none)) else (none)) else (spec_l07All.l2 k x0 x1 x5 x6 x7 x8 (wrap64 (x9 + 1)))
end
def spec_l07All.f (k : Nat) (a0 : Int) (a1 : Int) : Option ((List (List (S25)))) := if a0 = 0 then (spec_l07All.j0 k a0 a1 (([(([(⟨1, 1⟩ : S25)] : List (S25))), (([(⟨2, 2⟩ : S25)] : List (S25)))] : List (List (S25))))) else (spec_l07All.j0 k a0 a1 (([(([(⟨0, 0⟩ : S25)] : List (S25)))] : List (List (S25)))))
def spec_l07All.T18 : Bool × List (List Nat × List Nat) := (true, [([], []), ([], []), ([0, 1], [0, 1]), ([2], [2]), ([], []), ([], []), ([4, 5], [4, 5]), ([6], [6]), ([3, 7], [3, 7]), ([8], [8])])
def spec_l07All.B18 : List Nat := [0, 0, 3, 7, 0, 0, 48, 112, 255, 511]
theorem spec_l07All.tab18 : rtab .any (opsOf Tryz.f23 18) = spec_l07All.T18 := by kernel_rfl
theorem spec_l07All.bits18 : waitsOk spec_l07All.T18.2 spec_l07All.B18 = true := by kernel_rfl
def spec_l07All.T19 : Bool × List (List Nat × List Nat) := (true, [([], []), ([], []), ([], []), ([], []), ([2, 3], [2, 3]), ([4], [4]), ([], []), ([], []), ([6, 7], [6, 7]), ([8], [8]), ([5, 9], [5, 9]), ([1, 10, 10], [1, 10]), ([0, 11, 11], [0, 11]), ([12, 12, 0, 1, 2, 3, 4, 5, 6, 7, 8, 9, 10, 11, 12], [0, 12])])
def spec_l07All.B19 : List Nat := [0, 0, 0, 0, 12, 28, 0, 0, 192, 448, 1020, 2046, 4095, 8191]
theorem spec_l07All.tab19 : rtab .any (opsOf Tryz.f23 19) = spec_l07All.T19 := by kernel_rfl
theorem spec_l07All.bits19 : waitsOk spec_l07All.T19.2 spec_l07All.B19 = true := by kernel_rfl
theorem spec_l07All.calls (k : Nat) (a0 : Int) (a1 : Int) (r : List (List (S25))) (w : World) (h : spec_l07All.f k a0 a1 = some r) :
  Calls Tryz.prog 23 #[.int .i64 a0, .int .i64 a1] w fun e w' => ∃ v0_ : Value, e = .returned (v0_) ∧ Kd.V (Kd.slice 25 k25) 27 w' w.heap.size (fun k_ => (w.heap.size ≤ k_)) v0_ r ∧ Below w.heap.size w w' := by
 have hu25 := Tryz.underlying25
 have HB := aM (Below.refl w.heap.size w)
 have H : (if a0 = 0 then (spec_l07All.j0 k a0 a1 (([(([(⟨1, 1⟩ : S25)] : List (S25))), (([(⟨2, 2⟩ : S25)] : List (S25)))] : List (List (S25))))) else (spec_l07All.j0 k a0 a1 (([(([(⟨0, 0⟩ : S25)] : List (S25)))] : List (List (S25)))))) = some r := h
 clear h
 obtain ⟨y453, hy453⟩ : ∃ y_ : List (S25), y_ = (([(⟨0, 0⟩ : S25)] : List (S25))) := ⟨_, rfl⟩
 replace H : (if a0 = 0 then (spec_l07All.j0 k a0 a1 (([(([(⟨1, 1⟩ : S25)] : List (S25))), (([(⟨2, 2⟩ : S25)] : List (S25)))] : List (List (S25))))) else (spec_l07All.j0 k a0 a1 (([y453] : List (List (S25)))))) = some r := zy H hy453
 have Ny453 := aM hy453
 clear hy453
 obtain ⟨y456, hy456⟩ : ∃ y_ : List (List (S25)), y_ = (([y453] : List (List (S25)))) := ⟨_, rfl⟩
 replace H : (if a0 = 0 then (spec_l07All.j0 k a0 a1 (([(([(⟨1, 1⟩ : S25)] : List (S25))), (([(⟨2, 2⟩ : S25)] : List (S25)))] : List (List (S25))))) else (spec_l07All.j0 k a0 a1 y456)) = some r := zy H hy456
 have Ny456 := aM hy456
 clear hy456
 have HC3 := aM H
 clear H
 go_enter Tryz.func23, Tryz.ntmps23
 go_upto_if 16 with (first | ((with_reducible refine gate_dst (N := 13) rfl ?_); refine Kd.R_lit k25 _ 25 ?hg (N := 13) ?hd (xs := ([(⟨0, 0⟩ : S25)] : List (S25))) (inner := [.int .i64 0, .int .i64 0]) (ok := fun _ => True) (okp := fun _ => True) ?hr ?hp (fun _ hk => hk) trivial (Below.refl _ _) (Nat.le_refl _) (by simp) ?_; (case hd => rfl); (case hg => rfl); (case hr => first | (go_simp; done) | (go_simp; rfl)); (case hp => exact (Reps.c2 (show Kd.M k25 _ _ _ (⟨0, 0⟩ : S25) [.int .i64 0, .int .i64 0] from (k25_mkM _ _ _ (⟨0, 0⟩ : S25) )) (Reps.none _ _))); intro v454 w4 ho5 hb hg_ hnew_; clear hg_ hnew_; (first | rw [← Ny453.out] at ho5 | (simp only [Int.reduceToNat] at ho5; rw [← Ny453.out] at ho5)); have n0_ := aM (Kd.R_lower (Kd.R_newM (M := fun k_ => (w.heap.size ≤ k_)) ho5 (below_size zb) (fun k_ h_ => h_)) (below_size zb)); have n1_ := aM (below_step zb hb); clear HB; have HO455 := n0_; have HB := n1_; clear n0_ n1_; clear hb ho5; obtain ⟨Ao6, co6, eo6⟩ := Kd.R_slice HO455.out; subst eo6) | ((with_reducible refine gate_dst (N := 14) rfl ?_); refine Kd.N_lit (Kd.slice 25 k25) _ 27 ?hg (N' := 14) ?hd (xs := ([y453] : List (List (S25)))) (inner := [.slice Ao6 y453.length co6]) (ok := (fun k_ => (w.heap.size ≤ k_))) (okp := (fun k_ => (w.heap.size ≤ k_))) ?hr ?hp (fun _ hk => hk) ((show ∀ k_, w4.heap.size ≤ k_ → (fun k_ => (w.heap.size ≤ k_)) k_ from fun k_ hk => (Nat.le_trans (below_size zb) hk)) _ (Nat.le_refl _)) (Below.refl _ _) (Nat.le_refl _) (by simp) ?_; (case hd => rfl); (case hg => rfl); (case hr => first | (go_simp; done) | (go_simp; rfl)); (case hp => exact (Reps.one (show Kd.FK (Kd.slice 25 k25) _ _ y453 [.slice Ao6 y453.length co6] from (Kd.FK_slice_mk (Kd.R_reads' (Kd.R_mono (ok' := (fun k_ => (w.heap.size ≤ k_))) (HO455.out) (fun k_ hk => hk.1))).2.1 (Kd.R_F (Kd.R_mono (ok' := (fun k_ => (w.heap.size ≤ k_))) (HO455.out) (fun k_ hk => hk.1))))) (Reps.none _ _))); intro v457 w7 ho8 hb hg_ hnew_; clear hg_ hnew_; (first | rw [← Ny456.out] at ho8 | (simp only [Int.reduceToNat] at ho8; rw [← Ny456.out] at ho8)); have n0_ := aM (Kd.N_lower ho8 (below_size zb)); have n1_ := aM (below_step zb hb); clear HB; clear HO455; have HO458 := n0_; have HB := n1_; clear n0_ n1_; clear hb ho8))
 (try simp only [Act.put, xA, xB, xC])
 go_cut [5] (fun v5 wc => ∃ (kq : Nat) (x5_2 : List (List (S25))), Aside0 (spec_l07All.j0 kq a0 a1 x5_2 = some r) ∧ Aside0 (kq ≤ k) ∧ Aside0 (Kd.N (Kd.slice 25 k25) 27 wc w.heap.size (fun k_ => (w.heap.size ≤ k_)) v5 x5_2) ∧ Aside0 (Below w.heap.size w wc))
 case first =>
  have H := HC3.out
  clear HC3
  by_cases c9 : a0 = 0
  rotate_left
  ·rw [if_neg c9] at H
   have c9b0 : (a0 == 0) = false := beq_eq_false_iff_ne.mpr c9
   have c9b1 : (a0 != 0) = true := bne_iff_ne.mpr c9
   (first | rw [c9b0] | (simp only [i64_w, i32_w]; rw [c9b0]) | skip)
   have H' := aM H
   clear H
   go_wp2
   go_meet
   case rel => exact ⟨_, (y456), H', ⟨by first | omega | exact Nat.le_refl _⟩, ⟨mN_ HO458.out⟩, ⟨zb⟩⟩
  rw [if_pos c9] at H
  have c9b0 : (a0 == 0) = true := beq_iff_eq.mpr c9
  have c9b1 : (a0 != 0) = false := bne_eq_false_iff_eq.mpr c9
  clear c9
  (first | rw [c9b0] | (simp only [i64_w, i32_w]; rw [c9b0]) | skip)
  obtain ⟨y459, hy459⟩ : ∃ y_ : List (S25), y_ = (([(⟨1, 1⟩ : S25)] : List (S25))) := ⟨_, rfl⟩
  replace H : (spec_l07All.j0 k a0 a1 (([y459, (([(⟨2, 2⟩ : S25)] : List (S25)))] : List (List (S25))))) = some r := zy H hy459
  have Ny459 := aM hy459
  clear hy459
  obtain ⟨y462, hy462⟩ : ∃ y_ : List (S25), y_ = (([(⟨2, 2⟩ : S25)] : List (S25))) := ⟨_, rfl⟩
  replace H : (spec_l07All.j0 k a0 a1 (([y459, y462] : List (List (S25))))) = some r := zy H hy462
  have Ny462 := aM hy462
  clear hy462
  obtain ⟨y465, hy465⟩ : ∃ y_ : List (List (S25)), y_ = (([y459, y462] : List (List (S25)))) := ⟨_, rfl⟩
  replace H : (spec_l07All.j0 k a0 a1 y465) = some r := zy H hy465
  have Ny465 := aM hy465
  clear hy465
  have H' := aM H
  clear H
  go_wp2_with (first | ((with_reducible refine gate_dst (N := 18) rfl ?_); refine Kd.R_lit k25 _ 25 ?hg (N := 18) ?hd (xs := ([(⟨1, 1⟩ : S25)] : List (S25))) (inner := [.int .i64 1, .int .i64 1]) (ok := fun _ => True) (okp := fun _ => True) ?hr ?hp (fun _ hk => hk) trivial (Below.refl _ _) (Nat.le_refl _) (by simp) ?_; (case hd => rfl); (case hg => rfl); (case hr => first | (go_simp; done) | (go_simp; rfl)); (case hp => exact (Reps.c2 (show Kd.M k25 _ _ _ (⟨1, 1⟩ : S25) [.int .i64 1, .int .i64 1] from (k25_mkM _ _ _ (⟨1, 1⟩ : S25) )) (Reps.none _ _))); intro v460 w10 ho11 hb hg_ hnew_; clear hg_ hnew_; (first | rw [← Ny459.out] at ho11 | (simp only [Int.reduceToNat] at ho11; rw [← Ny459.out] at ho11)); have n0_ := aM (Kd.N_elder' (mN_ HO458.out) (Kd.R_base ho11) hb); have n1_ := aM (Kd.R_lower (Kd.R_newM (M := fun k_ => (w.heap.size ≤ k_)) ho11 (below_size zb) (fun k_ h_ => h_)) (below_size zb)); have n2_ := aM (below_step zb hb); clear HO458; clear HB; have HO458 := n0_; have HO461 := n1_; have HB := n2_; clear n0_ n1_ n2_; clear hb ho11) | ((with_reducible refine gate_dst (N := 20) rfl ?_); refine Kd.R_lit k25 _ 25 ?hg (N := 20) ?hd (xs := ([(⟨2, 2⟩ : S25)] : List (S25))) (inner := [.int .i64 2, .int .i64 2]) (ok := fun _ => True) (okp := fun _ => True) ?hr ?hp (fun _ hk => hk) trivial (Below.refl _ _) (Nat.le_refl _) (by simp) ?_; (case hd => rfl); (case hg => rfl); (case hr => first | (go_simp; done) | (go_simp; rfl)); (case hp => exact (Reps.c2 (show Kd.M k25 _ _ _ (⟨2, 2⟩ : S25) [.int .i64 2, .int .i64 2] from (k25_mkM _ _ _ (⟨2, 2⟩ : S25) )) (Reps.none _ _))); intro v463 w12 ho13 hb hg_ hnew_; clear hg_ hnew_; (first | rw [← Ny462.out] at ho13 | (simp only [Int.reduceToNat] at ho13; rw [← Ny462.out] at ho13)); have n0_ := aM (Kd.N_elder' (mN_ HO458.out) (Kd.R_base ho13) hb); have n1_ := aM (Kd.R_elder' (mR_ HO461.out) (Kd.R_base ho13) hb); have n2_ := aM (Kd.R_lower (Kd.R_new' (Kd.R_newM (M := fun k_ => (w.heap.size ≤ k_)) ho13 (below_size zb) (fun k_ h_ => h_)) (Kd.R_lt (mR_ HO461.out))) (below_size zb)); have n3_ := aM (below_step zb hb); clear HO458; clear HO461; clear HB; have HO458 := n0_; have HO461 := n1_; have HO464 := n2_; have HB := n3_; clear n0_ n1_ n2_ n3_; clear hb ho13; obtain ⟨Ao14, co14, eo14⟩ := Kd.R_slice HO461.out; subst eo14; obtain ⟨Ao15, co15, eo15⟩ := Kd.R_slice HO464.out; subst eo15) | ((with_reducible refine gate_dst (N := 21) rfl ?_); refine Kd.N_lit (Kd.slice 25 k25) _ 27 ?hg (N' := 21) ?hd (xs := ([y459, y462] : List (List (S25)))) (inner := [.slice Ao14 y459.length co14, .slice Ao15 y462.length co15]) (ok := (fun k_ => (w.heap.size ≤ k_) ∧ some k_ ≠ (v457 : Value).ownBlock)) (okp := (fun k_ => (w.heap.size ≤ k_) ∧ some k_ ≠ (v457 : Value).ownBlock)) ?hr ?hp (fun _ hk => hk) ((show ∀ k_, w12.heap.size ≤ k_ → (fun k_ => (w.heap.size ≤ k_) ∧ some k_ ≠ (v457 : Value).ownBlock) k_ from fun k_ hk => ⟨(Nat.le_trans (below_size zb) hk), Kd.fresh' (Kd.N_lt (mN_ HO458.out)) k_ hk⟩) _ (Nat.le_refl _)) (Below.refl _ _) (Nat.le_refl _) (by simp) ?_; (case hd => rfl); (case hg => rfl); (case hr => first | (go_simp; done) | (go_simp; rfl)); (case hp => exact (Reps.one (show Kd.FK (Kd.slice 25 k25) _ _ y459 [.slice Ao14 y459.length co14] from (Kd.FK_slice_mk (Kd.R_reads' (Kd.R_mono (ok' := (fun k_ => (w.heap.size ≤ k_) ∧ some k_ ≠ (v457 : Value).ownBlock)) (Kd.R_apart' (HO461.out) (Kd.N_typed HO458.out) (by decide)) (fun k_ hk => ⟨hk.1.1.1, hk.2⟩))).2.1 (Kd.R_F (Kd.R_mono (ok' := (fun k_ => (w.heap.size ≤ k_) ∧ some k_ ≠ (v457 : Value).ownBlock)) (Kd.R_apart' (HO461.out) (Kd.N_typed HO458.out) (by decide)) (fun k_ hk => ⟨hk.1.1.1, hk.2⟩))))) (Reps.one (show Kd.FK (Kd.slice 25 k25) _ _ y462 [.slice Ao15 y462.length co15] from (Kd.FK_slice_mk (Kd.R_reads' (Kd.R_mono (ok' := (fun k_ => (w.heap.size ≤ k_) ∧ some k_ ≠ (v457 : Value).ownBlock)) (Kd.R_apart' (HO464.out) (Kd.N_typed HO458.out) (by decide)) (fun k_ hk => ⟨hk.1.1.1, hk.2⟩))).2.1 (Kd.R_F (Kd.R_mono (ok' := (fun k_ => (w.heap.size ≤ k_) ∧ some k_ ≠ (v457 : Value).ownBlock)) (Kd.R_apart' (HO464.out) (Kd.N_typed HO458.out) (by decide)) (fun k_ hk => ⟨hk.1.1.1, hk.2⟩))))) (Reps.none _ _)))); intro v466 w16 ho17 hb hg_ hnew_; clear hg_ hnew_; (first | rw [← Ny465.out] at ho17 | (simp only [Int.reduceToNat] at ho17; rw [← Ny465.out] at ho17)); have n0_ := aM (Kd.N_elder' (mN_ HO458.out) (by first | exact Kd.N_base ho17 | exact Kd.S_base ho17 | exact Kd.R_base ho17) hb); have n1_ := aM (Kd.N_lower ho17 (below_size zb)); have n2_ := aM (below_step zb hb); clear HO458; clear HB; clear HO461; clear HO464; have HO458 := n0_; have HO467 := n1_; have HB := n2_; clear n0_ n1_ n2_; clear hb ho17))
  go_meet
  case rel => exact ⟨_, (y465), H', ⟨by first | omega | exact Nat.le_refl _⟩, ⟨by (with_reducible repeat (first | apply Kd.N_alloc | apply Kd.N_drewN | apply Kd.N_drew)); exact Kd.N_mono HO467.out (fun _ hk => hk.1)⟩, ⟨zb⟩⟩
 case rest =>
  clear HC3
  try clear c2
  try clear p2
  try clear c9
  try clear c9b0
  try clear c9b1
  obtain ⟨kq, x5_2, HA, HJ2, HO_5, HB⟩ := hcut
  cases kq with
  | zero => exact absurd HA.out (by simp [spec_l07All.j0])
  | succ kj2 =>
   have H := HA.out
   clear HA
   simp only [spec_l07All.j0] at H
   have H' := aM H
   clear H
   go_wp2
   go_loopg [5, 6] kj2 (fun kq v5 v6 w' => ∃ (x5_2 : List (List (S25))) (x6_2 : Int), v6 = .int .i64 x6_2 ∧ Aside0 (spec_l07All.l0 kq a0 a1 x5_2 x6_2 = some r) ∧ Aside0 (kq ≤ kj2) ∧ Aside0 (Kd.V (Kd.slice 25 k25) 27 w' w.heap.size (fun k_ => (w.heap.size ≤ k_)) v5 x5_2) ∧ Aside0 (Below w.heap.size w w'))
   case atStart => exact ⟨(x5_2), (1), zr, H', ⟨Nat.le_refl _⟩, ⟨Kd.N_V (mN_ HO_5.out)⟩, ⟨zb⟩⟩
   case round =>
    clear H'
    try clear c2
    try clear p2
    try clear c9
    try clear c9b0
    try clear c9b1
    try clear p2
    obtain ⟨x5_2, x6_2, rfl, HA, HK2, HO_5, HB⟩ := hrel
    cases gk with
    | zero => exact absurd HA.out (by simp [spec_l07All.l0])
    | succ k2 =>
     have H := HA.out
     clear HA
     simp only [spec_l07All.l0] at H
     by_cases c18 : x6_2 < a1
     rotate_left
     ·rw [if_neg c18] at H
      have c18b0 : decide (x6_2 < a1) = false := decide_eq_false c18
      clear c18
      obtain rfl := Option.some.inj H
      go_wp2
      go_ret
      exact ⟨_, zw, mV_ HO_5.out, zb⟩
     rw [if_pos c18] at H
     have c18b0 : decide (x6_2 < a1) = true := decide_eq_true c18
     clear c18
     obtain ⟨y468, hy468⟩ : ∃ y_ : List (List (S25)), y_ = (([] : List (List (S25)))) := ⟨_, rfl⟩
     replace H : (spec_l07All.l1 k2 a0 a1 x5_2 x6_2 y468 0) = some r := zy H hy468
     have Ny468 := aM hy468
     clear hy468
     have H' := aM H
     clear H
     go_wp2_with (first | ((with_reducible refine gate_dst (N := 27) rfl ?_); refine Kd.N_lit (Kd.slice 25 k25) _ 27 ?hg (N' := 27) ?hd (xs := ([] : List (List (S25)))) (inner := []) (ok := (fun k_ => (w.heap.size ≤ k_))) (okp := (fun k_ => (w.heap.size ≤ k_))) ?hr ?hp (fun _ hk => hk) ((show ∀ k_, wr.heap.size ≤ k_ → (fun k_ => (w.heap.size ≤ k_)) k_ from fun k_ hk => (Nat.le_trans (below_size zb) hk)) _ (Nat.le_refl _)) (Below.refl _ _) (Nat.le_refl _) (by simp) ?_; (case hd => rfl); (case hg => rfl); (case hr => first | (go_simp; done) | (go_simp; rfl)); (case hp => exact (Reps.none _ _)); intro v469 w19 ho20 hb hg_ hnew_; clear hg_ hnew_; (first | rw [← Ny468.out] at ho20 | (simp only [Int.reduceToNat] at ho20; rw [← Ny468.out] at ho20)); have n0_ := aM (Kd.V_elder' (mV_ HO_5.out) (by first | exact Kd.N_base ho20 | exact Kd.S_base ho20 | exact Kd.R_base ho20) hb); have n1_ := aM (Kd.N_lower ho20 (below_size zb)); have n2_ := aM (below_step zb hb); clear HO_5; clear HB; have HO_5 := n0_; have HO470 := n1_; have HB := n2_; clear n0_ n1_ n2_; clear hb ho20))
     go_loopg [7, 8] k2 (fun kq v7 v8 w' => ∃ (x7_3 : List (List (S25))) (x8_3 : Int), v8 = .int .i64 x8_3 ∧ Aside0 (spec_l07All.l1 kq a0 a1 x5_2 x6_2 x7_3 x8_3 = some r) ∧ Aside0 (kq ≤ k2) ∧ Aside0 (Kd.V (Kd.slice 25 k25) 27 w' w.heap.size (fun k_ => (w.heap.size ≤ k_)) u5 x5_2) ∧ Aside0 (Kd.V (Kd.slice 25 k25) 27 w' w.heap.size (fun k_ => (w.heap.size ≤ k_)) v7 x7_3) ∧ Aside0 (Below w.heap.size w w'))
     case atStart => exact ⟨(y468), (0), zr, H', ⟨Nat.le_refl _⟩, ⟨by (with_reducible repeat (first | apply Kd.V_alloc | apply Kd.V_drewN | apply Kd.V_drew)); exact Kd.V_mono HO_5.out (fun _ hk => hk.1)⟩, ⟨Kd.N_V (mN_ HO470.out)⟩, ⟨zb⟩⟩
     case round =>
      clear H'
      try clear c1
      try clear c2
      try clear p2
      try clear c9
      try clear c9b0
      try clear c9b1
      try clear c18
      try clear c18b0
      try clear p2
      obtain ⟨x7_3, x8_3, rfl, HA, HK3, HO_5, HO_7, HB⟩ := hrel
      cases gk with
      | zero => exact absurd HA.out (by simp [spec_l07All.l1])
      | succ k3 =>
       have H := HA.out
       clear HA
       simp only [spec_l07All.l1] at H
       by_cases c21 : x8_3 < (x5_2.length : Int)
       rotate_left
       ·rw [if_neg c21] at H
        have c21b0 : decide (x8_3 < (x5_2.length : Int)) = false := decide_eq_false c21
        clear c21
        have H' := aM H
        clear H
        obtain ⟨Ao52, co52, eo52⟩ := Kd.V_slice HO_5.out
        subst eo52
        go_wp2
        go_roundg k3
        case measure => have := HJ2.out; have := HK2.out; have := HK3.out; omega
        case rel => exact ⟨(x7_3), (wrap64 (x6_2 + 1)), zr, H', ⟨by have := HJ2.out; have := HK2.out; have := HK3.out; omega⟩, ⟨mV_ HO_7.out⟩, ⟨zb⟩⟩
       rw [if_pos c21] at H
       have c21b0 : decide (x8_3 < (x5_2.length : Int)) = true := decide_eq_true c21
       clear c21
       have H' := aM H
       clear H
       obtain ⟨Ao22, co22, eo22⟩ := Kd.V_slice HO_5.out
       subst eo22
       go_wp2
       go_loopg [7, 9] k3 (fun kq v7 v9 w' => ∃ (x7_4 : List (List (S25))) (x9_4 : Int), v9 = .int .i64 x9_4 ∧ Aside0 (spec_l07All.l2 kq a0 a1 x5_2 x6_2 x7_4 x8_3 x9_4 = some r) ∧ Aside0 (kq ≤ k3) ∧ Aside0 (Kd.V (Kd.slice 25 k25) 27 w' w.heap.size (fun k_ => (w.heap.size ≤ k_)) (.slice Ao22 x5_2.length co22) x5_2) ∧ Aside0 (Kd.V (Kd.slice 25 k25) 27 w' w.heap.size (fun k_ => (w.heap.size ≤ k_)) v7 x7_4) ∧ Aside0 (Below w.heap.size w w'))
       case atStart => exact ⟨(x7_3), (0), zr, H', ⟨Nat.le_refl _⟩, ⟨mV_ HO_5.out⟩, ⟨mV_ HO_7.out⟩, ⟨zb⟩⟩
       case round =>
        clear H'
        try clear c1
        try clear c2
        try clear p2
        try clear c9
        try clear c9b0
        try clear c9b1
        try clear c18
        try clear c18b0
        try clear c21
        try clear c21b0
        try clear p2
        obtain ⟨x7_4, x9_4, rfl, HA, HK4, HO_5, HO_7, HB⟩ := hrel
        cases gk with
        | zero => exact absurd HA.out (by simp [spec_l07All.l2])
        | succ k4 =>
         have H := HA.out
         clear HA
         simp only [spec_l07All.l2] at H
         by_cases c23 : 0 ≤ x8_3
         rotate_left
         ·rw [if_neg c23] at H
          exact absurd H (by simp)
         rw [if_pos c23] at H
         have c23b0 : decide (0 ≤ x8_3) = true := decide_eq_true c23
         clear c23
         by_cases c24 : x8_3 < (x5_2.length : Int)
         rotate_left
         ·rw [if_neg c24] at H
          exact absurd H (by simp)
         rw [if_pos c24] at H
         have c24b0 : decide (x8_3 < (x5_2.length : Int)) = true := decide_eq_true c24
         clear c24
         by_cases c25 : x9_4 < ((rd_L2 x5_2 x8_3).length : Int)
         rotate_left
         ·rw [if_neg c25] at H
          have c25b0 : decide (x9_4 < ((rd_L2 x5_2 x8_3).length : Int)) = false := decide_eq_false c25
          clear c25
          have H' := aM H
          clear H
          have p471 : 0 ≤ (x8_3 : Int) := of_decide_eq_true za
          have q471 : x8_3 < (x5_2.length : Int) := of_decide_eq_true za
          obtain ⟨ad471, A471_0, c471_0, e471, hx471_0, hl471_0, hi471_0⟩ := at_L2 (Kd.V_reads' HO_5.out).2.2 x8_3 p471 q471
          cases e471
          obtain ⟨ce471, hce471, hMe471, hcc471⟩ := Kd.V_get HO_5.out [] x8_3 p471 (by first | exact q471 | exact of_decide_eq_true za | (have e_ := (Kd.V_reads' HO_5.out).1; omega))
          obtain ⟨ua471_0, uc471_0, rfl, ul471_0, ge471_0⟩ := Kd.FK_slice_open hMe471
          have hv471_0 := hcc471 0 _ rfl
          rw [Nat.add_zero, show ((Kd.slice 25 k25)).sz = 1 from rfl, Nat.mul_one] at hv471_0
          replace hv471_0 := Option.some.inj (hv471_0.symm.trans hx471_0)
          injection hv471_0 with hva_ hvn_ hvc_
          rw [hva_] at ge471_0
          rw [hvc_] at ul471_0
          have HL471_0 := aM (show Kd.V k25 25 _ w.heap.size _ _ (rd_L2 x5_2 x8_3) from Kd.V_mk ul471_0 ge471_0)
          clear hva_ hvn_ hvc_ ge471_0 ul471_0
          clear hcc471 hce471
          have HR471_0 := aM hi471_0
          have HC471_0 := aM hl471_0
          clear hi471_0 hl471_0
          replace p471 := eq_true p471
          replace q471 := eq_true q471
          go_wp2
          go_roundg k4
          case measure => have := HJ2.out; have := HK2.out; have := HK3.out; have := HK4.out; omega
          case rel => exact ⟨(x7_4), (wrap64 (x8_3 + 1)), zr, H', ⟨by have := HJ2.out; have := HK2.out; have := HK3.out; have := HK4.out; omega⟩, ⟨mV_ HO_5.out⟩, ⟨mV_ HO_7.out⟩, ⟨zb⟩⟩
         rw [if_pos c25] at H
         have c25b0 : decide (x9_4 < ((rd_L2 x5_2 x8_3).length : Int)) = true := decide_eq_true c25
         clear c25
         by_cases c26 : 0 ≤ x9_4
         rotate_left
         ·rw [if_neg c26] at H
          exact absurd H (by simp)
         rw [if_pos c26] at H
         have c26b0 : decide (0 ≤ x9_4) = true := decide_eq_true c26
         clear c26
         replace H := Option.bind_eq_some_iff.mp H
         obtain ⟨t474, A270, H⟩ := H
         replace H : (spec_l07All.l3 k4 a0 a1 x5_2 x6_2 x7_4 x8_3 x9_4 t474 0) = some r := H
         have A27 := aM A270
         clear A270
         have H' := aM H
         clear H
         have p471 : 0 ≤ (x8_3 : Int) := of_decide_eq_true za
         have q471 : x8_3 < (x5_2.length : Int) := of_decide_eq_true za
         obtain ⟨ad471, A471_0, c471_0, e471, hx471_0, hl471_0, hi471_0⟩ := at_L2 (Kd.V_reads' HO_5.out).2.2 x8_3 p471 q471
         cases e471
         obtain ⟨ce471, hce471, hMe471, hcc471⟩ := Kd.V_get HO_5.out [] x8_3 p471 (by first | exact q471 | exact of_decide_eq_true za | (have e_ := (Kd.V_reads' HO_5.out).1; omega))
         obtain ⟨ua471_0, uc471_0, rfl, ul471_0, ge471_0⟩ := Kd.FK_slice_open hMe471
         have hv471_0 := hcc471 0 _ rfl
         rw [Nat.add_zero, show ((Kd.slice 25 k25)).sz = 1 from rfl, Nat.mul_one] at hv471_0
         replace hv471_0 := Option.some.inj (hv471_0.symm.trans hx471_0)
         injection hv471_0 with hva_ hvn_ hvc_
         rw [hva_] at ge471_0
         rw [hvc_] at ul471_0
         have HL471_0 := aM (show Kd.V k25 25 _ w.heap.size _ _ (rd_L2 x5_2 x8_3) from Kd.V_mk ul471_0 ge471_0)
         clear hva_ hvn_ hvc_ ge471_0 ul471_0
         clear hcc471 hce471
         have HR471_0 := aM hi471_0
         have HC471_0 := aM hl471_0
         clear hi471_0 hl471_0
         replace p471 := eq_true p471
         replace q471 := eq_true q471
         have p472 : 0 ≤ (x8_3 : Int) := of_decide_eq_true za
         have q472 : x8_3 < (x5_2.length : Int) := of_decide_eq_true za
         obtain ⟨ad472, A472_0, c472_0, e472, hx472_0, hl472_0, hi472_0⟩ := at_L2 (Kd.V_reads' HO_5.out).2.2 x8_3 p472 q472
         obtain rfl : ad471 = ad472 := (by injection e472)
         obtain ⟨ce472, hce472, hMe472, hcc472⟩ := Kd.V_get HO_5.out [] x8_3 p472 (by first | exact q472 | exact of_decide_eq_true za | (have e_ := (Kd.V_reads' HO_5.out).1; omega))
         obtain ⟨ua472_0, uc472_0, rfl, ul472_0, ge472_0⟩ := Kd.FK_slice_open hMe472
         have hv472_0 := hcc472 0 _ rfl
         rw [Nat.add_zero, show ((Kd.slice 25 k25)).sz = 1 from rfl, Nat.mul_one] at hv472_0
         replace hv472_0 := Option.some.inj (hv472_0.symm.trans hx472_0)
         injection hv472_0 with hva_ hvn_ hvc_
         rw [hva_] at ge472_0
         rw [hvc_] at ul472_0
         have HL472_0 := aM (show Kd.V k25 25 _ w.heap.size _ _ (rd_L2 x5_2 x8_3) from Kd.V_mk ul472_0 ge472_0)
         clear hva_ hvn_ hvc_ ge472_0 ul472_0
         clear hcc472 hce472
         have HR472_0 := aM hi472_0
         have HC472_0 := aM hl472_0
         clear hi472_0 hl472_0
         replace p472 := eq_true p472
         replace q472 := eq_true q472
         have ea_ := Option.some.inj (hx471_0.symm.trans hx472_0)
         injection ea_ with ea_ en_ ec_
         subst ea_
         subst ec_
         clear en_
         have p473 : 0 ≤ (x9_4 : Int) := of_decide_eq_true za
         have q473 : x9_4 < ((rd_L2 x5_2 x8_3).length : Int) := of_decide_eq_true za
         obtain ⟨ad473, e473, hx473_0, hx473_1⟩ := at_T25 (mQ_ HR472_0.out) x9_4 p473 q473
         cases e473
         replace p473 := eq_true p473
         replace q473 := eq_true q473
         go_wp2_with (first | ((with_reducible refine gate_callee (f := 16) rfl ?_); refine goesL_ (some 51) rfl rfl Tryz.func16 (by kernel_rfl) rfl #[.int .i64 a0, .agg #[.int .i64 ((rd_T25 (rd_L2 x5_2 x8_3) x9_4).f0), .int .i64 ((rd_T25 (rd_L2 x5_2 x8_3) x9_4).f1)]] rfl zm ?_; (with_reducible refine (spec_l07Around.calls a0 ((rd_T25 (rd_L2 x5_2 x8_3) x9_4).f0) ((rd_T25 (rd_L2 x5_2 x8_3) x9_4).f1) t474 _ A27.out).mono ?_); rintro e w28 ⟨v475, rfl, ho0, hb⟩; refine ⟨_, rfl, ?_⟩; have n0_ := aM (Kd.V_elder' (mV_ HO_5.out) (Kd.R_base ho0) hb); have n1_ := aM (Kd.V_elder' (mV_ HO_7.out) (Kd.R_base ho0) hb); have n2_ := aM (Kd.V_elder' (mV_ HL471_0.out) (Kd.R_base ho0) hb); have n3_ := aM (Kd.V_elder' (mV_ HL472_0.out) (Kd.R_base ho0) hb); have n4_ := aM (Kd.R_lower (Kd.R_newM (M := fun k_ => (w.heap.size ≤ k_)) ho0 (below_size zb) (fun k_ h_ => h_)) (below_size zb)); have n5_ := aM (Kd.C_below (mQ_ HR471_0.out) hb); have n6_ := aM (Kd.C_below (mQ_ HR472_0.out) hb); have n7_ := aM (below_step zb hb); clear HO_5; clear HO_7; clear HL471_0; clear HL472_0; clear HR471_0; clear HR472_0; clear HB; have HO_5 := n0_; have HO_7 := n1_; have HL471_0 := n2_; have HL472_0 := n3_; have HO476 := n4_; have HR471_0 := n5_; have HR472_0 := n6_; have HB := n7_; clear n0_ n1_ n2_ n3_ n4_ n5_ n6_ n7_; (try clear hb); (try clear hb2); (try clear hk); (try clear hi); (try clear ho0)))
         go_loopg [7, 11] k4 (fun kq v7 v11 w' => ∃ (x7_5 : List (List (S25))) (x11_5 : Int), v11 = .int .i64 x11_5 ∧ Aside0 (spec_l07All.l3 kq a0 a1 x5_2 x6_2 x7_5 x8_3 x9_4 t474 x11_5 = some r) ∧ Aside0 (kq ≤ k4) ∧ Aside0 (Kd.V (Kd.slice 25 k25) 27 w' w.heap.size (fun k_ => (w.heap.size ≤ k_) ∧ some k_ ≠ (v475 : Value).ownBlock) (.slice (some ad471) x5_2.length co22) x5_2) ∧ Aside0 (Kd.V (Kd.slice 25 k25) 27 w' w.heap.size (fun k_ => (w.heap.size ≤ k_) ∧ some k_ ≠ (v475 : Value).ownBlock) v7 x7_5) ∧ Aside0 (Kd.R k25 25 w' w.heap.size (fun k_ => (w.heap.size ≤ k_)) v475 t474) ∧ Aside0 (Kd.C k25 w' (some ad473) (rd_L2 x5_2 x8_3).length (rd_L2 x5_2 x8_3)) ∧ Aside0 (Kd.C k25 w' (some ad473) (rd_L2 x5_2 x8_3).length (rd_L2 x5_2 x8_3)) ∧ Aside0 (Below w.heap.size w w'))
         case atStart => exact ⟨(x7_4), (0), zr, H', ⟨Nat.le_refl _⟩, ⟨mV_ HO_5.out⟩, ⟨mV_ HO_7.out⟩, ⟨by (with_reducible repeat (first | apply Kd.R_alloc | apply Kd.R_drewN | apply Kd.R_drew)); exact Kd.R_mono HO476.out (fun _ hk => hk.1)⟩, ⟨mQ_ HR471_0.out⟩, ⟨mQ_ HR472_0.out⟩, ⟨zb⟩⟩
         case round =>
          clear H'
          try clear c1
          try clear c2
          try clear p2
          try clear c4
          try clear p4
          try clear q4
          try clear hx4
          try clear c9
          try clear c9b0
          try clear c9b1
          try clear c16
          try clear c18
          try clear c18b0
          try clear c21
          try clear c21b0
          try clear c23
          try clear c23b0
          try clear c24
          try clear c24b0
          try clear c25
          try clear c25b0
          try clear c26
          try clear c26b0
          try clear hx471_0
          try clear hx472_0
          try clear hx473_0
          try clear hx473_1
          try clear p2
          try clear p471
          try clear p472
          try clear p473
          try clear q471
          try clear q472
          try clear q473
          obtain ⟨x7_5, x11_5, rfl, HA, HK5, HO_5, HO_7, HO_10, HR471_0, HR472_0, HB⟩ := hrel
          cases gk with
          | zero => exact absurd HA.out (by simp [spec_l07All.l3])
          | succ k5 =>
           have H := HA.out
           clear HA
           simp only [spec_l07All.l3] at H
           by_cases c29 : x11_5 < (t474.length : Int)
           rotate_left
           ·rw [if_neg c29] at H
            have c29b0 : decide (x11_5 < (t474.length : Int)) = false := decide_eq_false c29
            clear c29
            have H' := aM H
            clear H
            obtain ⟨Ao51, co51, eo51⟩ := Kd.R_slice HO_10.out
            subst eo51
            go_wp2
            go_roundg k5
            case measure => have := HJ2.out; have := HK2.out; have := HK3.out; have := HK4.out; have := HK5.out; omega
            case rel => exact ⟨(x7_5), (wrap64 (x9_4 + 1)), zr, H', ⟨by have := HJ2.out; have := HK2.out; have := HK3.out; have := HK4.out; have := HK5.out; omega⟩, ⟨by (with_reducible repeat (first | apply Kd.V_alloc | apply Kd.V_drewN | apply Kd.V_drew)); exact Kd.V_mono HO_5.out (fun _ hk => hk.1)⟩, ⟨by (with_reducible repeat (first | apply Kd.V_alloc | apply Kd.V_drewN | apply Kd.V_drew)); exact Kd.V_mono HO_7.out (fun _ hk => hk.1)⟩, ⟨zb⟩⟩
           rw [if_pos c29] at H
           have c29b0 : decide (x11_5 < (t474.length : Int)) = true := decide_eq_true c29
           clear c29
           by_cases c30 : 0 ≤ x8_3
           rotate_left
           ·rw [if_neg c30] at H
            exact absurd H (by simp)
           rw [if_pos c30] at H
           have c30b0 : decide (0 ≤ x8_3) = true := decide_eq_true c30
           clear c30
           by_cases c31 : x8_3 < (x5_2.length : Int)
           rotate_left
           ·rw [if_neg c31] at H
            exact absurd H (by simp)
           rw [if_pos c31] at H
           have c31b0 : decide (x8_3 < (x5_2.length : Int)) = true := decide_eq_true c31
           clear c31
           by_cases c32 : 0 ≤ x11_5
           rotate_left
           ·rw [if_neg c32] at H
            exact absurd H (by simp)
           rw [if_pos c32] at H
           have c32b0 : decide (0 ≤ x11_5) = true := decide_eq_true c32
           clear c32
           replace H := Option.bind_eq_some_iff.mp H
           obtain ⟨t479, A330, H⟩ := H
           replace H : (if t479 < 0 then ((spec_l02Insert.f k5 (rd_L2 x5_2 x8_3) ((rd_T25 t474 x11_5).f0) ((rd_T25 t474 x11_5).f1)).bind fun t482 => ((spec_l07Normal.f k5 a0 t482).bind fun t485 => ((spec_l03Add.f k5 x7_5 t485).bind fun t488 => (spec_l07All.l3 k5 a0 a1 x5_2 x6_2 t488 x8_3 x9_4 t474 (wrap64 (x11_5 + 1)))))) else (spec_l07All.l3 k5 a0 a1 x5_2 x6_2 x7_5 x8_3 x9_4 t474 (wrap64 (x11_5 + 1)))) = some r := H
           have A33 := aM A330
           clear A330
           by_cases c34 : t479 < 0
           rotate_left
           ·rw [if_neg c34] at H
            have c34b0 : decide (t479 < 0) = false := decide_eq_false c34
            clear c34
            have H' := aM H
            clear H
            obtain ⟨Ao48, co48, eo48⟩ := Kd.R_slice HO_10.out
            subst eo48
            try go_wp2
            have n0_ := aM (Kd.V_drew HO_5.out)
            have n1_ := aM (Kd.V_drew HO_7.out)
            have n2_ := aM (Kd.R_drew HO_10.out)
            have n3_ := aM (Kd.C_drew HR471_0.out)
            have n4_ := aM (Kd.C_drew HR472_0.out)
            have n5_ := aM (below_drew1 HB.out)
            clear HO_5
            clear HO_7
            clear HO_10
            clear HR471_0
            clear HR472_0
            clear HB
            have HO_5 := n0_
            have HO_7 := n1_
            have HO_10 := n2_
            have HR471_0 := n3_
            have HR472_0 := n4_
            have HB := n5_
            clear n0_ n1_ n2_ n3_ n4_ n5_
            have p477 : 0 ≤ (x8_3 : Int) := of_decide_eq_true za
            have q477 : x8_3 < (x5_2.length : Int) := of_decide_eq_true za
            obtain ⟨ad477, A477_0, c477_0, e477, hx477_0, hl477_0, hi477_0⟩ := at_L2 (Kd.V_reads' HO_5.out).2.2 x8_3 p477 q477
            obtain rfl : ad471 = ad477 := (by injection e477)
            obtain ⟨ce477, hce477, hMe477, hcc477⟩ := Kd.V_get HO_5.out [] x8_3 p477 (by first | exact q477 | exact of_decide_eq_true za | (have e_ := (Kd.V_reads' HO_5.out).1; omega))
            obtain ⟨ua477_0, uc477_0, rfl, ul477_0, ge477_0⟩ := Kd.FK_slice_open hMe477
            have hv477_0 := hcc477 0 _ rfl
            rw [Nat.add_zero, show ((Kd.slice 25 k25)).sz = 1 from rfl, Nat.mul_one] at hv477_0
            replace hv477_0 := Option.some.inj (hv477_0.symm.trans hx477_0)
            injection hv477_0 with hva_ hvn_ hvc_
            rw [hva_] at ge477_0
            rw [hvc_] at ul477_0
            have HL477_0 := aM (show Kd.V k25 25 _ w.heap.size _ _ (rd_L2 x5_2 x8_3) from Kd.V_mk ul477_0 ge477_0)
            clear hva_ hvn_ hvc_ ge477_0 ul477_0
            clear hcc477 hce477
            have HR477_0 := aM hi477_0
            have HC477_0 := aM hl477_0
            clear hi477_0 hl477_0
            replace p477 := eq_true p477
            replace q477 := eq_true q477
            have p478 : 0 ≤ (x11_5 : Int) := of_decide_eq_true za
            have q478 : x11_5 < (t474.length : Int) := of_decide_eq_true za
            obtain ⟨ad478, e478, hx478_0, hx478_1⟩ := at_T25 (Kd.R_reads' HO_10.out).2.2 x11_5 p478 q478
            cases e478
            replace p478 := eq_true p478
            replace q478 := eq_true q478
            refine start_ (n := 10) (S := fun w' => w'.cell? (ad471.add (x8_3).toNat) = some (.slice A477_0 (rd_L2 x5_2 x8_3).length c477_0) ∧ w'.cell? (ad478.add ((x11_5).toNat * 2)) = some (.int .i64 ((rd_T25 t474 x11_5).f0)) ∧ w'.cell? ⟨(ad478.add ((x11_5).toNat * 2)).block, (ad478.add ((x11_5).toNat * 2)).off + 1, none⟩ = some (.int .i64 ((rd_T25 t474 x11_5).f1))) (ds := []) #[false, false, false, false, false, false, false, false, false, false] (by kernel_rfl) rfl rfl ⟨hx477_0, hx478_0, hx478_1⟩ (fun hHeld => ?_); refine with_tabW spec_l07All.tab18 spec_l07All.bits18 (fun HT_ HW_ => ?_)
            generalize wr.drew = w49 at HO_5 HO_7 HO_10 HR471_0 HR472_0 HB HL477_0 HR477_0 hx477_0 hx478_0 hx478_1 hHeld ⊢
            refine pure_ (i := 0) (N := some 58) (v := ?_) (a' := ?_) #[true, false, false, false, false, false, false, false, false, false] rfl rfl zz (fun _ _ _ h => h) (Or.inl ⟨by rfl, ?_⟩) ?_ ?_
            rotate_left
            ·intro w'
             go_simp
             with_reducible rfl
            rotate_left
            ·simp only [Act.put, xA, xB, xC, i64_w, i32_w]
             rfl
            refine pure_ (i := 1) (N := some 59) (v := ?_) (a' := ?_) #[true, true, false, false, false, false, false, false, false, false] rfl rfl zz (fun _ _ _ h => h) (Or.inl ⟨by rfl, ?_⟩) ?_ ?_
            rotate_left
            ·intro w'
             go_simp
             with_reducible rfl
            rotate_left
            ·simp only [Act.put, xA, xB, xC, i64_w, i32_w]
             rfl
            refine pure_ (i := 2) (N := some 60) (v := ?_) (a' := ?_) #[true, true, true, false, false, false, false, false, false, false] rfl rfl zz (fun _ _ _ h => h) (Or.inl ⟨by rfl, ?_⟩) ?_ ?_
            rotate_left
            ·intro w'
             go_simp
             with_reducible rfl
            rotate_left
            ·simp only [Act.put, xA, xB, xC, i64_w, i32_w]
             rfl
            refine pure_ (i := 4) (N := some 62) (v := ?_) (a' := ?_) #[true, true, true, false, true, false, false, false, false, false] rfl rfl zz (fun _ _ _ h => h) (Or.inl ⟨by rfl, ?_⟩) ?_ ?_
            rotate_left
            ·intro w'
             go_simp
             with_reducible rfl
            rotate_left
            ·simp only [Act.put, xA, xB, xC, i64_w, i32_w]
             rfl
            refine pure_ (i := 5) (N := some 63) (v := ?_) (a' := ?_) #[true, true, true, false, true, true, false, false, false, false] rfl rfl zz (fun _ _ _ h => h) (Or.inl ⟨by rfl, ?_⟩) ?_ ?_
            rotate_left
            ·intro w'
             go_simp
             with_reducible rfl
            rotate_left
            ·simp only [Act.put, xA, xB, xC, i64_w, i32_w]
             rfl
            refine pure_ (i := 6) (N := some 64) (v := ?_) (a' := ?_) #[true, true, true, false, true, true, true, false, false, false] rfl rfl zz (fun _ _ _ h => h) (Or.inl ⟨by rfl, ?_⟩) ?_ ?_
            rotate_left
            ·intro w'
             go_simp
             with_reducible rfl
            rotate_left
            ·simp only [Act.put, xA, xB, xC, i64_w, i32_w]
             rfl
            refine take_ (i := 3) (N := some 61) (v := ?_) (a' := ?_) #[true, true, true, true, true, true, true, false, false, false] rfl rfl (take_ofW HT_.out HW_.out (by kernel_rfl)) (fun _ _ _ h => h) (Or.inl ⟨by rfl, ?_⟩) hHeld ?_ ?_
            rotate_left
            ·rintro w' ⟨s0, s1, s2⟩
             go_simp
             with_reducible rfl
            rotate_left
            ·simp only [Act.put, xA, xB, xC, i64_w, i32_w]
             rfl
            refine take_ (i := 7) (N := some 65) (v := ?_) (a' := ?_) #[true, true, true, true, true, true, true, true, false, false] rfl rfl (take_ofW HT_.out HW_.out (by kernel_rfl)) (fun _ _ _ h => h) (Or.inl ⟨by rfl, ?_⟩) hHeld ?_ ?_
            rotate_left
            ·rintro w' ⟨s0, s1, s2⟩
             go_simp
             with_reducible rfl
            rotate_left
            ·simp only [Act.put, xA, xB, xC, i64_w, i32_w]
             rfl
            refine one_ (i := 8) (N := some 66) #[true, true, true, true, true, true, true, true, true, false] rfl rfl (one_of HT_.out (by kernel_rfl)) (by decide) (fun K hK => ?_)
            refine goes_ Tryz.func39 (by kernel_rfl) rfl #[.slice A477_0 (rd_L2 x5_2 x8_3).length c477_0, .agg #[.int .i64 ((rd_T25 t474 x11_5).f0), .int .i64 ((rd_T25 t474 x11_5).f1)]] (by rfl) rfl rfl zm ?_
            with_reducible refine (spec_l02Index.calls k5 _ _ (rd_L2 x5_2 x8_3) ((rd_T25 t474 x11_5).f0) ((rd_T25 t474 x11_5).f1) t479 _ ?side1 ?side2 A33.out).mono ?_
            (case side1 => repeat (first | exact (mQ_ HR477_0.out) | (with_reducible refine Kd.C_alloc ?_ _) | (with_reducible refine Kd.C_drewN ?_ _) | (with_reducible refine Kd.C_drew ?_)))
            (case side2 => exact HC477_0.out)
            rintro e w50 ⟨rfl, hb⟩
            have HS0_ := (hb.cell (World.block_lt_of_cell? _ _ (hHeld.1))).trans (hHeld.1)
            have HS1_ := (hb.cell (World.block_lt_of_cell? _ _ (hHeld.2.1))).trans (hHeld.2.1)
            have HS2_ := (hb.cell (World.block_lt_of_cell? _ _ (hHeld.2.2))).trans (hHeld.2.2)
            refine ⟨_, rfl, ?_⟩
            have n0_ := aM (Kd.V_below (mV_ HO_5.out) hb)
            have n1_ := aM (Kd.V_below (mV_ HO_7.out) hb)
            have n2_ := aM (Kd.R_below (mR_ HO_10.out) hb)
            have n3_ := aM (Kd.V_below (mV_ HL477_0.out) hb)
            have n4_ := aM (Kd.C_below (mQ_ HR471_0.out) hb)
            have n5_ := aM (Kd.C_below (mQ_ HR472_0.out) hb)
            have n6_ := aM (Kd.C_below (mQ_ HR477_0.out) hb)
            have n7_ := aM (below_step zb hb)
            clear HO_5
            clear HO_7
            clear HO_10
            clear HL477_0
            clear HR471_0
            clear HR472_0
            clear HR477_0
            clear HB
            have HO_5 := n0_
            have HO_7 := n1_
            have HO_10 := n2_
            have HL477_0 := n3_
            have HR471_0 := n4_
            have HR472_0 := n5_
            have HR477_0 := n6_
            have HB := n7_
            clear n0_ n1_ n2_ n3_ n4_ n5_ n6_ n7_
            (try clear hb)
            (try clear hb2)
            (try clear hk)
            (try clear hi)
            refine hK.out _ _ ⟨HS0_, HS1_, HS2_⟩ (fun hHeld => ?_)
            clear hK K
            refine norm_ (a' := ?_) ?_ ?_
            rotate_left
            ·show Act.put _ (some 66) _ = _
             simp only [Act.put, xA, xB, xC, i64_w, i32_w]
             rfl
            refine pure_ (i := 9) (N := some 67) (v := ?_) (a' := ?_) #[true, true, true, true, true, true, true, true, true, true] rfl rfl zz (fun _ _ _ h => h) (Or.inl ⟨by rfl, ?_⟩) ?_ ?_
            rotate_left
            ·intro w'
             go_simp
             with_reducible rfl
            rotate_left
            ·simp only [Act.put, xA, xB, xC, i64_w, i32_w]
             rfl
            refine done_ (done_of HT_.out (by kernel_rfl)) ?_
            try go_wp2
            go_roundg k5
            case measure => have := HJ2.out; have := HK2.out; have := HK3.out; have := HK4.out; have := HK5.out; omega
            case rel => exact ⟨(x7_5), (wrap64 (x11_5 + 1)), zr, H', ⟨by have := HJ2.out; have := HK2.out; have := HK3.out; have := HK4.out; have := HK5.out; omega⟩, ⟨mV_ HO_5.out⟩, ⟨mV_ HO_7.out⟩, ⟨mR_ HO_10.out⟩, ⟨mQ_ HR471_0.out⟩, ⟨mQ_ HR472_0.out⟩, ⟨zb⟩⟩
           rw [if_pos c34] at H
           have c34b0 : decide (t479 < 0) = true := decide_eq_true c34
           clear c34
           replace H := Option.bind_eq_some_iff.mp H
           obtain ⟨t482, A350, H⟩ := H
           replace H : ((spec_l07Normal.f k5 a0 t482).bind fun t485 => ((spec_l03Add.f k5 x7_5 t485).bind fun t488 => (spec_l07All.l3 k5 a0 a1 x5_2 x6_2 t488 x8_3 x9_4 t474 (wrap64 (x11_5 + 1))))) = some r := H
           have A35 := aM A350
           clear A350
           replace H := Option.bind_eq_some_iff.mp H
           obtain ⟨t485, A360, H⟩ := H
           replace H : ((spec_l03Add.f k5 x7_5 t485).bind fun t488 => (spec_l07All.l3 k5 a0 a1 x5_2 x6_2 t488 x8_3 x9_4 t474 (wrap64 (x11_5 + 1)))) = some r := H
           have A36 := aM A360
           clear A360
           replace H := Option.bind_eq_some_iff.mp H
           obtain ⟨t488, A370, H⟩ := H
           replace H : (spec_l07All.l3 k5 a0 a1 x5_2 x6_2 t488 x8_3 x9_4 t474 (wrap64 (x11_5 + 1))) = some r := H
           have A37 := aM A370
           clear A370
           have H' := aM H
           clear H
           obtain ⟨Ao38, co38, eo38⟩ := Kd.R_slice HO_10.out
           subst eo38
           try go_wp2
           have n0_ := aM (Kd.V_drew HO_5.out)
           have n1_ := aM (Kd.V_drew HO_7.out)
           have n2_ := aM (Kd.R_drew HO_10.out)
           have n3_ := aM (Kd.C_drew HR471_0.out)
           have n4_ := aM (Kd.C_drew HR472_0.out)
           have n5_ := aM (below_drew1 HB.out)
           clear HO_5
           clear HO_7
           clear HO_10
           clear HR471_0
           clear HR472_0
           clear HB
           have HO_5 := n0_
           have HO_7 := n1_
           have HO_10 := n2_
           have HR471_0 := n3_
           have HR472_0 := n4_
           have HB := n5_
           clear n0_ n1_ n2_ n3_ n4_ n5_
           have p477 : 0 ≤ (x8_3 : Int) := of_decide_eq_true za
           have q477 : x8_3 < (x5_2.length : Int) := of_decide_eq_true za
           obtain ⟨ad477, A477_0, c477_0, e477, hx477_0, hl477_0, hi477_0⟩ := at_L2 (Kd.V_reads' HO_5.out).2.2 x8_3 p477 q477
           obtain rfl : ad471 = ad477 := (by injection e477)
           obtain ⟨ce477, hce477, hMe477, hcc477⟩ := Kd.V_get HO_5.out [] x8_3 p477 (by first | exact q477 | exact of_decide_eq_true za | (have e_ := (Kd.V_reads' HO_5.out).1; omega))
           obtain ⟨ua477_0, uc477_0, rfl, ul477_0, ge477_0⟩ := Kd.FK_slice_open hMe477
           have hv477_0 := hcc477 0 _ rfl
           rw [Nat.add_zero, show ((Kd.slice 25 k25)).sz = 1 from rfl, Nat.mul_one] at hv477_0
           replace hv477_0 := Option.some.inj (hv477_0.symm.trans hx477_0)
           injection hv477_0 with hva_ hvn_ hvc_
           rw [hva_] at ge477_0
           rw [hvc_] at ul477_0
           have HL477_0 := aM (show Kd.V k25 25 _ w.heap.size _ _ (rd_L2 x5_2 x8_3) from Kd.V_mk ul477_0 ge477_0)
           clear hva_ hvn_ hvc_ ge477_0 ul477_0
           clear hcc477 hce477
           have HR477_0 := aM hi477_0
           have HC477_0 := aM hl477_0
           clear hi477_0 hl477_0
           replace p477 := eq_true p477
           replace q477 := eq_true q477
           have p478 : 0 ≤ (x11_5 : Int) := of_decide_eq_true za
           have q478 : x11_5 < (t474.length : Int) := of_decide_eq_true za
           obtain ⟨ad478, e478, hx478_0, hx478_1⟩ := at_T25 (Kd.R_reads' HO_10.out).2.2 x11_5 p478 q478
           cases e478
           replace p478 := eq_true p478
           replace q478 := eq_true q478
           refine start_ (n := 10) (S := fun w' => w'.cell? (ad471.add (x8_3).toNat) = some (.slice A477_0 (rd_L2 x5_2 x8_3).length c477_0) ∧ w'.cell? (ad478.add ((x11_5).toNat * 2)) = some (.int .i64 ((rd_T25 t474 x11_5).f0)) ∧ w'.cell? ⟨(ad478.add ((x11_5).toNat * 2)).block, (ad478.add ((x11_5).toNat * 2)).off + 1, none⟩ = some (.int .i64 ((rd_T25 t474 x11_5).f1))) (ds := []) #[false, false, false, false, false, false, false, false, false, false] (by kernel_rfl) rfl rfl ⟨hx477_0, hx478_0, hx478_1⟩ (fun hHeld => ?_); refine with_tabW spec_l07All.tab18 spec_l07All.bits18 (fun HT_ HW_ => ?_)
           generalize wr.drew = w39 at HO_5 HO_7 HO_10 HR471_0 HR472_0 HB HL477_0 HR477_0 hx477_0 hx478_0 hx478_1 hHeld ⊢
           refine pure_ (i := 0) (N := some 58) (v := ?_) (a' := ?_) #[true, false, false, false, false, false, false, false, false, false] rfl rfl zz (fun _ _ _ h => h) (Or.inl ⟨by rfl, ?_⟩) ?_ ?_
           rotate_left
           ·intro w'
            go_simp
            with_reducible rfl
           rotate_left
           ·simp only [Act.put, xA, xB, xC, i64_w, i32_w]
            rfl
           refine pure_ (i := 1) (N := some 59) (v := ?_) (a' := ?_) #[true, true, false, false, false, false, false, false, false, false] rfl rfl zz (fun _ _ _ h => h) (Or.inl ⟨by rfl, ?_⟩) ?_ ?_
           rotate_left
           ·intro w'
            go_simp
            with_reducible rfl
           rotate_left
           ·simp only [Act.put, xA, xB, xC, i64_w, i32_w]
            rfl
           refine pure_ (i := 2) (N := some 60) (v := ?_) (a' := ?_) #[true, true, true, false, false, false, false, false, false, false] rfl rfl zz (fun _ _ _ h => h) (Or.inl ⟨by rfl, ?_⟩) ?_ ?_
           rotate_left
           ·intro w'
            go_simp
            with_reducible rfl
           rotate_left
           ·simp only [Act.put, xA, xB, xC, i64_w, i32_w]
            rfl
           refine pure_ (i := 4) (N := some 62) (v := ?_) (a' := ?_) #[true, true, true, false, true, false, false, false, false, false] rfl rfl zz (fun _ _ _ h => h) (Or.inl ⟨by rfl, ?_⟩) ?_ ?_
           rotate_left
           ·intro w'
            go_simp
            with_reducible rfl
           rotate_left
           ·simp only [Act.put, xA, xB, xC, i64_w, i32_w]
            rfl
           refine pure_ (i := 5) (N := some 63) (v := ?_) (a' := ?_) #[true, true, true, false, true, true, false, false, false, false] rfl rfl zz (fun _ _ _ h => h) (Or.inl ⟨by rfl, ?_⟩) ?_ ?_
           rotate_left
           ·intro w'
            go_simp
            with_reducible rfl
           rotate_left
           ·simp only [Act.put, xA, xB, xC, i64_w, i32_w]
            rfl
           refine pure_ (i := 6) (N := some 64) (v := ?_) (a' := ?_) #[true, true, true, false, true, true, true, false, false, false] rfl rfl zz (fun _ _ _ h => h) (Or.inl ⟨by rfl, ?_⟩) ?_ ?_
           rotate_left
           ·intro w'
            go_simp
            with_reducible rfl
           rotate_left
           ·simp only [Act.put, xA, xB, xC, i64_w, i32_w]
            rfl
           refine take_ (i := 3) (N := some 61) (v := ?_) (a' := ?_) #[true, true, true, true, true, true, true, false, false, false] rfl rfl (take_ofW HT_.out HW_.out (by kernel_rfl)) (fun _ _ _ h => h) (Or.inl ⟨by rfl, ?_⟩) hHeld ?_ ?_
           rotate_left
           ·rintro w' ⟨s0, s1, s2⟩
            go_simp
            with_reducible rfl
           rotate_left
           ·simp only [Act.put, xA, xB, xC, i64_w, i32_w]
            rfl
           refine take_ (i := 7) (N := some 65) (v := ?_) (a' := ?_) #[true, true, true, true, true, true, true, true, false, false] rfl rfl (take_ofW HT_.out HW_.out (by kernel_rfl)) (fun _ _ _ h => h) (Or.inl ⟨by rfl, ?_⟩) hHeld ?_ ?_
           rotate_left
           ·rintro w' ⟨s0, s1, s2⟩
            go_simp
            with_reducible rfl
           rotate_left
           ·simp only [Act.put, xA, xB, xC, i64_w, i32_w]
            rfl
           refine one_ (i := 8) (N := some 66) #[true, true, true, true, true, true, true, true, true, false] rfl rfl (one_of HT_.out (by kernel_rfl)) (by decide) (fun K hK => ?_)
           refine goes_ Tryz.func39 (by kernel_rfl) rfl #[.slice A477_0 (rd_L2 x5_2 x8_3).length c477_0, .agg #[.int .i64 ((rd_T25 t474 x11_5).f0), .int .i64 ((rd_T25 t474 x11_5).f1)]] (by rfl) rfl rfl zm ?_
           with_reducible refine (spec_l02Index.calls k5 _ _ (rd_L2 x5_2 x8_3) ((rd_T25 t474 x11_5).f0) ((rd_T25 t474 x11_5).f1) t479 _ ?side1 ?side2 A33.out).mono ?_
           (case side1 => repeat (first | exact (mQ_ HR477_0.out) | (with_reducible refine Kd.C_alloc ?_ _) | (with_reducible refine Kd.C_drewN ?_ _) | (with_reducible refine Kd.C_drew ?_)))
           (case side2 => exact HC477_0.out)
           rintro e w40 ⟨rfl, hb⟩
           have HS0_ := (hb.cell (World.block_lt_of_cell? _ _ (hHeld.1))).trans (hHeld.1)
           have HS1_ := (hb.cell (World.block_lt_of_cell? _ _ (hHeld.2.1))).trans (hHeld.2.1)
           have HS2_ := (hb.cell (World.block_lt_of_cell? _ _ (hHeld.2.2))).trans (hHeld.2.2)
           refine ⟨_, rfl, ?_⟩
           have n0_ := aM (Kd.V_below (mV_ HO_5.out) hb)
           have n1_ := aM (Kd.V_below (mV_ HO_7.out) hb)
           have n2_ := aM (Kd.R_below (mR_ HO_10.out) hb)
           have n3_ := aM (Kd.V_below (mV_ HL477_0.out) hb)
           have n4_ := aM (Kd.C_below (mQ_ HR471_0.out) hb)
           have n5_ := aM (Kd.C_below (mQ_ HR472_0.out) hb)
           have n6_ := aM (Kd.C_below (mQ_ HR477_0.out) hb)
           have n7_ := aM (below_step zb hb)
           clear HO_5
           clear HO_7
           clear HO_10
           clear HL477_0
           clear HR471_0
           clear HR472_0
           clear HR477_0
           clear HB
           have HO_5 := n0_
           have HO_7 := n1_
           have HO_10 := n2_
           have HL477_0 := n3_
           have HR471_0 := n4_
           have HR472_0 := n5_
           have HR477_0 := n6_
           have HB := n7_
           clear n0_ n1_ n2_ n3_ n4_ n5_ n6_ n7_
           (try clear hb)
           (try clear hb2)
           (try clear hk)
           (try clear hi)
           refine hK.out _ _ ⟨HS0_, HS1_, HS2_⟩ (fun hHeld => ?_)
           clear hK K
           refine norm_ (a' := ?_) ?_ ?_
           rotate_left
           ·show Act.put _ (some 66) _ = _
            simp only [Act.put, xA, xB, xC, i64_w, i32_w]
            rfl
           refine pure_ (i := 9) (N := some 67) (v := ?_) (a' := ?_) #[true, true, true, true, true, true, true, true, true, true] rfl rfl zz (fun _ _ _ h => h) (Or.inl ⟨by rfl, ?_⟩) ?_ ?_
           rotate_left
           ·intro w'
            go_simp
            with_reducible rfl
           rotate_left
           ·simp only [Act.put, xA, xB, xC, i64_w, i32_w]
            rfl
           refine done_ (done_of HT_.out (by kernel_rfl)) ?_
           try go_wp2
           have n0_ := aM (Kd.V_drew HO_5.out)
           have n1_ := aM (Kd.V_drew HO_7.out)
           have n2_ := aM (Kd.R_drew HO_10.out)
           have n3_ := aM (Kd.V_drew HL477_0.out)
           have n4_ := aM (Kd.C_drew HR471_0.out)
           have n5_ := aM (Kd.C_drew HR472_0.out)
           have n6_ := aM (Kd.C_drew HR477_0.out)
           have n7_ := aM (below_drew1 HB.out)
           clear HO_5
           clear HO_7
           clear HO_10
           clear HL477_0
           clear HR471_0
           clear HR472_0
           clear HR477_0
           clear HB
           have HO_5 := n0_
           have HO_7 := n1_
           have HO_10 := n2_
           have HL477_0 := n3_
           have HR471_0 := n4_
           have HR472_0 := n5_
           have HR477_0 := n6_
           have HB := n7_
           clear n0_ n1_ n2_ n3_ n4_ n5_ n6_ n7_
           have p480 : 0 ≤ (x8_3 : Int) := of_decide_eq_true za
           have q480 : x8_3 < (x5_2.length : Int) := of_decide_eq_true za
           obtain ⟨ad480, A480_0, c480_0, e480, hx480_0, hl480_0, hi480_0⟩ := at_L2 (Kd.V_reads' HO_5.out).2.2 x8_3 p480 q480
           obtain rfl : ad471 = ad480 := (by injection e480)
           obtain ⟨ce480, hce480, hMe480, hcc480⟩ := Kd.V_get HO_5.out [] x8_3 p480 (by first | exact q480 | exact of_decide_eq_true za | (have e_ := (Kd.V_reads' HO_5.out).1; omega))
           obtain ⟨ua480_0, uc480_0, rfl, ul480_0, ge480_0⟩ := Kd.FK_slice_open hMe480
           have hv480_0 := hcc480 0 _ rfl
           rw [Nat.add_zero, show ((Kd.slice 25 k25)).sz = 1 from rfl, Nat.mul_one] at hv480_0
           replace hv480_0 := Option.some.inj (hv480_0.symm.trans hx480_0)
           injection hv480_0 with hva_ hvn_ hvc_
           rw [hva_] at ge480_0
           rw [hvc_] at ul480_0
           have HL480_0 := aM (show Kd.V k25 25 _ w.heap.size _ _ (rd_L2 x5_2 x8_3) from Kd.V_mk ul480_0 ge480_0)
           clear hva_ hvn_ hvc_ ge480_0 ul480_0
           clear hcc480 hce480
           have HR480_0 := aM hi480_0
           have HC480_0 := aM hl480_0
           clear hi480_0 hl480_0
           replace p480 := eq_true p480
           replace q480 := eq_true q480
           have p481 : 0 ≤ (x11_5 : Int) := of_decide_eq_true za
           have q481 : x11_5 < (t474.length : Int) := of_decide_eq_true za
           obtain ⟨ad481, e481, hx481_0, hx481_1⟩ := at_T25 (Kd.R_reads' HO_10.out).2.2 x11_5 p481 q481
           obtain rfl : ad478 = ad481 := (by injection e481)
           replace p481 := eq_true p481
           replace q481 := eq_true q481
           refine start_ (n := 14) (S := fun w' => w'.cell? (ad471.add (x8_3).toNat) = some (.slice A480_0 (rd_L2 x5_2 x8_3).length c480_0) ∧ w'.cell? (ad478.add ((x11_5).toNat * 2)) = some (.int .i64 ((rd_T25 t474 x11_5).f0)) ∧ w'.cell? ⟨(ad478.add ((x11_5).toNat * 2)).block, (ad478.add ((x11_5).toNat * 2)).off + 1, none⟩ = some (.int .i64 ((rd_T25 t474 x11_5).f1))) (ds := []) #[false, false, false, false, false, false, false, false, false, false, false, false, false, false] (by kernel_rfl) rfl rfl ⟨hx480_0, hx481_0, hx481_1⟩ (fun hHeld => ?_); refine with_tabW spec_l07All.tab19 spec_l07All.bits19 (fun HT_ HW_ => ?_)
           generalize w40.drew = w41 at HO_5 HO_7 HO_10 HL477_0 HR471_0 HR472_0 HR477_0 HB HL480_0 HR480_0 hx480_0 hx481_0 hx481_1 hHeld ⊢
           refine pure_ (i := 0) (N := some 68) (v := ?_) (a' := ?_) #[true, false, false, false, false, false, false, false, false, false, false, false, false, false] rfl rfl zz (fun _ _ _ h => h) (Or.inl ⟨by rfl, ?_⟩) ?_ ?_
           rotate_left
           ·intro w'
            go_simp
            with_reducible rfl
           rotate_left
           ·simp only [Act.put, xA, xB, xC, i64_w, i32_w]
            rfl
           refine pure_ (i := 1) (N := some 69) (v := ?_) (a' := ?_) #[true, true, false, false, false, false, false, false, false, false, false, false, false, false] rfl rfl zz (fun _ _ _ h => h) (Or.inl ⟨by rfl, ?_⟩) ?_ ?_
           rotate_left
           ·intro w'
            go_simp
            with_reducible rfl
           rotate_left
           ·simp only [Act.put, xA, xB, xC, i64_w, i32_w]
            rfl
           refine pure_ (i := 2) (N := some 70) (v := ?_) (a' := ?_) #[true, true, true, false, false, false, false, false, false, false, false, false, false, false] rfl rfl zz (fun _ _ _ h => h) (Or.inl ⟨by rfl, ?_⟩) ?_ ?_
           rotate_left
           ·intro w'
            go_simp
            with_reducible rfl
           rotate_left
           ·simp only [Act.put, xA, xB, xC, i64_w, i32_w]
            rfl
           refine pure_ (i := 3) (N := some 71) (v := ?_) (a' := ?_) #[true, true, true, true, false, false, false, false, false, false, false, false, false, false] rfl rfl zz (fun _ _ _ h => h) (Or.inl ⟨by rfl, ?_⟩) ?_ ?_
           rotate_left
           ·intro w'
            go_simp
            with_reducible rfl
           rotate_left
           ·simp only [Act.put, xA, xB, xC, i64_w, i32_w]
            rfl
           refine pure_ (i := 4) (N := some 72) (v := ?_) (a' := ?_) #[true, true, true, true, true, false, false, false, false, false, false, false, false, false] rfl rfl zz (fun _ _ _ h => h) (Or.inl ⟨by rfl, ?_⟩) ?_ ?_
           rotate_left
           ·intro w'
            go_simp
            with_reducible rfl
           rotate_left
           ·simp only [Act.put, xA, xB, xC, i64_w, i32_w]
            rfl
           refine pure_ (i := 6) (N := some 74) (v := ?_) (a' := ?_) #[true, true, true, true, true, false, true, false, false, false, false, false, false, false] rfl rfl zz (fun _ _ _ h => h) (Or.inl ⟨by rfl, ?_⟩) ?_ ?_
           rotate_left
           ·intro w'
            go_simp
            with_reducible rfl
           rotate_left
           ·simp only [Act.put, xA, xB, xC, i64_w, i32_w]
            rfl
           refine pure_ (i := 7) (N := some 75) (v := ?_) (a' := ?_) #[true, true, true, true, true, false, true, true, false, false, false, false, false, false] rfl rfl zz (fun _ _ _ h => h) (Or.inl ⟨by rfl, ?_⟩) ?_ ?_
           rotate_left
           ·intro w'
            go_simp
            with_reducible rfl
           rotate_left
           ·simp only [Act.put, xA, xB, xC, i64_w, i32_w]
            rfl
           refine pure_ (i := 8) (N := some 76) (v := ?_) (a' := ?_) #[true, true, true, true, true, false, true, true, true, false, false, false, false, false] rfl rfl zz (fun _ _ _ h => h) (Or.inl ⟨by rfl, ?_⟩) ?_ ?_
           rotate_left
           ·intro w'
            go_simp
            with_reducible rfl
           rotate_left
           ·simp only [Act.put, xA, xB, xC, i64_w, i32_w]
            rfl
           refine take_ (i := 5) (N := some 73) (v := ?_) (a' := ?_) #[true, true, true, true, true, true, true, true, true, false, false, false, false, false] rfl rfl (take_ofW HT_.out HW_.out (by kernel_rfl)) (fun _ _ _ h => h) (Or.inl ⟨by rfl, ?_⟩) hHeld ?_ ?_
           rotate_left
           ·rintro w' ⟨s0, s1, s2⟩
            go_simp
            with_reducible rfl
           rotate_left
           ·simp only [Act.put, xA, xB, xC, i64_w, i32_w]
            rfl
           refine take_ (i := 9) (N := some 77) (v := ?_) (a' := ?_) #[true, true, true, true, true, true, true, true, true, true, false, false, false, false] rfl rfl (take_ofW HT_.out HW_.out (by kernel_rfl)) (fun _ _ _ h => h) (Or.inl ⟨by rfl, ?_⟩) hHeld ?_ ?_
           rotate_left
           ·rintro w' ⟨s0, s1, s2⟩
            go_simp
            with_reducible rfl
           rotate_left
           ·simp only [Act.put, xA, xB, xC, i64_w, i32_w]
            rfl
           refine one_ (i := 10) (N := some 78) #[true, true, true, true, true, true, true, true, true, true, true, false, false, false] rfl rfl (one_of HT_.out (by kernel_rfl)) (by decide) (fun K hK => ?_)
           refine goes_ Tryz.func42 (by kernel_rfl) rfl #[.slice A480_0 (rd_L2 x5_2 x8_3).length c480_0, .agg #[.int .i64 ((rd_T25 t474 x11_5).f0), .int .i64 ((rd_T25 t474 x11_5).f1)]] (by rfl) rfl rfl zm ?_
           with_reducible refine (spec_l02Insert.calls k5 _ _ (rd_L2 x5_2 x8_3) ((rd_T25 t474 x11_5).f0) ((rd_T25 t474 x11_5).f1) t482 _ ?side1 ?side2 A35.out).mono ?_
           (case side1 => repeat (first | exact (mQ_ HR480_0.out) | (with_reducible refine Kd.C_alloc ?_ _) | (with_reducible refine Kd.C_drewN ?_ _) | (with_reducible refine Kd.C_drew ?_)))
           (case side2 => exact HC480_0.out)
           rintro e w42 ⟨v483, rfl, ho0, hb⟩
           have HS0_ := (hb.cell (World.block_lt_of_cell? _ _ (hHeld.1))).trans (hHeld.1)
           have HS1_ := (hb.cell (World.block_lt_of_cell? _ _ (hHeld.2.1))).trans (hHeld.2.1)
           have HS2_ := (hb.cell (World.block_lt_of_cell? _ _ (hHeld.2.2))).trans (hHeld.2.2)
           refine ⟨_, rfl, ?_⟩
           have n0_ := aM (Kd.V_elder' (mV_ HO_5.out) (Kd.R_base ho0) hb)
           have n1_ := aM (Kd.V_elder' (mV_ HO_7.out) (Kd.R_base ho0) hb)
           have n2_ := aM (Kd.R_elder' (mR_ HO_10.out) (Kd.R_base ho0) hb)
           have n3_ := aM (Kd.V_elder' (mV_ HL477_0.out) (Kd.R_base ho0) hb)
           have n4_ := aM (Kd.V_elder' (mV_ HL480_0.out) (Kd.R_base ho0) hb)
           have n5_ := aM (Kd.R_lower (Kd.R_new' (Kd.R_newM (M := fun k_ => (w.heap.size ≤ k_)) ho0 (below_size zb) (fun k_ h_ => h_)) (Kd.R_lt (mR_ HO_10.out))) (below_size zb))
           have n6_ := aM (Kd.C_below (mQ_ HR471_0.out) hb)
           have n7_ := aM (Kd.C_below (mQ_ HR472_0.out) hb)
           have n8_ := aM (Kd.C_below (mQ_ HR477_0.out) hb)
           have n9_ := aM (Kd.C_below (mQ_ HR480_0.out) hb)
           have n10_ := aM (below_step zb hb)
           clear HO_5
           clear HO_7
           clear HO_10
           clear HL477_0
           clear HL480_0
           clear HR471_0
           clear HR472_0
           clear HR477_0
           clear HR480_0
           clear HB
           have HO_5 := n0_
           have HO_7 := n1_
           have HO_10 := n2_
           have HL477_0 := n3_
           have HL480_0 := n4_
           have HO484 := n5_
           have HR471_0 := n6_
           have HR472_0 := n7_
           have HR477_0 := n8_
           have HR480_0 := n9_
           have HB := n10_
           clear n0_ n1_ n2_ n3_ n4_ n5_ n6_ n7_ n8_ n9_ n10_
           (try clear hb)
           (try clear hb2)
           (try clear hk)
           (try clear hi)
           (try clear ho0)
           obtain ⟨Ao43, co43, eo43⟩ := Kd.R_slice HO484.out
           (first | subst eo43 | (injection eo43 with f1_ f2_ f3_; have f4_ := f1_.symm; have f5_ := f3_.symm; clear f1_ f2_ f3_; subst f4_; subst f5_))
           refine hK.out _ _ ⟨HS0_, HS1_, HS2_⟩ (fun hHeld => ?_)
           clear hK K
           refine norm_ (a' := ?_) ?_ ?_
           rotate_left
           ·show Act.put _ (some 78) _ = _
            simp only [Act.put, xA, xB, xC, i64_w, i32_w]
            rfl
           refine one_ (i := 11) (N := some 79) #[true, true, true, true, true, true, true, true, true, true, true, true, false, false] rfl rfl (one_of HT_.out (by kernel_rfl)) (by decide) (fun K hK => ?_)
           refine goes_ Tryz.func41 (by kernel_rfl) rfl #[.int .i64 a0, .slice Ao43 t482.length co43] (by rfl) rfl rfl zm ?_
           with_reducible refine (spec_l07Normal.calls k5 a0 _ _ t482 t485 _ ?side1 ?side2 A36.out).mono ?_
           (case side1 => repeat (first | exact (Kd.R_reads' HO484.out).2.2 | (with_reducible refine Kd.C_alloc ?_ _) | (with_reducible refine Kd.C_drewN ?_ _) | (with_reducible refine Kd.C_drew ?_)))
           (case side2 => exact (Kd.R_reads' HO484.out).2.1)
           rintro e w44 ⟨v486, rfl, ho0, hb⟩
           have HS0_ := (hb.cell (World.block_lt_of_cell? _ _ (hHeld.1))).trans (hHeld.1)
           have HS1_ := (hb.cell (World.block_lt_of_cell? _ _ (hHeld.2.1))).trans (hHeld.2.1)
           have HS2_ := (hb.cell (World.block_lt_of_cell? _ _ (hHeld.2.2))).trans (hHeld.2.2)
           refine ⟨_, rfl, ?_⟩
           have n0_ := aM (Kd.V_elder' (mV_ HO_5.out) (Kd.R_base ho0) hb)
           have n1_ := aM (Kd.V_elder' (mV_ HO_7.out) (Kd.R_base ho0) hb)
           have n2_ := aM (Kd.R_elder' (mR_ HO_10.out) (Kd.R_base ho0) hb)
           have n3_ := aM (Kd.V_elder' (mV_ HL477_0.out) (Kd.R_base ho0) hb)
           have n4_ := aM (Kd.V_elder' (mV_ HL480_0.out) (Kd.R_base ho0) hb)
           have n5_ := aM (Kd.R_elder' (mR_ HO484.out) (Kd.R_base ho0) hb)
           have n6_ := aM (Kd.R_lower (Kd.R_new' (Kd.R_new' (Kd.R_newM (M := fun k_ => (w.heap.size ≤ k_)) ho0 (below_size zb) (fun k_ h_ => h_)) (Kd.R_lt (mR_ HO_10.out))) (Kd.R_lt (mR_ HO484.out))) (below_size zb))
           have n7_ := aM (Kd.C_below (mQ_ HR471_0.out) hb)
           have n8_ := aM (Kd.C_below (mQ_ HR472_0.out) hb)
           have n9_ := aM (Kd.C_below (mQ_ HR477_0.out) hb)
           have n10_ := aM (Kd.C_below (mQ_ HR480_0.out) hb)
           have n11_ := aM (below_step zb hb)
           clear HO_5
           clear HO_7
           clear HO_10
           clear HL477_0
           clear HL480_0
           clear HO484
           clear HR471_0
           clear HR472_0
           clear HR477_0
           clear HR480_0
           clear HB
           have HO_5 := n0_
           have HO_7 := n1_
           have HO_10 := n2_
           have HL477_0 := n3_
           have HL480_0 := n4_
           have HO484 := n5_
           have HO487 := n6_
           have HR471_0 := n7_
           have HR472_0 := n8_
           have HR477_0 := n9_
           have HR480_0 := n10_
           have HB := n11_
           clear n0_ n1_ n2_ n3_ n4_ n5_ n6_ n7_ n8_ n9_ n10_ n11_
           (try clear hb)
           (try clear hb2)
           (try clear hk)
           (try clear hi)
           (try clear ho0)
           obtain ⟨Ao45, co45, eo45⟩ := Kd.V_slice HO_7.out
           (first | subst eo45 | (injection eo45 with f1_ f2_ f3_; have f4_ := f1_.symm; have f5_ := f3_.symm; clear f1_ f2_ f3_; subst f4_; subst f5_))
           obtain ⟨Ao46, co46, eo46⟩ := Kd.R_slice HO487.out
           (first | subst eo46 | (injection eo46 with f1_ f2_ f3_; have f4_ := f1_.symm; have f5_ := f3_.symm; clear f1_ f2_ f3_; subst f4_; subst f5_))
           refine hK.out _ _ ⟨HS0_, HS1_, HS2_⟩ (fun hHeld => ?_)
           clear hK K
           refine norm_ (a' := ?_) ?_ ?_
           rotate_left
           ·show Act.put _ (some 79) _ = _
            simp only [Act.put, xA, xB, xC, i64_w, i32_w]
            rfl
           refine one_ (i := 12) (N := some 80) #[true, true, true, true, true, true, true, true, true, true, true, true, true, false] rfl rfl (one_of HT_.out (by kernel_rfl)) (by decide) (fun K hK => ?_)
           refine goes_ Tryz.func40 (by kernel_rfl) rfl #[.slice Ao45 x7_5.length co45, .slice Ao46 t485.length co46] (by rfl) rfl rfl zm ?_
           with_reducible refine (spec_l03Add.calls k5 (fun k_ => ((((w.heap.size ≤ k_) ∧ some k_ ≠ (.slice (some ad478) t474.length co38 : Value).ownBlock) ∧ some k_ ≠ (.slice Ao43 t482.length co43 : Value).ownBlock) ∧ some k_ ≠ (.slice Ao46 t485.length co46 : Value).ownBlock)) _ _ x7_5 (fun k_ => some k_ = (.slice Ao46 t485.length co46 : Value).ownBlock) _ _ t485 t488 _ ?side1 ?side2 A37.out).mono ?_
           (case side1 => exact HO_7.out)
           (case side2 => exact Kd.R_V (Kd.R_tight rfl (HO487.out)))
           rintro e w47 ⟨v489, rfl, ho0, hb⟩
           have HS0_ := (hb.cell (World.block_lt_of_cell? _ _ (hHeld.1))).trans (hHeld.1)
           have HS1_ := (hb.cell (World.block_lt_of_cell? _ _ (hHeld.2.1))).trans (hHeld.2.1)
           have HS2_ := (hb.cell (World.block_lt_of_cell? _ _ (hHeld.2.2))).trans (hHeld.2.2)
           refine ⟨_, rfl, ?_⟩
           have n0_ := aM (Kd.V_below (mV_ HO_5.out) hb)
           have n1_ := aM (Kd.V_below (mV_ HO_7.out) hb)
           have n2_ := aM (Kd.R_below (mR_ HO_10.out) hb)
           have n3_ := aM (Kd.V_below (mV_ HL477_0.out) hb)
           have n4_ := aM (Kd.V_below (mV_ HL480_0.out) hb)
           have n5_ := aM (Kd.R_below (mR_ HO484.out) hb)
           have n6_ := aM (Kd.R_below (mR_ HO487.out) hb)
           have n7_ := aM (Kd.V_lower (Kd.V_mono (ok' := fun k_ => (w.heap.size ≤ k_) ∧ some k_ ≠ (.slice (some ad478) t474.length co38 : Value).ownBlock ∧ some k_ ≠ (.slice Ao43 t482.length co43 : Value).ownBlock) ho0 (fun k_ hk_ => ⟨Or.elim hk_ (fun hs_ => Or.elim hs_ (fun hs_ => hs_.1.1.1) (fun hs_ => ((HO487.out).1 k_ hs_.symm).1.1.1)) (fun hn_ => (Nat.le_trans (below_size zb) hn_)), Or.elim hk_ (fun hs_ => Or.elim hs_ (fun hs_ => hs_.1.1.2) (fun hs_ => ((HO487.out).1 k_ hs_.symm).1.2)) (fun hn_ => (Kd.fresh' (Kd.R_lt (mR_ HO_10.out)) k_ hn_)), Or.elim hk_ (fun hs_ => Or.elim hs_ (fun hs_ => hs_.1.2) (fun hs_ => ((HO487.out).1 k_ hs_.symm).2)) (fun hn_ => (Kd.fresh' (Kd.R_lt (mR_ HO484.out)) k_ hn_))⟩)) (below_size zb))
           have n8_ := aM (Kd.C_below (mQ_ HR471_0.out) hb)
           have n9_ := aM (Kd.C_below (mQ_ HR472_0.out) hb)
           have n10_ := aM (Kd.C_below (mQ_ HR477_0.out) hb)
           have n11_ := aM (Kd.C_below (mQ_ HR480_0.out) hb)
           have n12_ := aM (below_step zb hb)
           clear HO_5
           clear HO_7
           clear HO_10
           clear HL477_0
           clear HL480_0
           clear HO484
           clear HO487
           clear HR471_0
           clear HR472_0
           clear HR477_0
           clear HR480_0
           clear HB
           have HO_5 := n0_
           have HO_7 := n1_
           have HO_10 := n2_
           have HL477_0 := n3_
           have HL480_0 := n4_
           have HO484 := n5_
           have HO487 := n6_
           have HO490 := n7_
           have HR471_0 := n8_
           have HR472_0 := n9_
           have HR477_0 := n10_
           have HR480_0 := n11_
           have HB := n12_
           clear n0_ n1_ n2_ n3_ n4_ n5_ n6_ n7_ n8_ n9_ n10_ n11_ n12_
           (try clear hb)
           (try clear hb2)
           (try clear hk)
           (try clear hi)
           (try clear ho0)
           refine hK.out _ _ ⟨HS0_, HS1_, HS2_⟩ (fun hHeld => ?_)
           clear hK K
           refine norm_ (a' := ?_) ?_ ?_
           rotate_left
           ·show Act.put _ (some 80) _ = _
            simp only [Act.put, xA, xB, xC, i64_w, i32_w]
            rfl
           refine pure_ (i := 13) (N := some 7) (v := ?_) (a' := ?_) #[true, true, true, true, true, true, true, true, true, true, true, true, true, true] rfl rfl zz (fun _ _ _ h => h) (Or.inl ⟨by rfl, ?_⟩) ?_ ?_
           rotate_left
           ·intro w'
            go_simp
            with_reducible rfl
           rotate_left
           ·simp only [Act.put, xA, xB, xC, i64_w, i32_w]
            rfl
           refine done_ (done_of HT_.out (by kernel_rfl)) ?_
           try go_wp2
           go_roundg k5
           case measure => have := HJ2.out; have := HK2.out; have := HK3.out; have := HK4.out; have := HK5.out; omega
           case rel => exact ⟨(t488), (wrap64 (x11_5 + 1)), zr, H', ⟨by have := HJ2.out; have := HK2.out; have := HK3.out; have := HK4.out; have := HK5.out; omega⟩, ⟨by (with_reducible repeat (first | apply Kd.V_alloc | apply Kd.V_drewN | apply Kd.V_drew)); exact Kd.V_mono HO_5.out (fun _ hk => ⟨hk.1.1.1, hk.1.1.2⟩)⟩, ⟨by (with_reducible repeat (first | apply Kd.V_alloc | apply Kd.V_drewN | apply Kd.V_drew)); exact Kd.V_mono HO490.out (fun _ hk => ⟨hk.1, hk.2.1⟩)⟩, ⟨by (with_reducible repeat (first | apply Kd.R_alloc | apply Kd.R_drewN | apply Kd.R_drew)); exact Kd.R_mono HO_10.out (fun _ hk => hk.1.1)⟩, ⟨mQ_ HR471_0.out⟩, ⟨mQ_ HR472_0.out⟩, ⟨zb⟩⟩
mutual
def spec_l07Turn.j0 : Nat → Int → Int → Int → Option (Int × Int)
 | 0, _, _, _ => none
 | k + 1, x1, x492000, x492001 => spec_l07Turn.l0 k (Int.tmod x1 6) x492000 x492001
def spec_l07Turn.l0 : Nat → Int → Int → Int → Option (Int × Int)
 | 0, _, _, _ => none
 | k + 1, x5, x492000, x492001 => if x5 > 0 then (spec_l07Turn.l0 k (wrap64 (x5 - 1)) (wrap64 (-x492001)) (wrap64 (x492000 + x492001))) else (some (x492000, x492001))
end
def spec_l07Turn.f (k : Nat) (a0_0 : Int) (a0_1 : Int) (a1 : Int) : Option (Int × Int) := if a1 ≥ 6 then (spec_l07Turn.j0 k a1 a0_1 a0_0) else (spec_l07Turn.j0 k a1 a0_0 a0_1)
theorem spec_l07Turn.calls (k : Nat) (a0_0 : Int) (a0_1 : Int) (a1 : Int) (r1 : Int) (r2 : Int) (w : World) (h : spec_l07Turn.f k a0_0 a0_1 a1 = some (r1, r2)) :
  Calls Tryz.prog 69 #[.agg #[.int .i64 a0_0, .int .i64 a0_1], .int .i64 a1] w fun e w' => e = .returned (.agg #[.int .i64 r1, .int .i64 r2]) ∧ Below w.heap.size w w' := by
 have hu25 := Tryz.underlying25
 have HB := aM (Below.refl w.heap.size w)
 have H : (if a1 ≥ 6 then (spec_l07Turn.j0 k a1 a0_1 a0_0) else (spec_l07Turn.j0 k a1 a0_0 a0_1)) = some (r1, r2) := h
 clear h
 have HC3 := aM H
 clear H
 go_enter Tryz.func69, Tryz.ntmps69
 go_upto_if 7 with (first | ((with_reducible refine gate_dst (N := 2) rfl ?_); refine box_event ?hg (N := 2) ?hd (cs := #[.int .i64 a0_0, .int .i64 a0_1]) (t := 25) ?hr ?_; (case hd => rfl); (case hg => rfl); (case hr => first | (go_simp; done) | (go_simp; rfl)); intro gb491 hg w4 hbox hb; have n0_ := aM (below_step zb hb); have n1_ := aM (hbox); have n2_ := aM ((ze : w.heap.size ≤ gb491)); have n3_ := aM ((ze : w.heap.size ≤ gb491)); clear HB; have HB := n0_; have BK491 := n1_; have GW491 := n2_; have GE491 := n3_; clear n0_ n1_ n2_ n3_; clear hb hbox hg) | ((with_reducible refine gate_dst (N := 4) rfl ?_); refine box_event ?hg (N := 4) ?hd (cs := #[.int .i64 0, .int .i64 0]) (t := 25) ?hr ?_; (case hd => rfl); (case hg => rfl); (case hr => first | (go_simp; done) | (go_simp; rfl)); intro gb492 hg w5 hbox hb; have n0_ := aM (blk_below (g := gb491) (o := .cells #[.int .i64 a0_0, .int .i64 a0_1] 25 (0, 0)) (mB_ BK491.out) hb); have n1_ := aM (below_step (zs GE491.out) hb); have n2_ := aM (hbox); have n3_ := aM ((zf GE491.out : w.heap.size ≤ gb492)); have n4_ := aM ((zf GE491.out : w.heap.size ≤ gb492)); have n5_ := aM ((zl BK491.out : gb491 ≠ gb492)); have n6_ := aM ((zn BK491.out : gb492 ≠ gb491)); clear BK491; clear HB; have BK491 := n0_; have HB := n1_; have BK492 := n2_; have GW492 := n3_; have GE492 := n4_; have NB491_492 := n5_; have NB492_491 := n6_; clear n0_ n1_ n2_ n3_ n4_ n5_ n6_; clear hb hbox hg))
 (try simp only [Act.put, xA, xB, xC])
 go_cut [] (fun wc => ∃ (kq : Nat) (x492000_2 : Int) (x492001_2 : Int), Aside0 (spec_l07Turn.j0 kq a1 x492000_2 x492001_2 = some (r1, r2)) ∧ Aside0 (kq ≤ k) ∧ Aside0 (wc.heap[gb491]? = some (.cells #[.int .i64 x492000_2, .int .i64 x492001_2] 25 (0, 0))) ∧ Aside0 (wc.heap[gb492]? = some (.cells #[.int .i64 0, .int .i64 0] 25 (0, 0))) ∧ Aside0 (Below w.heap.size w wc))
 case first =>
  have H := HC3.out
  clear HC3
  by_cases c6 : a1 ≥ 6
  rotate_left
  ·rw [if_neg c6] at H
   have c6b0 : decide (6 ≤ a1) = false := decide_eq_false c6
   clear c6
   (first | rw [c6b0] | (simp only [i64_w, i32_w]; rw [c6b0]) | skip)
   have H' := aM H
   clear H
   go_wp2
   go_meet
   case rel => exact ⟨_, (a0_0), (a0_1), H', ⟨by first | omega | exact Nat.le_refl _⟩, ⟨mB_ BK491.out⟩, ⟨mB_ BK492.out⟩, ⟨zt GE491.out GE492.out⟩⟩
  rw [if_pos c6] at H
  have c6b0 : decide (6 ≤ a1) = true := decide_eq_true c6
  clear c6
  (first | rw [c6b0] | (simp only [i64_w, i32_w]; rw [c6b0]) | skip)
  have H' := aM H
  clear H
  have hnb7 := NB491_492.out
  have hnc7 := NB492_491.out
  have hcz8_0 : w5.cell? ⟨gb491, 0, none⟩ = some (.int .i64 a0_0) := (blk_cell BK491.out 0).trans rfl
  have hcz8_1 : w5.cell? ⟨gb491, 1, none⟩ = some (.int .i64 a0_1) := (blk_cell BK491.out 1).trans rfl
  have hfz8_0 := blk_frozen BK491.out 0
  have hfz8_1 := blk_frozen BK491.out 1
  go_wp2
  go_meet
  case rel => exact ⟨_, (a0_1), (a0_0), H', ⟨by first | omega | exact Nat.le_refl _⟩, ⟨by (with_reducible repeat (first | refine blk_drewN ?_ _ | refine blk_drew ?_ | refine blk_alloc ?_ _)); refine blk_put (cs := #[.int .i64 a0_1, .int .i64 a0_1]) ?_ 1 _ rfl; (with_reducible repeat (first | refine blk_drewN ?_ _ | refine blk_drew ?_ | refine blk_alloc ?_ _)); refine blk_put (cs := #[.int .i64 a0_0, .int .i64 a0_1]) ?_ 0 _ rfl; (with_reducible repeat (first | refine blk_drewN ?_ _ | refine blk_drew ?_ | refine blk_alloc ?_ _)); exact BK491.out⟩, ⟨by (with_reducible repeat (first | refine blk_drewN ?_ _ | refine blk_drew ?_ | refine blk_alloc ?_ _)); refine blk_far ?_ NB492_491.out _; (with_reducible repeat (first | refine blk_drewN ?_ _ | refine blk_drew ?_ | refine blk_alloc ?_ _)); refine blk_far ?_ NB492_491.out _; (with_reducible repeat (first | refine blk_drewN ?_ _ | refine blk_drew ?_ | refine blk_alloc ?_ _)); exact BK492.out⟩, ⟨zt GE491.out GE492.out⟩⟩
 case rest =>
  clear HC3
  try clear p2
  try clear c6
  try clear c6b0
  try clear c7
  try clear hcz8_0
  try clear hcz8_1
  try clear hfz8_0
  try clear hfz8_1
  obtain ⟨kq, x492000_2, x492001_2, HA, HJ2, BK491, BK492, HB⟩ := hcut
  cases kq with
  | zero => exact absurd HA.out (by simp [spec_l07Turn.j0])
  | succ kj2 =>
   have H := HA.out
   clear HA
   simp only [spec_l07Turn.j0] at H
   have H' := aM H
   clear H
   go_wp2
   go_loopg [5] kj2 (fun kq v5 w' => ∃ (x5_2 : Int) (x492000_2 : Int) (x492001_2 : Int), v5 = .int .i64 x5_2 ∧ Aside0 (spec_l07Turn.l0 kq x5_2 x492000_2 x492001_2 = some (r1, r2)) ∧ Aside0 (kq ≤ kj2) ∧ Aside0 (w'.heap[gb491]? = some (.cells #[.int .i64 x492000_2, .int .i64 x492001_2] 25 (0, 0))) ∧ Aside0 (w'.heap[gb492]? = some (.cells #[.int .i64 0, .int .i64 0] 25 (0, 0))) ∧ Aside0 (Below w.heap.size w w'))
   case atStart => exact ⟨(Int.tmod a1 6), (x492000_2), (x492001_2), zr, H', ⟨Nat.le_refl _⟩, ⟨mB_ BK491.out⟩, ⟨mB_ BK492.out⟩, ⟨zt GE491.out GE492.out⟩⟩
   case round =>
    clear H'
    try clear p2
    try clear c6
    try clear c6b0
    try clear c7
    try clear hcz8_0
    try clear hcz8_1
    try clear hfz8_0
    try clear hfz8_1
    try clear p2
    obtain ⟨x5_2, x492000_2, x492001_2, rfl, HA, HK2, BK491, BK492, HB⟩ := hrel
    cases gk with
    | zero => exact absurd HA.out (by simp [spec_l07Turn.l0])
    | succ k2 =>
     have H := HA.out
     clear HA
     simp only [spec_l07Turn.l0] at H
     by_cases c9 : x5_2 > 0
     ·rw [if_pos c9] at H
      have c9b0 : decide (0 < x5_2) = true := decide_eq_true c9
      clear c9
      have H' := aM H
      clear H
      have hnb10 := NB491_492.out
      have hnc10 := NB492_491.out
      have hcz11_0 : wr.cell? ⟨gb491, 0, none⟩ = some (.int .i64 x492000_2) := (blk_cell BK491.out 0).trans rfl
      have hcz11_1 : wr.cell? ⟨gb491, 1, none⟩ = some (.int .i64 x492001_2) := (blk_cell BK491.out 1).trans rfl
      have hfz11_0 := blk_frozen BK491.out 0
      have hfz11_1 := blk_frozen BK491.out 1
      go_wp2
      go_roundg k2
      case measure => have := HJ2.out; have := HK2.out; omega
      case rel => exact ⟨(wrap64 (x5_2 - 1)), (wrap64 (-x492001_2)), (wrap64 (x492000_2 + x492001_2)), zr, H', ⟨by have := HJ2.out; have := HK2.out; omega⟩, ⟨by (with_reducible repeat (first | refine blk_drewN ?_ _ | refine blk_drew ?_ | refine blk_alloc ?_ _)); refine blk_put (cs := #[.int .i64 (wrap64 (-x492001_2)), .int .i64 x492001_2]) ?_ 1 _ rfl; (with_reducible repeat (first | refine blk_drewN ?_ _ | refine blk_drew ?_ | refine blk_alloc ?_ _)); refine blk_put (cs := #[.int .i64 x492000_2, .int .i64 x492001_2]) ?_ 0 _ rfl; (with_reducible repeat (first | refine blk_drewN ?_ _ | refine blk_drew ?_ | refine blk_alloc ?_ _)); exact BK491.out⟩, ⟨by (with_reducible repeat (first | refine blk_drewN ?_ _ | refine blk_drew ?_ | refine blk_alloc ?_ _)); refine blk_far ?_ NB492_491.out _; (with_reducible repeat (first | refine blk_drewN ?_ _ | refine blk_drew ?_ | refine blk_alloc ?_ _)); refine blk_far ?_ NB492_491.out _; (with_reducible repeat (first | refine blk_drewN ?_ _ | refine blk_drew ?_ | refine blk_alloc ?_ _)); exact BK492.out⟩, ⟨zt GE491.out GE492.out⟩⟩
     rw [if_neg c9] at H
     have c9b0 : decide (0 < x5_2) = false := decide_eq_false c9
     clear c9
     simp only [Option.some.injEq, Prod.mk.injEq] at H
     obtain ⟨rfl, rfl⟩ := H
     have hnb12 := NB491_492.out
     have hnc12 := NB492_491.out
     have hcz13_0 : wr.cell? ⟨gb491, 0, none⟩ = some (.int .i64 x492000_2) := (blk_cell BK491.out 0).trans rfl
     have hcz13_1 : wr.cell? ⟨gb491, 1, none⟩ = some (.int .i64 x492001_2) := (blk_cell BK491.out 1).trans rfl
     have hfz13_0 := blk_frozen BK491.out 0
     have hfz13_1 := blk_frozen BK491.out 1
     have hcz14_0 : wr.cell? ⟨gb492, 0, none⟩ = some (.int .i64 0) := (blk_cell BK492.out 0).trans rfl
     have hcz14_1 : wr.cell? ⟨gb492, 1, none⟩ = some (.int .i64 0) := (blk_cell BK492.out 1).trans rfl
     have hfz14_0 := blk_frozen BK492.out 0
     have hfz14_1 := blk_frozen BK492.out 1
     go_wp2
     refine bodyPost_ret (results_cell_row rfl _ _ gb492 25 #[.int .i64 x492000_2, .int .i64 x492001_2] (0, 0) _ rfl (by (with_reducible repeat (first | refine blk_drewN ?_ _ | refine blk_drew ?_ | refine blk_alloc ?_ _)); refine blk_put (cs := #[.int .i64 x492000_2, .int .i64 0]) ?_ 1 _ rfl; (with_reducible repeat (first | refine blk_drewN ?_ _ | refine blk_drew ?_ | refine blk_alloc ?_ _)); refine blk_put (cs := #[.int .i64 0, .int .i64 0]) ?_ 0 _ rfl; (with_reducible repeat (first | refine blk_drewN ?_ _ | refine blk_drew ?_ | refine blk_alloc ?_ _)); exact BK492.out) Tryz.underlying25 rfl (by kernel_rfl)) rfl ?_
     exact ⟨zw, zt GE491.out GE492.out⟩
def spec_l02Sort.l0 : Nat → List (S25) → List (S25) → Int → Option ((List (S25)))
 | 0, _, _, _ => none
 | k + 1, x0, x3, x4 => if x4 < (x0.length : Int) then (if 0 ≤ x4 then ((spec_l02Insert.f k x3 ((rd_T25 x0 x4).f0) ((rd_T25 x0 x4).f1)).bind fun t497 => (spec_l02Sort.l0 k x0 t497 (wrap64 (x4 + 1)))) else (none)) else (some x3)
def spec_l02Sort.f (k : Nat) (l0 : List (S25)) : Option ((List (S25))) := spec_l02Sort.l0 k l0 (([] : List (S25))) 0
theorem spec_l02Sort.calls (k : Nat) (A0 : Option Addr) (c0 : Nat) (l0 : List (S25)) (r : List (S25)) (w : World) (hr0 : Kd.C k25 w A0 l0.length l0) (hc0 : l0.length ≤ c0) (h : spec_l02Sort.f k l0 = some r) :
  Calls Tryz.prog 70 #[.slice A0 l0.length c0] w fun e w' => ∃ v0_ : Value, e = .returned (v0_) ∧ Kd.R k25 25 w' w.heap.size (fun _ => True) v0_ r ∧ Below w.heap.size w w' := by
 have hu25 := Tryz.underlying25
 have HR0 := aM hr0
 have HC0 := aM hc0
 clear hr0 hc0
 have HB := aM (Below.refl w.heap.size w)
 have H : (spec_l02Sort.l0 k l0 (([] : List (S25))) 0) = some r := h
 clear h
 obtain ⟨y493, hy493⟩ : ∃ y_ : List (S25), y_ = (([] : List (S25))) := ⟨_, rfl⟩
 replace H : (spec_l02Sort.l0 k l0 y493 0) = some r := zy H hy493
 have Ny493 := aM hy493
 clear hy493
 have H' := aM H
 clear H
 go_enter Tryz.func70, Tryz.ntmps70
 go_wp2_with (first | ((with_reducible refine gate_dst (N := 5) rfl ?_); refine Kd.R_lit k25 _ 25 ?hg (N := 5) ?hd (xs := ([] : List (S25))) (inner := []) (ok := fun _ => True) (okp := fun _ => True) ?hr ?hp (fun _ hk => hk) trivial (Below.refl _ _) (Nat.le_refl _) (by simp) ?_; (case hd => rfl); (case hg => rfl); (case hr => first | (go_simp; done) | (go_simp; rfl)); (case hp => exact (Reps.none _ _)); intro v494 w2 ho3 hb hg_ hnew_; clear hg_ hnew_; (first | rw [← Ny493.out] at ho3 | (simp only [Int.reduceToNat] at ho3; rw [← Ny493.out] at ho3)); have n0_ := aM (Kd.R_lower ho3 (below_size zb)); have n1_ := aM (below_step zb hb); clear HB; have HO495 := n0_; have HB := n1_; clear n0_ n1_; clear hb ho3))
 go_loopg [3, 4] k (fun kq v3 v4 w' => ∃ (x3_1 : List (S25)) (x4_1 : Int), v4 = .int .i64 x4_1 ∧ Aside0 (spec_l02Sort.l0 kq l0 x3_1 x4_1 = some r) ∧ Aside0 (kq ≤ k) ∧ Aside0 (Kd.R k25 25 w' w.heap.size (fun _ => True) v3 x3_1) ∧ Aside0 (Below w.heap.size w w'))
 case atStart => exact ⟨(y493), (0), zr, H', ⟨Nat.le_refl _⟩, ⟨mR_ HO495.out⟩, ⟨zb⟩⟩
 case round =>
  clear H'
  try clear p2
  obtain ⟨x3_1, x4_1, rfl, HA, HK1, HO_3, HB⟩ := hrel
  cases gk with
  | zero => exact absurd HA.out (by simp [spec_l02Sort.l0])
  | succ k1 =>
   have H := HA.out
   clear HA
   simp only [spec_l02Sort.l0] at H
   by_cases c4 : x4_1 < (l0.length : Int)
   rotate_left
   ·rw [if_neg c4] at H
    have c4b0 : decide (x4_1 < (l0.length : Int)) = false := decide_eq_false c4
    clear c4
    obtain rfl := Option.some.inj H
    go_wp2
    go_ret
    exact ⟨_, zw, mR_ HO_3.out, zb⟩
   rw [if_pos c4] at H
   have c4b0 : decide (x4_1 < (l0.length : Int)) = true := decide_eq_true c4
   clear c4
   by_cases c5 : 0 ≤ x4_1
   rotate_left
   ·rw [if_neg c5] at H
    exact absurd H (by simp)
   rw [if_pos c5] at H
   have c5b0 : decide (0 ≤ x4_1) = true := decide_eq_true c5
   clear c5
   replace H := Option.bind_eq_some_iff.mp H
   obtain ⟨t497, A60, H⟩ := H
   replace H : (spec_l02Sort.l0 k1 l0 t497 (wrap64 (x4_1 + 1))) = some r := H
   have A6 := aM A60
   clear A60
   have H' := aM H
   clear H
   have p496 : 0 ≤ (x4_1 : Int) := of_decide_eq_true za
   have q496 : x4_1 < (l0.length : Int) := of_decide_eq_true za
   obtain ⟨ad496, e496, hx496_0, hx496_1⟩ := at_T25 HR0.out x4_1 p496 q496
   cases e496
   replace hx496_0 := (HB.out.cell (World.block_lt_of_cell? w _ hx496_0)).trans hx496_0
   replace hx496_1 := (HB.out.cell (World.block_lt_of_cell? w _ hx496_1)).trans hx496_1
   replace p496 := eq_true p496
   replace q496 := eq_true q496
   obtain ⟨Ao7, co7, eo7⟩ := Kd.R_slice HO_3.out
   subst eo7
   go_wp2_with (first | ((with_reducible refine gate_callee (f := 42) rfl ?_); refine goesL_ (some 17) rfl rfl Tryz.func42 (by kernel_rfl) rfl #[.slice Ao7 x3_1.length co7, .agg #[.int .i64 ((rd_T25 l0 x4_1).f0), .int .i64 ((rd_T25 l0 x4_1).f1)]] rfl zm ?_; (with_reducible refine (spec_l02Insert.calls k1 _ _ x3_1 ((rd_T25 l0 x4_1).f0) ((rd_T25 l0 x4_1).f1) t497 _ ?side1 ?side2 A6.out).mono ?_); (case side1 => repeat (first | exact (Kd.R_reads' HO_3.out).2.2 | (with_reducible refine Kd.C_alloc ?_ _) | (with_reducible refine Kd.C_drewN ?_ _) | (with_reducible refine Kd.C_drew ?_))); (case side2 => exact (Kd.R_reads' HO_3.out).2.1); rintro e w8 ⟨v498, rfl, ho0, hb⟩; refine ⟨_, rfl, ?_⟩; have n0_ := aM (Kd.R_elder' (mR_ HO_3.out) (Kd.R_base ho0) hb); have n1_ := aM (Kd.R_lower (Kd.R_new' ho0 (Kd.R_lt (mR_ HO_3.out))) (below_size zb)); have n2_ := aM (below_step zb hb); clear HO_3; clear HB; have HO_3 := n0_; have HO499 := n1_; have HB := n2_; clear n0_ n1_ n2_; (try clear hb); (try clear hb2); (try clear hk); (try clear hi); (try clear ho0)))
   go_roundg k1
   case measure => have := HK1.out; omega
   case rel => exact ⟨(t497), (wrap64 (x4_1 + 1)), zr, H', ⟨by have := HK1.out; omega⟩, ⟨by (with_reducible repeat (first | apply Kd.R_alloc | apply Kd.R_drewN | apply Kd.R_drew)); exact Kd.R_mono HO499.out (fun _ hk => trivial)⟩, ⟨zb⟩⟩
def spec_l07Form.l0 : Nat → Int → List (S25) → Int → List (S25) → Int → Option ((List (S25)))
 | 0, _, _, _, _, _ => none
 | k + 1, x0, x1, x2, x7, x8 => if x8 < (x1.length : Int) then (if 0 ≤ x8 then ((spec_l07Turn.f k ((rd_T25 x1 x8).f0) ((rd_T25 x1 x8).f1) x2).bind fun bt504 => (if x7.length < 8796093022208 then (spec_l07Form.l0 k x0 x1 x2 (x7 ++ [(⟨bt504.1, bt504.2⟩ : S25)]) (wrap64 (x8 + 1))) else (none))) else (none)) else ((spec_l02Sort.f k x7).bind fun t509 => ((spec_l07Normal.f k x0 t509).bind fun t512 => (some t512)))
def spec_l07Form.f (k : Nat) (a0 : Int) (l1 : List (S25)) (a2 : Int) : Option ((List (S25))) := spec_l07Form.l0 k a0 l1 a2 (([] : List (S25))) 0
theorem spec_l07Form.calls (k : Nat) (a0 : Int) (A1 : Option Addr) (c1 : Nat) (l1 : List (S25)) (a2 : Int) (r : List (S25)) (w : World) (hr1 : Kd.C k25 w A1 l1.length l1) (hc1 : l1.length ≤ c1) (h : spec_l07Form.f k a0 l1 a2 = some r) :
  Calls Tryz.prog 58 #[.int .i64 a0, .slice A1 l1.length c1, .int .i64 a2] w fun e w' => ∃ v0_ : Value, e = .returned (v0_) ∧ Kd.R k25 25 w' w.heap.size (fun _ => True) v0_ r ∧ Below w.heap.size w w' := by
 have hu25 := Tryz.underlying25
 have HR1 := aM hr1
 have HC1 := aM hc1
 clear hr1 hc1
 have HB := aM (Below.refl w.heap.size w)
 have H : (spec_l07Form.l0 k a0 l1 a2 (([] : List (S25))) 0) = some r := h
 clear h
 obtain ⟨y500, hy500⟩ : ∃ y_ : List (S25), y_ = (([] : List (S25))) := ⟨_, rfl⟩
 replace H : (spec_l07Form.l0 k a0 l1 a2 y500 0) = some r := zy H hy500
 have Ny500 := aM hy500
 clear hy500
 have H' := aM H
 clear H
 go_enter Tryz.func58, Tryz.ntmps58
 go_wp2_with (first | ((with_reducible refine gate_dst (N := 9) rfl ?_); refine Kd.R_lit k25 _ 25 ?hg (N := 9) ?hd (xs := ([] : List (S25))) (inner := []) (ok := fun _ => True) (okp := fun _ => True) ?hr ?hp (fun _ hk => hk) trivial (Below.refl _ _) (Nat.le_refl _) (by simp) ?_; (case hd => rfl); (case hg => rfl); (case hr => first | (go_simp; done) | (go_simp; rfl)); (case hp => exact (Reps.none _ _)); intro v501 w4 ho5 hb hg_ hnew_; clear hg_ hnew_; (first | rw [← Ny500.out] at ho5 | (simp only [Int.reduceToNat] at ho5; rw [← Ny500.out] at ho5)); have n0_ := aM (Kd.R_lower ho5 (below_size zb)); have n1_ := aM (below_step zb hb); clear HB; have HO502 := n0_; have HB := n1_; clear n0_ n1_; clear hb ho5))
 go_loopg [7, 8] k (fun kq v7 v8 w' => ∃ (x7_1 : List (S25)) (x8_1 : Int), v8 = .int .i64 x8_1 ∧ Aside0 (spec_l07Form.l0 kq a0 l1 a2 x7_1 x8_1 = some r) ∧ Aside0 (kq ≤ k) ∧ Aside0 (Kd.R k25 25 w' w.heap.size (fun _ => True) v7 x7_1) ∧ Aside0 (Below w.heap.size w w'))
 case atStart => exact ⟨(y500), (0), zr, H', ⟨Nat.le_refl _⟩, ⟨mR_ HO502.out⟩, ⟨zb⟩⟩
 case round =>
  clear H'
  try clear c1
  try clear p2
  try clear c5
  obtain ⟨x7_1, x8_1, rfl, HA, HK1, HO_7, HB⟩ := hrel
  cases gk with
  | zero => exact absurd HA.out (by simp [spec_l07Form.l0])
  | succ k1 =>
   have H := HA.out
   clear HA
   simp only [spec_l07Form.l0] at H
   by_cases c6 : x8_1 < (l1.length : Int)
   rotate_left
   ·rw [if_neg c6] at H
    have c6b0 : decide (x8_1 < (l1.length : Int)) = false := decide_eq_false c6
    clear c6
    replace H := Option.bind_eq_some_iff.mp H
    obtain ⟨t509, A120, H⟩ := H
    replace H : ((spec_l07Normal.f k1 a0 t509).bind fun t512 => (some t512)) = some r := H
    have A12 := aM A120
    clear A120
    replace H := Option.bind_eq_some_iff.mp H
    obtain ⟨t512, A130, H⟩ := H
    replace H : (some t512) = some r := H
    have A13 := aM A130
    clear A130
    obtain rfl := Option.some.inj H
    obtain ⟨Ao14, co14, eo14⟩ := Kd.R_slice HO_7.out
    subst eo14
    go_wp2_with (first | ((with_reducible refine gate_callee (f := 70) rfl ?_); refine goesL_ (some 27) rfl rfl Tryz.func70 (by kernel_rfl) rfl #[.slice Ao14 x7_1.length co14] rfl zm ?_; (with_reducible refine (spec_l02Sort.calls k1 _ _ x7_1 t509 _ ?side1 ?side2 A12.out).mono ?_); (case side1 => repeat (first | exact (Kd.R_reads' HO_7.out).2.2 | (with_reducible refine Kd.C_alloc ?_ _) | (with_reducible refine Kd.C_drewN ?_ _) | (with_reducible refine Kd.C_drew ?_))); (case side2 => exact (Kd.R_reads' HO_7.out).2.1); rintro e w15 ⟨v510, rfl, ho0, hb⟩; refine ⟨_, rfl, ?_⟩; have n0_ := aM (Kd.R_elder' (mR_ HO_7.out) (Kd.R_base ho0) hb); have n1_ := aM (Kd.R_lower (Kd.R_new' ho0 (Kd.R_lt (mR_ HO_7.out))) (below_size zb)); have n2_ := aM (below_step zb hb); clear HO_7; clear HB; have HO_7 := n0_; have HO511 := n1_; have HB := n2_; clear n0_ n1_ n2_; (try clear hb); (try clear hb2); (try clear hk); (try clear hi); (try clear ho0); obtain ⟨Ao16, co16, eo16⟩ := Kd.R_slice HO511.out; subst eo16) | ((with_reducible refine gate_callee (f := 41) rfl ?_); refine goesL_ (some 28) rfl rfl Tryz.func41 (by kernel_rfl) rfl #[.int .i64 a0, .slice Ao16 t509.length co16] rfl zm ?_; (with_reducible refine (spec_l07Normal.calls k1 a0 _ _ t509 t512 _ ?side1 ?side2 A13.out).mono ?_); (case side1 => repeat (first | exact (Kd.R_reads' HO511.out).2.2 | (with_reducible refine Kd.C_alloc ?_ _) | (with_reducible refine Kd.C_drewN ?_ _) | (with_reducible refine Kd.C_drew ?_))); (case side2 => exact (Kd.R_reads' HO511.out).2.1); rintro e w17 ⟨v513, rfl, ho0, hb⟩; refine ⟨_, rfl, ?_⟩; have n0_ := aM (Kd.R_elder' (mR_ HO_7.out) (Kd.R_base ho0) hb); have n1_ := aM (Kd.R_elder' (mR_ HO511.out) (Kd.R_base ho0) hb); have n2_ := aM (Kd.R_lower (Kd.R_new' (Kd.R_new' ho0 (Kd.R_lt (mR_ HO_7.out))) (Kd.R_lt (mR_ HO511.out))) (below_size zb)); have n3_ := aM (below_step zb hb); clear HO_7; clear HO511; clear HB; have HO_7 := n0_; have HO511 := n1_; have HO514 := n2_; have HB := n3_; clear n0_ n1_ n2_ n3_; (try clear hb); (try clear hb2); (try clear hk); (try clear hi); (try clear ho0)))
    go_ret
    exact ⟨_, zw, by (with_reducible repeat (first | apply Kd.R_alloc | apply Kd.R_drewN | apply Kd.R_drew)); exact Kd.R_mono HO514.out (fun _ hk => trivial), zb⟩
   rw [if_pos c6] at H
   have c6b0 : decide (x8_1 < (l1.length : Int)) = true := decide_eq_true c6
   clear c6
   by_cases c7 : 0 ≤ x8_1
   rotate_left
   ·rw [if_neg c7] at H
    exact absurd H (by simp)
   rw [if_pos c7] at H
   have c7b0 : decide (0 ≤ x8_1) = true := decide_eq_true c7
   clear c7
   replace H := Option.bind_eq_some_iff.mp H
   obtain ⟨⟨t504, t505⟩, A80, H⟩ := H
   replace H : (if x7_1.length < 8796093022208 then (spec_l07Form.l0 k1 a0 l1 a2 (x7_1 ++ [(⟨t504, t505⟩ : S25)]) (wrap64 (x8_1 + 1))) else (none)) = some r := H
   have A8 := aM A80
   clear A80
   by_cases c9 : x7_1.length < 8796093022208
   rotate_left
   ·rw [if_neg c9] at H
    exact absurd H (by simp)
   rw [if_pos c9] at H
   have LMc9 := aM c9
   clear c9
   obtain ⟨y506, hy506⟩ : ∃ y_ : List (S25), y_ = (x7_1 ++ [(⟨t504, t505⟩ : S25)]) := ⟨_, rfl⟩
   replace H : (spec_l07Form.l0 k1 a0 l1 a2 y506 (wrap64 (x8_1 + 1))) = some r := zy H hy506
   have Ny506 := aM hy506
   clear hy506
   have H' := aM H
   clear H
   have p503 : 0 ≤ (x8_1 : Int) := of_decide_eq_true za
   have q503 : x8_1 < (l1.length : Int) := of_decide_eq_true za
   obtain ⟨ad503, e503, hx503_0, hx503_1⟩ := at_T25 HR1.out x8_1 p503 q503
   cases e503
   replace hx503_0 := (HB.out.cell (World.block_lt_of_cell? w _ hx503_0)).trans hx503_0
   replace hx503_1 := (HB.out.cell (World.block_lt_of_cell? w _ hx503_1)).trans hx503_1
   replace p503 := eq_true p503
   replace q503 := eq_true q503
   go_wp2_with (first | ((with_reducible refine gate_callee (f := 69) rfl ?_); refine goesL_ (some 22) rfl rfl Tryz.func69 (by kernel_rfl) rfl #[.agg #[.int .i64 ((rd_T25 l1 x8_1).f0), .int .i64 ((rd_T25 l1 x8_1).f1)], .int .i64 a2] rfl zm ?_; (with_reducible refine (spec_l07Turn.calls k1 ((rd_T25 l1 x8_1).f0) ((rd_T25 l1 x8_1).f1) a2 t504 t505 _ A8.out).mono ?_); rintro e w10 ⟨rfl, hb⟩; refine ⟨_, rfl, ?_⟩; have n0_ := aM (Kd.R_below (mR_ HO_7.out) hb); have n1_ := aM (below_step zb hb); clear HO_7; clear HB; have HO_7 := n0_; have HB := n1_; clear n0_ n1_; (try clear hb); (try clear hb2); (try clear hk); (try clear hi)) | ((with_reducible refine gate_builtin (b := .append) (xs := #[.tmp 16, .tmp 23]) rfl ?_); at_builtin; refine Kd.R_append k25 (w0 := w) w.heap.size rfl (.tmp 16) (.tmp 23) 27 25 (.agg #[(.int .i64 0), (.int .i64 0)]) 16 rfl Tryz.underlying27 info25 rfl (by decide) (by omega) u7 x7_1 (⟨t504, t505⟩ : S25) [.int .i64 t504, .int .i64 t505] (fun _ => True) (fun _ => False) rfl rfl ?aP (fun _ hk => hk.elim) ?aF ?aO ?aB ?aS ?aL ?_; (case aP => exact k25_mkM _ _ _ (⟨t504, t505⟩ : S25)); (case aB => exact zb); (case aF => exact (fun _ _ => trivial)); (case aO => exact (mR_ HO_7.out)); (case aS => exact (below_size zb)); (case aL => have := LMc9.out; omega); intro v507 w11 ho hb hg hat; rw [← Ny506.out] at ho; have n0_ := aM (hb); have n1_ := aM (ho); clear HB; clear HO_7; have HB := n0_; have HO508 := n1_; clear n0_ n1_; clear ho hb hg hat))
   go_roundg k1
   case measure => have := HK1.out; omega
   case rel => exact ⟨(y506), (wrap64 (x8_1 + 1)), zr, H', ⟨by have := HK1.out; omega⟩, ⟨mR_ HO508.out⟩, ⟨zb⟩⟩
end Go.Proofs.YtlnliahadgmbcaaGreat.F
end
section
namespace Go.Proofs.YtlnliahadgmbcaaGreat.F
open Go.RowKit Go.Proofs.YtlnliahadgmbcaaGreatW.PrintWords Go.Proofs.YtlnliahadgmbcaaGreatW.PrintLast Go.Proofs.YtlnliahadgmbcaaGreatW.PrintMore
attribute [local go_sem] max2_int min2_int max_two min_two max_three min_three max_four min_four
set_option linter.unusedVariables false
set_option linter.unusedSimpArgs false
def spec_IsShape.l0 : Nat → List (S25) → Int → Option (Bool)
 | 0, _, _ => none
 | k + 1, x0, x3 => if x3 < (x0.length : Int) then (if 0 ≤ x3 then ((spec_l02Cell.f ((rd_T25 x0 x3).f0) ((rd_T25 x0 x3).f1)).bind fun t517 => (if t517 = true then (if x3 > 0 then (if 0 ≤ (wrap64 (x3 - 1)) then (if (wrap64 (x3 - 1)) < (x0.length : Int) then ((spec_l02Less.f ((rd_T25 x0 (wrap64 (x3 - 1))).f0) ((rd_T25 x0 (wrap64 (x3 - 1))).f1) ((rd_T25 x0 x3).f0) ((rd_T25 x0 x3).f1)).bind fun t520 => (if t520 = true then (spec_IsShape.l0 k x0 (wrap64 (x3 + 1))) else (some false))) else (none)) else (none)) else (spec_IsShape.l0 k x0 (wrap64 (x3 + 1)))) else (some false))) else (none)) else ((spec_l01In.f (x0.length : Int) 1 40).bind fun t515 => (some t515))
def spec_IsShape.f (k : Nat) (l0 : List (S25)) : Option (Bool) := spec_IsShape.l0 k l0 0
def spec_IsShape.T4 : Bool × List (List Nat × List Nat) := (true, [([], []), ([], []), ([0, 1], [0, 1]), ([2], [2]), ([3], [3]), ([4], [4]), ([5, 4], [5]), ([6], [6]), ([7, 6], [6, 7]), ([8, 6, 6], [6, 8]), ([9], [9]), ([9], [9]), ([11, 9], [9, 11]), ([10, 12, 9], [9, 10, 12]), ([13, 9], [9, 13]), ([9], [9]), ([9], [9]), ([15, 16, 9], [9, 15, 16]), ([17, 9], [9, 17]), ([14, 18, 9, 9], [9, 14, 18]), ([19, 9], [9, 19]), ([9, 20, 6], [6, 9, 20]), ([6, 21], [6, 21])])
def spec_IsShape.B4 : List Nat := [0, 0, 3, 7, 15, 31, 63, 127, 255, 511, 1023, 1023, 3071, 8191, 16383, 1023, 1023, 99327, 230399, 524287, 1048575, 2097151, 4194303]
theorem spec_IsShape.tab4 : rtab .any (opsOf Tryz.f59 4) = spec_IsShape.T4 := by kernel_rfl
theorem spec_IsShape.bits4 : waitsOk spec_IsShape.T4.2 spec_IsShape.B4 = true := by kernel_rfl
end Go.Proofs.YtlnliahadgmbcaaGreat.F
end
