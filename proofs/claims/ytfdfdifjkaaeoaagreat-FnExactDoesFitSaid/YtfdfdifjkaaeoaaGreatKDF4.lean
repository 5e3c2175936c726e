/- The row of FnExactDoesFit, with what it needs: text 5 of 12. -/
import Derived.Test.YtfdfdifjkaaeoaaGreatKDF3
set_option maxHeartbeats 8000000
set_option maxRecDepth 100000
section
namespace Go.Proofs.YtfdfdifjkaaeoaaGreat.F
open Go.RowKit Go.Proofs.YtfdfdifjkaaeoaaGreatW.PrintWords Go.Proofs.YtfdfdifjkaaeoaaGreatW.PrintLast Go.Proofs.YtfdfdifjkaaeoaaGreatW.PrintMore
attribute [local go_sem] max2_int min2_int max_two min_two max_three min_three max_four min_four
set_option linter.unusedVariables false
set_option linter.unusedSimpArgs false
def spec_l02Insert.l0 : Nat → List (S58) → List (S58) → Bool → Int → Int → Int → Option ((List (S58)))
 | 0, _, _, _, _, _, _ => none
 | k + 1, x0, x5, x6, x7, x219000, x219001 => if x7 < (x0.length : Int) then (if x6 = true then (if 0 ≤ x7 then (if x5.length < 8796093022208 then (spec_l02Insert.l0 k x0 (x5 ++ [(⟨(rd_T58 x0 x7).f0, (rd_T58 x0 x7).f1⟩ : S58)]) x6 (wrap64 (x7 + 1)) x219000 x219001) else (none)) else (none)) else (if 0 ≤ x7 then ((spec_l02Less.f x219000 x219001 ((rd_T58 x0 x7).f0) ((rd_T58 x0 x7).f1)).bind fun t227 => (if t227 = true then (if x5.length < 8796093022208 then ((some (x5 ++ [(⟨x219000, x219001⟩ : S58)] : List (S58))).bind fun y228 => (if y228.length < 8796093022208 then (spec_l02Insert.l0 k x0 (y228 ++ [(⟨(rd_T58 x0 x7).f0, (rd_T58 x0 x7).f1⟩ : S58)]) true (wrap64 (x7 + 1)) x219000 x219001) else (none))) else (none)) else (if x5.length < 8796093022208 then (spec_l02Insert.l0 k x0 (x5 ++ [(⟨(rd_T58 x0 x7).f0, (rd_T58 x0 x7).f1⟩ : S58)]) x6 (wrap64 (x7 + 1)) x219000 x219001) else (none)))) else (none))) else (if x6 = true then (some x5) else (if x5.length < 8796093022208 then (some (x5 ++ [(⟨x219000, x219001⟩ : S58)])) else (none)))
def spec_l02Insert.f (k : Nat) (l0 : List (S58)) (a1_0 : Int) (a1_1 : Int) : Option ((List (S58))) := spec_l02Insert.l0 k l0 (([] : List (S58))) false 0 a1_0 a1_1
def spec_l02Insert.T6 : Bool × List (List Nat × List Nat) := (true, [([], []), ([0], [0]), ([1], [1]), ([2], [2]), ([2], [2]), ([2], [2]), ([4, 5, 2], [2, 4, 5]), ([6, 2], [2, 6]), ([3, 7, 2, 2], [2, 3, 7]), ([2, 8], [2, 8])])
def spec_l02Insert.B6 : List Nat := [0, 1, 3, 7, 7, 7, 55, 119, 255, 511]
theorem spec_l02Insert.tab6 : rtab .any (opsOf Tryz.f85 6) = spec_l02Insert.T6 := by kernel_rfl
theorem spec_l02Insert.bits6 : waitsOk spec_l02Insert.T6.2 spec_l02Insert.B6 = true := by kernel_rfl
theorem spec_l02Insert.calls (k : Nat) (A0 : Option Addr) (c0 : Nat) (l0 : List (S58)) (a1_0 : Int) (a1_1 : Int) (r : List (S58)) (w : World) (hr0 : Kd.C k58 w A0 l0.length l0) (hc0 : l0.length ≤ c0) (h : spec_l02Insert.f k l0 a1_0 a1_1 = some r) :
  Calls Tryz.prog 85 #[.slice A0 l0.length c0, .agg #[.int .i64 a1_0, .int .i64 a1_1]] w fun e w' => ∃ v0_ : Value, e = .returned (v0_) ∧ Kd.R k58 58 w' w.heap.size (fun _ => True) v0_ r ∧ Below w.heap.size w w' := by
 have hu58 := Tryz.underlying58
 have HR0 := aM hr0
 have HC0 := aM hc0
 clear hr0 hc0
 have HB := aM (Below.refl w.heap.size w)
 have H : (spec_l02Insert.l0 k l0 (([] : List (S58))) false 0 a1_0 a1_1) = some r := h
 clear h
 obtain ⟨y219, hy219⟩ : ∃ y_ : List (S58), y_ = (([] : List (S58))) := ⟨_, rfl⟩
 replace H : (spec_l02Insert.l0 k l0 y219 false 0 a1_0 a1_1) = some r := zy H hy219
 have Ny219 := aM hy219
 clear hy219
 have H' := aM H
 clear H
 go_enter Tryz.func85, Tryz.ntmps85
 go_wp2_with (first | ((with_reducible refine gate_dst (N := 3) rfl ?_); refine zx 3 #[.int .i64 a1_0, .int .i64 a1_1] 58 ?_; intro gb218 hg w3 hbox hb; have n0_ := aM (below_step zb hb); have n1_ := aM (hbox); have n2_ := aM ((ze : w.heap.size ≤ gb218)); have n3_ := aM ((ze : w.heap.size ≤ gb218)); clear HB; have HB := n0_; have BK218 := n1_; have GW218 := n2_; have GE218 := n3_; clear n0_ n1_ n2_ n3_; clear hb hbox hg) | ((with_reducible refine gate_dst (N := 8) rfl ?_); refine Kd.R_lit k58 _ 58 ?hg (N := 8) ?hd (xs := ([] : List (S58))) (inner := []) (ok := fun _ => True) (okp := fun _ => True) ?hr ?hp (fun _ hk => hk) trivial (Below.refl _ _) (Nat.le_refl _) (by simp) ?_; (case hd => rfl); (case hg => rfl); (case hr => first | (go_simp; done) | (go_simp; rfl)); (case hp => exact (Reps.none _ _)); intro v220 w4 ho5 hb hg_ hnew_; clear hg_ hnew_; (first | rw [← Ny219.out] at ho5 | (simp only [Int.reduceToNat] at ho5; rw [← Ny219.out] at ho5)); have n0_ := aM (Kd.R_lower (Kd.R_newB ho5 (g := gb218) (o := .cells #[.int .i64 a1_0, .int .i64 a1_1] 58 (0, 0)) (mB_ BK218.out)) (below_size (zs GE218.out))); have n1_ := aM (blk_below (g := gb218) (o := .cells #[.int .i64 a1_0, .int .i64 a1_1] 58 (0, 0)) (mB_ BK218.out) hb); have n2_ := aM (below_step (zs GE218.out) hb); clear BK218 HB; have HO221 := n0_; have BK218 := n1_; have HB := n2_; clear n0_ n1_ n2_; clear hb ho5))
 go_loopg [5, 6, 7] k (fun kq v5 v6 v7 w' => ∃ (x5_1 : List (S58)) (x6_1 : Bool) (x7_1 : Int), v6 = .bool x6_1 ∧ v7 = .int .i64 x7_1 ∧ Aside0 (spec_l02Insert.l0 kq l0 x5_1 x6_1 x7_1 a1_0 a1_1 = some r) ∧ Aside0 (kq ≤ k) ∧ Aside0 (Kd.R k58 58 w' w.heap.size (fun k_ => k_ ≠ gb218) v5 x5_1) ∧ Aside0 (w'.heap[gb218]? = some (.cells #[.int .i64 a1_0, .int .i64 a1_1] 58 (0, 0))) ∧ Aside0 (Below w.heap.size w w'))
 case atStart => exact ⟨(y219), (false), (0), zr, zr, H', ⟨Nat.le_refl _⟩, ⟨zd1 HO221.out⟩, ⟨mB_ BK218.out⟩, ⟨zs GE218.out⟩⟩
 case round =>
  clear H'
  try clear p2
  obtain ⟨x5_1, x6_1, x7_1, rfl, rfl, HA, HK1, HO_5, BK218, HB⟩ := hrel
  cases gk with
  | zero => exact absurd HA.out (by simp [spec_l02Insert.l0])
  | succ k1 =>
   have H := HA.out
   clear HA
   simp only [spec_l02Insert.l0] at H
   by_cases c6 : x7_1 < (l0.length : Int)
   rotate_left
   ·rw [if_neg c6] at H
    have c6b0 : decide (x7_1 < (l0.length : Int)) = false := decide_eq_false c6
    clear c6
    by_cases c26 : x6_1 = true
    ·subst c26
     have H1 : (some x5_1) = some r := by rw [if_pos rfl] at H; exact H
     clear H
     have H := H1
     clear H1
     obtain rfl := Option.some.inj H
     go_wp2
     go_ret
     exact ⟨_, zw, zd0 HO_5.out, zs GE218.out⟩
    replace c26 := Bool.eq_false_iff.mpr c26
    subst c26
    have H1 : (if x5_1.length < 8796093022208 then (some (x5_1 ++ [(⟨a1_0, a1_1⟩ : S58)])) else (none)) = some r := by rw [if_neg (show ¬ (false = true) by decide)] at H; exact H
    clear H
    have H := H1
    clear H1
    by_cases c27 : x5_1.length < 8796093022208
    rotate_left
    ·rw [if_neg c27] at H
     exact absurd H (by simp)
    rw [if_pos c27] at H
    have LMc27 := aM c27
    clear c27
    obtain ⟨y239, hy239⟩ : ∃ y_ : List (S58), y_ = (x5_1 ++ [(⟨a1_0, a1_1⟩ : S58)]) := ⟨_, rfl⟩
    replace H : (some y239) = some r := zy H hy239
    have Ny239 := aM hy239
    clear hy239
    obtain rfl := Option.some.inj H
    have hcz28_0 : wr.cell? ⟨gb218, 0, none⟩ = some (.int .i64 a1_0) := (blk_cell BK218.out 0).trans rfl
    have hcz28_1 : wr.cell? ⟨gb218, 1, none⟩ = some (.int .i64 a1_1) := (blk_cell BK218.out 1).trans rfl
    have hfz28_0 := blk_frozen BK218.out 0
    have hfz28_1 := blk_frozen BK218.out 1
    go_wp2_with (first | ((with_reducible refine gate_builtin (b := .append) (xs := #[.tmp 38, .tmp 40]) rfl ?_); at_builtin; refine Kd.R_append k58 (w0 := w) w.heap.size rfl (.tmp 38) (.tmp 40) 28 58 (.agg #[(.int .i64 0), (.int .i64 0)]) 16 rfl Tryz.underlying28 info58 rfl (by decide) (by omega) u5 x5_1 (⟨a1_0, a1_1⟩ : S58) [.int .i64 a1_0, .int .i64 a1_1] (fun k_ => k_ ≠ gb218) (fun _ => False) rfl rfl ?aP (fun _ hk => hk.elim) ?aF ?aO ?aB ?aS ?aL ?_; (case aP => exact k58_mkM _ _ _ (⟨a1_0, a1_1⟩ : S58)); (case aB => exact (zs GE218.out)); (case aF => exact (fun k_ hk => Kd.freshB (g := gb218) (o := .cells #[.int .i64 a1_0, .int .i64 a1_1] 58 (0, 0)) (mB_ BK218.out) k_ hk)); (case aO => exact (mR_ HO_5.out)); (case aS => exact (below_size (zs GE218.out))); (case aL => have := LMc27.out; omega); intro v240 w29 ho hb hg hat; rw [← Ny239.out] at ho; have n0_ := aM (blk_grown (g := gb218) (o := .cells #[.int .i64 a1_0, .int .i64 a1_1] 58 (0, 0)) (mB_ BK218.out) hg (Kd.R_away HO_5.out (fun _ hk => hk))); have n1_ := aM (hb); have n2_ := aM (ho); clear BK218 HB HO_5; have BK218 := n0_; have HB := n1_; have HO241 := n2_; clear n0_ n1_ n2_; clear ho hb hg hat))
    go_ret
    exact ⟨_, zw, zd0 HO241.out, zs GE218.out⟩
   rw [if_pos c6] at H
   have c6b0 : decide (x7_1 < (l0.length : Int)) = true := decide_eq_true c6
   clear c6
   by_cases c7 : x6_1 = true
   ·subst c7
    have H1 : (if 0 ≤ x7_1 then (if x5_1.length < 8796093022208 then (spec_l02Insert.l0 k1 l0 (x5_1 ++ [(⟨(rd_T58 l0 x7_1).f0, (rd_T58 l0 x7_1).f1⟩ : S58)]) true (wrap64 (x7_1 + 1)) a1_0 a1_1) else (none)) else (none)) = some r := by rw [if_pos rfl] at H; exact H
    clear H
    have H := H1
    clear H1
    by_cases c8 : 0 ≤ x7_1
    rotate_left
    ·rw [if_neg c8] at H
     exact absurd H (by simp)
    rw [if_pos c8] at H
    have c8b0 : decide (0 ≤ x7_1) = true := decide_eq_true c8
    clear c8
    by_cases c9 : x5_1.length < 8796093022208
    rotate_left
    ·rw [if_neg c9] at H
     exact absurd H (by simp)
    rw [if_pos c9] at H
    have LMc9 := aM c9
    clear c9
    obtain ⟨y223, hy223⟩ : ∃ y_ : List (S58), y_ = (x5_1 ++ [(⟨(rd_T58 l0 x7_1).f0, (rd_T58 l0 x7_1).f1⟩ : S58)]) := ⟨_, rfl⟩
    replace H : (spec_l02Insert.l0 k1 l0 y223 true (wrap64 (x7_1 + 1)) a1_0 a1_1) = some r := zy H hy223
    have Ny223 := aM hy223
    clear hy223
    have H' := aM H
    clear H
    try go_wp2
    have n0_ := aM (Kd.R_drew HO_5.out)
    have n1_ := aM (blk_drew BK218.out)
    have n2_ := aM (below_drew1 HB.out)
    clear HO_5
    clear BK218
    clear HB
    have HO_5 := n0_
    have BK218 := n1_
    have HB := n2_
    clear n0_ n1_ n2_
    refine start_ (n := 10) (S := fun w' => True) (ds := []) zA52 (by kernel_rfl) rfl rfl trivial (fun hHeld => ?_); refine with_tabW spec_l02Insert.tab6 spec_l02Insert.bits6 (fun HT_ HW_ => ?_)
    generalize wr.drew = w10 at HO_5 BK218 HB hHeld ⊢
    refine zp 0 (some 15) ?_ zA53 rfl rfl (Or.inl ⟨by rfl, ?_⟩) ?_ ?_ ?_
    rotate_left
    ·intro w'
     go_simp
     with_reducible rfl
    rotate_left
    ·simp only [Act.put, xA, xB, xC, i64_w, i32_w]
     rfl
    refine zp 1 (some 16) ?_ zA54 rfl rfl (Or.inl ⟨by rfl, ?_⟩) ?_ ?_ ?_
    rotate_left
    ·intro w'
     go_simp
     with_reducible rfl
    rotate_left
    ·simp only [Act.put, xA, xB, xC, i64_w, i32_w]
     rfl
    refine zp 2 (some 17) ?_ zA55 rfl rfl (Or.inl ⟨by rfl, ?_⟩) ?_ ?_ ?_
    rotate_left
    ·intro w'
     go_simp
     with_reducible rfl
    rotate_left
    ·simp only [Act.put, xA, xB, xC, i64_w, i32_w]
     rfl
    refine zp 3 (some 18) undef zA56 rfl rfl (Or.inr ⟨by rfl, rfl⟩) ?_ ?_ ?_
    rotate_left
    ·simp only [Act.put, xA, xB, xC, i64_w, i32_w]
     rfl
    refine zp 4 (some 19) undef zA57 rfl rfl (Or.inr ⟨by rfl, rfl⟩) ?_ ?_ ?_
    rotate_left
    ·simp only [Act.put, xA, xB, xC, i64_w, i32_w]
     rfl
    refine zp 5 (some 20) undef zA58 rfl rfl (Or.inr ⟨by rfl, rfl⟩) ?_ ?_ ?_
    rotate_left
    ·simp only [Act.put, xA, xB, xC, i64_w, i32_w]
     rfl
    refine zp 6 (some 21) undef zA59 rfl rfl (Or.inr ⟨by rfl, rfl⟩) ?_ ?_ ?_
    rotate_left
    ·simp only [Act.put, xA, xB, xC, i64_w, i32_w]
     rfl
    refine zp 7 (some 22) undef zA60 rfl rfl (Or.inr ⟨by rfl, rfl⟩) ?_ ?_ ?_
    rotate_left
    ·simp only [Act.put, xA, xB, xC, i64_w, i32_w]
     rfl
    refine zp 8 (some 23) undef zA61 rfl rfl (Or.inr ⟨by rfl, rfl⟩) ?_ ?_ ?_
    rotate_left
    ·simp only [Act.put, xA, xB, xC, i64_w, i32_w]
     rfl
    refine zp 9 (some 24) ?_ zA62 rfl rfl (Or.inl ⟨by rfl, ?_⟩) ?_ ?_ ?_
    rotate_left
    ·intro w'
     go_simp
     with_reducible rfl
    rotate_left
    ·simp only [Act.put, xA, xB, xC, i64_w, i32_w]
     rfl
    refine done_ (done_of HT_.out (by kernel_rfl)) ?_
    have p222 : 0 ≤ (x7_1 : Int) := of_decide_eq_true za
    have q222 : x7_1 < (l0.length : Int) := of_decide_eq_true za
    obtain ⟨ad222, e222, hx222_0, hx222_1⟩ := at_T58 HR0.out x7_1 p222 q222
    cases e222
    replace hx222_0 := zk HB.out hx222_0
    replace hx222_1 := zk HB.out hx222_1
    replace p222 := eq_true p222
    replace q222 := eq_true q222
    try go_wp2_with (first | ((with_reducible refine gate_builtin (b := .append) (xs := #[.tmp 29, .tmp 34]) rfl ?_); at_builtin; refine Kd.R_append k58 (w0 := w) w.heap.size rfl (.tmp 29) (.tmp 34) 28 58 (.agg #[(.int .i64 0), (.int .i64 0)]) 16 rfl Tryz.underlying28 info58 rfl (by decide) (by omega) u5 x5_1 (⟨(rd_T58 l0 x7_1).f0, (rd_T58 l0 x7_1).f1⟩ : S58) [.int .i64 ((rd_T58 l0 x7_1).f0), .int .i64 ((rd_T58 l0 x7_1).f1)] (fun k_ => k_ ≠ gb218) (fun _ => False) rfl rfl ?aP (fun _ hk => hk.elim) ?aF ?aO ?aB ?aS ?aL ?_; (case aP => exact k58_mkM _ _ _ (⟨(rd_T58 l0 x7_1).f0, (rd_T58 l0 x7_1).f1⟩ : S58)); (case aB => exact (zs GE218.out)); (case aF => exact (fun k_ hk => Kd.freshB (g := gb218) (o := .cells #[.int .i64 a1_0, .int .i64 a1_1] 58 (0, 0)) (mB_ BK218.out) k_ hk)); (case aO => exact (mR_ HO_5.out)); (case aS => exact (below_size (zs GE218.out))); (case aL => have := LMc9.out; omega); intro v224 w11 ho hb hg hat; rw [← Ny223.out] at ho; have n0_ := aM (blk_grown (g := gb218) (o := .cells #[.int .i64 a1_0, .int .i64 a1_1] 58 (0, 0)) (mB_ BK218.out) hg (Kd.R_away HO_5.out (fun _ hk => hk))); have n1_ := aM (hb); have n2_ := aM (ho); clear BK218 HB HO_5; have BK218 := n0_; have HB := n1_; have HO225 := n2_; clear n0_ n1_ n2_; clear ho hb hg hat))
    go_roundg k1
    case measure => have := HK1.out; omega
    case rel => exact ⟨(y223), (true), (wrap64 (x7_1 + 1)), zr, zr, H', ⟨by have := HK1.out; omega⟩, ⟨mR_ HO225.out⟩, ⟨mB_ BK218.out⟩, ⟨zs GE218.out⟩⟩
   replace c7 := Bool.eq_false_iff.mpr c7
   subst c7
   have H1 : (if 0 ≤ x7_1 then ((spec_l02Less.f a1_0 a1_1 ((rd_T58 l0 x7_1).f0) ((rd_T58 l0 x7_1).f1)).bind fun t227 => (if t227 = true then (if x5_1.length < 8796093022208 then ((some (x5_1 ++ [(⟨a1_0, a1_1⟩ : S58)] : List (S58))).bind fun y228 => (if y228.length < 8796093022208 then (spec_l02Insert.l0 k1 l0 (y228 ++ [(⟨(rd_T58 l0 x7_1).f0, (rd_T58 l0 x7_1).f1⟩ : S58)]) true (wrap64 (x7_1 + 1)) a1_0 a1_1) else (none))) else (none)) else (if x5_1.length < 8796093022208 then (spec_l02Insert.l0 k1 l0 (x5_1 ++ [(⟨(rd_T58 l0 x7_1).f0, (rd_T58 l0 x7_1).f1⟩ : S58)]) false (wrap64 (x7_1 + 1)) a1_0 a1_1) else (none)))) else (none)) = some r := by rw [if_neg (show ¬ (false = true) by decide)] at H; exact H
   clear H
   have H := H1
   clear H1
   by_cases c12 : 0 ≤ x7_1
   rotate_left
   ·rw [if_neg c12] at H
    exact absurd H (by simp)
   rw [if_pos c12] at H
   have c12b0 : decide (0 ≤ x7_1) = true := decide_eq_true c12
   clear c12
   replace H := Option.bind_eq_some_iff.mp H
   obtain ⟨t227, A130, H⟩ := H
   replace H : (if t227 = true then (if x5_1.length < 8796093022208 then ((some (x5_1 ++ [(⟨a1_0, a1_1⟩ : S58)] : List (S58))).bind fun y228 => (if y228.length < 8796093022208 then (spec_l02Insert.l0 k1 l0 (y228 ++ [(⟨(rd_T58 l0 x7_1).f0, (rd_T58 l0 x7_1).f1⟩ : S58)]) true (wrap64 (x7_1 + 1)) a1_0 a1_1) else (none))) else (none)) else (if x5_1.length < 8796093022208 then (spec_l02Insert.l0 k1 l0 (x5_1 ++ [(⟨(rd_T58 l0 x7_1).f0, (rd_T58 l0 x7_1).f1⟩ : S58)]) false (wrap64 (x7_1 + 1)) a1_0 a1_1) else (none))) = some r := H
   have A13 := aM A130
   clear A130
   by_cases c14 : t227 = true
   rotate_left
   ·replace c14 := Bool.eq_false_iff.mpr c14
    subst c14
    have H1 : (if x5_1.length < 8796093022208 then (spec_l02Insert.l0 k1 l0 (x5_1 ++ [(⟨(rd_T58 l0 x7_1).f0, (rd_T58 l0 x7_1).f1⟩ : S58)]) false (wrap64 (x7_1 + 1)) a1_0 a1_1) else (none)) = some r := by rw [if_neg (show ¬ (false = true) by decide)] at H; exact H
    clear H
    have H := H1
    clear H1
    by_cases c22 : x5_1.length < 8796093022208
    rotate_left
    ·rw [if_neg c22] at H
     exact absurd H (by simp)
    rw [if_pos c22] at H
    have LMc22 := aM c22
    clear c22
    obtain ⟨y236, hy236⟩ : ∃ y_ : List (S58), y_ = (x5_1 ++ [(⟨(rd_T58 l0 x7_1).f0, (rd_T58 l0 x7_1).f1⟩ : S58)]) := ⟨_, rfl⟩
    replace H : (spec_l02Insert.l0 k1 l0 y236 false (wrap64 (x7_1 + 1)) a1_0 a1_1) = some r := zy H hy236
    have Ny236 := aM hy236
    clear hy236
    have H' := aM H
    clear H
    try go_wp2
    have n0_ := aM (Kd.R_drew HO_5.out)
    have n1_ := aM (blk_drew BK218.out)
    have n2_ := aM (below_drew1 HB.out)
    clear HO_5
    clear BK218
    clear HB
    have HO_5 := n0_
    have BK218 := n1_
    have HB := n2_
    clear n0_ n1_ n2_
    have p226 : 0 ≤ (x7_1 : Int) := of_decide_eq_true za
    have q226 : x7_1 < (l0.length : Int) := of_decide_eq_true za
    obtain ⟨ad226, e226, hx226_0, hx226_1⟩ := at_T58 HR0.out x7_1 p226 q226
    have hw226_1 := hx226_1
    have hw226_0 := hx226_0
    cases e226
    replace hx226_0 := zk HB.out hx226_0
    replace hx226_1 := zk HB.out hx226_1
    replace p226 := eq_true p226
    replace q226 := eq_true q226
    refine start_ (n := 10) (S := fun w' => w'.cell? ⟨gb218, 0, none⟩ = some (.int .i64 a1_0) ∧ w'.cell? ⟨gb218, 1, none⟩ = some (.int .i64 a1_1) ∧ w'.cell? (ad226.add ((x7_1).toNat * 2)) = some (.int .i64 ((rd_T58 l0 x7_1).f0)) ∧ w'.cell? ⟨(ad226.add ((x7_1).toNat * 2)).block, (ad226.add ((x7_1).toNat * 2)).off + 1, none⟩ = some (.int .i64 ((rd_T58 l0 x7_1).f1))) (ds := []) zA52 (by kernel_rfl) rfl rfl ⟨(blk_cell BK218.out 0).trans rfl, (blk_cell BK218.out 1).trans rfl, (zk HB.out hw226_0), (zk HB.out hw226_1)⟩ (fun hHeld => ?_); refine with_tabW spec_l02Insert.tab6 spec_l02Insert.bits6 (fun HT_ HW_ => ?_)
    generalize wr.drew = w23 at HO_5 BK218 HB hx226_0 hx226_1 hHeld ⊢
    refine zp 0 (some 15) ?_ zA53 rfl rfl (Or.inl ⟨by rfl, ?_⟩) ?_ ?_ ?_
    rotate_left
    ·intro w'
     go_simp
     with_reducible rfl
    rotate_left
    ·simp only [Act.put, xA, xB, xC, i64_w, i32_w]
     rfl
    refine zp 1 (some 16) ?_ zA54 rfl rfl (Or.inl ⟨by rfl, ?_⟩) ?_ ?_ ?_
    rotate_left
    ·intro w'
     go_simp
     with_reducible rfl
    rotate_left
    ·simp only [Act.put, xA, xB, xC, i64_w, i32_w]
     rfl
    refine zp 2 (some 17) ?_ zA55 rfl rfl (Or.inl ⟨by rfl, ?_⟩) ?_ ?_ ?_
    rotate_left
    ·intro w'
     go_simp
     with_reducible rfl
    rotate_left
    ·simp only [Act.put, xA, xB, xC, i64_w, i32_w]
     rfl
    refine zp 4 (some 19) ?_ zA63 rfl rfl (Or.inl ⟨by rfl, ?_⟩) ?_ ?_ ?_
    rotate_left
    ·intro w'
     go_simp
     with_reducible rfl
    rotate_left
    ·simp only [Act.put, xA, xB, xC, i64_w, i32_w]
     rfl
    refine zp 5 (some 20) ?_ zA64 rfl rfl (Or.inl ⟨by rfl, ?_⟩) ?_ ?_ ?_
    rotate_left
    ·intro w'
     go_simp
     with_reducible rfl
    rotate_left
    ·simp only [Act.put, xA, xB, xC, i64_w, i32_w]
     rfl
    refine zp 6 (some 21) ?_ zA65 rfl rfl (Or.inl ⟨by rfl, ?_⟩) ?_ ?_ ?_
    rotate_left
    ·intro w'
     go_simp
     with_reducible rfl
    rotate_left
    ·simp only [Act.put, xA, xB, xC, i64_w, i32_w]
     rfl
    refine zu 3 (some 18) ?_ zA59 rfl rfl (Or.inl ⟨by rfl, ?_⟩) hHeld ?_ ?_ ?_
    rotate_left
    ·rintro w' ⟨s0, s1, s2, s3⟩
     go_simp
     with_reducible rfl
    rotate_left
    ·simp only [Act.put, xA, xB, xC, i64_w, i32_w]
     rfl
    refine zu 7 (some 22) ?_ zA60 rfl rfl (Or.inl ⟨by rfl, ?_⟩) hHeld ?_ ?_ ?_
    rotate_left
    ·rintro w' ⟨s0, s1, s2, s3⟩
     go_simp
     with_reducible rfl
    rotate_left
    ·simp only [Act.put, xA, xB, xC, i64_w, i32_w]
     rfl
    refine one_ (i := 8) (N := some 23) zA61 rfl rfl (one_of HT_.out (by kernel_rfl)) (by decide) (fun K hK => ?_)
    refine goes_ Tryz.func53 (by kernel_rfl) rfl #[.agg #[.int .i64 a1_0, .int .i64 a1_1], .agg #[.int .i64 ((rd_T58 l0 x7_1).f0), .int .i64 ((rd_T58 l0 x7_1).f1)]] (by rfl) rfl rfl zm ?_
    with_reducible refine (spec_l02Less.calls a1_0 a1_1 ((rd_T58 l0 x7_1).f0) ((rd_T58 l0 x7_1).f1) false _ A13.out).mono ?_
    rintro e w24 ⟨rfl, hb⟩
    refine ⟨_, rfl, ?_⟩
    have n0_ := aM (Kd.R_below (mR_ HO_5.out) hb)
    have n1_ := aM (blk_below (g := gb218) (o := .cells #[.int .i64 a1_0, .int .i64 a1_1] 58 (0, 0)) (mB_ BK218.out) hb)
    have n2_ := aM (below_step (zs GE218.out) hb)
    clear HO_5
    clear BK218
    clear HB
    have HO_5 := n0_
    have BK218 := n1_
    have HB := n2_
    clear n0_ n1_ n2_
    (try clear hb)
    (try clear hb2)
    (try clear hk)
    (try clear hi)
    refine hK.out _ _ ⟨(blk_cell BK218.out 0).trans rfl, (blk_cell BK218.out 1).trans rfl, (zk HB.out hw226_0), (zk HB.out hw226_1)⟩ (fun hHeld => ?_)
    clear hK K
    refine norm_ (a' := ?_) ?_ ?_
    rotate_left
    ·show Act.put _ (some 23) _ = _
     simp only [Act.put, xA, xB, xC, i64_w, i32_w]
     rfl
    refine zp 9 (some 24) ?_ zA62 rfl rfl (Or.inl ⟨by rfl, ?_⟩) ?_ ?_ ?_
    rotate_left
    ·intro w'
     go_simp
     with_reducible rfl
    rotate_left
    ·simp only [Act.put, xA, xB, xC, i64_w, i32_w]
     rfl
    refine done_ (done_of HT_.out (by kernel_rfl)) ?_
    have p235 : 0 ≤ (x7_1 : Int) := of_decide_eq_true za
    have q235 : x7_1 < (l0.length : Int) := of_decide_eq_true za
    obtain ⟨ad235, e235, hx235_0, hx235_1⟩ := at_T58 HR0.out x7_1 p235 q235
    obtain rfl : ad226 = ad235 := (by injection e235)
    replace hx235_0 := zk HB.out hx235_0
    replace hx235_1 := zk HB.out hx235_1
    replace p235 := eq_true p235
    replace q235 := eq_true q235
    try go_wp2_with (first | ((with_reducible refine gate_builtin (b := .append) (xs := #[.tmp 29, .tmp 34]) rfl ?_); at_builtin; refine Kd.R_append k58 (w0 := w) w.heap.size rfl (.tmp 29) (.tmp 34) 28 58 (.agg #[(.int .i64 0), (.int .i64 0)]) 16 rfl Tryz.underlying28 info58 rfl (by decide) (by omega) u5 x5_1 (⟨(rd_T58 l0 x7_1).f0, (rd_T58 l0 x7_1).f1⟩ : S58) [.int .i64 ((rd_T58 l0 x7_1).f0), .int .i64 ((rd_T58 l0 x7_1).f1)] (fun k_ => k_ ≠ gb218) (fun _ => False) rfl rfl ?aP (fun _ hk => hk.elim) ?aF ?aO ?aB ?aS ?aL ?_; (case aP => exact k58_mkM _ _ _ (⟨(rd_T58 l0 x7_1).f0, (rd_T58 l0 x7_1).f1⟩ : S58)); (case aB => exact (zs GE218.out)); (case aF => exact (fun k_ hk => Kd.freshB (g := gb218) (o := .cells #[.int .i64 a1_0, .int .i64 a1_1] 58 (0, 0)) (mB_ BK218.out) k_ hk)); (case aO => exact (mR_ HO_5.out)); (case aS => exact (below_size (zs GE218.out))); (case aL => have := LMc22.out; omega); intro v237 w25 ho hb hg hat; rw [← Ny236.out] at ho; have n0_ := aM (blk_grown (g := gb218) (o := .cells #[.int .i64 a1_0, .int .i64 a1_1] 58 (0, 0)) (mB_ BK218.out) hg (Kd.R_away HO_5.out (fun _ hk => hk))); have n1_ := aM (hb); have n2_ := aM (ho); clear BK218 HB HO_5; have BK218 := n0_; have HB := n1_; have HO238 := n2_; clear n0_ n1_ n2_; clear ho hb hg hat))
    go_roundg k1
    case measure => have := HK1.out; omega
    case rel => exact ⟨(y236), (false), (wrap64 (x7_1 + 1)), zr, zr, H', ⟨by have := HK1.out; omega⟩, ⟨mR_ HO238.out⟩, ⟨mB_ BK218.out⟩, ⟨zs GE218.out⟩⟩
   subst c14
   have H1 : (if x5_1.length < 8796093022208 then ((some (x5_1 ++ [(⟨a1_0, a1_1⟩ : S58)] : List (S58))).bind fun y228 => (if y228.length < 8796093022208 then (spec_l02Insert.l0 k1 l0 (y228 ++ [(⟨(rd_T58 l0 x7_1).f0, (rd_T58 l0 x7_1).f1⟩ : S58)]) true (wrap64 (x7_1 + 1)) a1_0 a1_1) else (none))) else (none)) = some r := by rw [if_pos rfl] at H; exact H
   clear H
   have H := H1
   clear H1
   by_cases c15 : x5_1.length < 8796093022208
   rotate_left
   ·rw [if_neg c15] at H
    exact absurd H (by simp)
   rw [if_pos c15] at H
   have LMc15 := aM c15
   clear c15
   obtain ⟨y228, hy228⟩ : ∃ y_ : List (S58), y_ = (x5_1 ++ [(⟨a1_0, a1_1⟩ : S58)]) := ⟨_, rfl⟩
   replace H : (if y228.length < 8796093022208 then (spec_l02Insert.l0 k1 l0 (y228 ++ [(⟨(rd_T58 l0 x7_1).f0, (rd_T58 l0 x7_1).f1⟩ : S58)]) true (wrap64 (x7_1 + 1)) a1_0 a1_1) else (none)) = some r := zy H hy228
   have Ny228 := aM hy228
   clear hy228
   by_cases c16 : y228.length < 8796093022208
   rotate_left
   ·rw [if_neg c16] at H
    exact absurd H (by simp)
   rw [if_pos c16] at H
   have LMc16 := aM c16
   clear c16
   obtain ⟨y232, hy232⟩ : ∃ y_ : List (S58), y_ = (y228 ++ [(⟨(rd_T58 l0 x7_1).f0, (rd_T58 l0 x7_1).f1⟩ : S58)]) := ⟨_, rfl⟩
   replace H : (spec_l02Insert.l0 k1 l0 y232 true (wrap64 (x7_1 + 1)) a1_0 a1_1) = some r := zy H hy232
   have Ny232 := aM hy232
   clear hy232
   have H' := aM H
   clear H
   try go_wp2
   have n0_ := aM (Kd.R_drew HO_5.out)
   have n1_ := aM (blk_drew BK218.out)
   have n2_ := aM (below_drew1 HB.out)
   clear HO_5
   clear BK218
   clear HB
   have HO_5 := n0_
   have BK218 := n1_
   have HB := n2_
   clear n0_ n1_ n2_
   have p226 : 0 ≤ (x7_1 : Int) := of_decide_eq_true za
   have q226 : x7_1 < (l0.length : Int) := of_decide_eq_true za
   obtain ⟨ad226, e226, hx226_0, hx226_1⟩ := at_T58 HR0.out x7_1 p226 q226
   have hw226_1 := hx226_1
   have hw226_0 := hx226_0
   cases e226
   replace hx226_0 := zk HB.out hx226_0
   replace hx226_1 := zk HB.out hx226_1
   replace p226 := eq_true p226
   replace q226 := eq_true q226
   refine start_ (n := 10) (S := fun w' => w'.cell? ⟨gb218, 0, none⟩ = some (.int .i64 a1_0) ∧ w'.cell? ⟨gb218, 1, none⟩ = some (.int .i64 a1_1) ∧ w'.cell? (ad226.add ((x7_1).toNat * 2)) = some (.int .i64 ((rd_T58 l0 x7_1).f0)) ∧ w'.cell? ⟨(ad226.add ((x7_1).toNat * 2)).block, (ad226.add ((x7_1).toNat * 2)).off + 1, none⟩ = some (.int .i64 ((rd_T58 l0 x7_1).f1))) (ds := []) zA52 (by kernel_rfl) rfl rfl ⟨(blk_cell BK218.out 0).trans rfl, (blk_cell BK218.out 1).trans rfl, (zk HB.out hw226_0), (zk HB.out hw226_1)⟩ (fun hHeld => ?_); refine with_tabW spec_l02Insert.tab6 spec_l02Insert.bits6 (fun HT_ HW_ => ?_)
   generalize wr.drew = w17 at HO_5 BK218 HB hx226_0 hx226_1 hHeld ⊢
   refine zp 0 (some 15) ?_ zA53 rfl rfl (Or.inl ⟨by rfl, ?_⟩) ?_ ?_ ?_
   rotate_left
   ·intro w'
    go_simp
    with_reducible rfl
   rotate_left
   ·simp only [Act.put, xA, xB, xC, i64_w, i32_w]
    rfl
   refine zp 1 (some 16) ?_ zA54 rfl rfl (Or.inl ⟨by rfl, ?_⟩) ?_ ?_ ?_
   rotate_left
   ·intro w'
    go_simp
    with_reducible rfl
   rotate_left
   ·simp only [Act.put, xA, xB, xC, i64_w, i32_w]
    rfl
   refine zp 2 (some 17) ?_ zA55 rfl rfl (Or.inl ⟨by rfl, ?_⟩) ?_ ?_ ?_
   rotate_left
   ·intro w'
    go_simp
    with_reducible rfl
   rotate_left
   ·simp only [Act.put, xA, xB, xC, i64_w, i32_w]
    rfl
   refine zp 4 (some 19) ?_ zA63 rfl rfl (Or.inl ⟨by rfl, ?_⟩) ?_ ?_ ?_
   rotate_left
   ·intro w'
    go_simp
    with_reducible rfl
   rotate_left
   ·simp only [Act.put, xA, xB, xC, i64_w, i32_w]
    rfl
   refine zp 5 (some 20) ?_ zA64 rfl rfl (Or.inl ⟨by rfl, ?_⟩) ?_ ?_ ?_
   rotate_left
   ·intro w'
    go_simp
    with_reducible rfl
   rotate_left
   ·simp only [Act.put, xA, xB, xC, i64_w, i32_w]
    rfl
   refine zp 6 (some 21) ?_ zA65 rfl rfl (Or.inl ⟨by rfl, ?_⟩) ?_ ?_ ?_
   rotate_left
   ·intro w'
    go_simp
    with_reducible rfl
   rotate_left
   ·simp only [Act.put, xA, xB, xC, i64_w, i32_w]
    rfl
   refine zu 3 (some 18) ?_ zA59 rfl rfl (Or.inl ⟨by rfl, ?_⟩) hHeld ?_ ?_ ?_
   rotate_left
   ·rintro w' ⟨s0, s1, s2, s3⟩
    go_simp
    with_reducible rfl
   rotate_left
   ·simp only [Act.put, xA, xB, xC, i64_w, i32_w]
    rfl
   refine zu 7 (some 22) ?_ zA60 rfl rfl (Or.inl ⟨by rfl, ?_⟩) hHeld ?_ ?_ ?_
   rotate_left
   ·rintro w' ⟨s0, s1, s2, s3⟩
    go_simp
    with_reducible rfl
   rotate_left
   ·simp only [Act.put, xA, xB, xC, i64_w, i32_w]
    rfl
   refine one_ (i := 8) (N := some 23) zA61 rfl rfl (one_of HT_.out (by kernel_rfl)) (by decide) (fun K hK => ?_)
   refine goes_ Tryz.func53 (by kernel_rfl) rfl #[.agg #[.int .i64 a1_0, .int .i64 a1_1], .agg #[.int .i64 ((rd_T58 l0 x7_1).f0), .int .i64 ((rd_T58 l0 x7_1).f1)]] (by rfl) rfl rfl zm ?_
   with_reducible refine (spec_l02Less.calls a1_0 a1_1 ((rd_T58 l0 x7_1).f0) ((rd_T58 l0 x7_1).f1) true _ A13.out).mono ?_
   rintro e w18 ⟨rfl, hb⟩
   refine ⟨_, rfl, ?_⟩
   have n0_ := aM (Kd.R_below (mR_ HO_5.out) hb)
   have n1_ := aM (blk_below (g := gb218) (o := .cells #[.int .i64 a1_0, .int .i64 a1_1] 58 (0, 0)) (mB_ BK218.out) hb)
   have n2_ := aM (below_step (zs GE218.out) hb)
   clear HO_5
   clear BK218
   clear HB
   have HO_5 := n0_
   have BK218 := n1_
   have HB := n2_
   clear n0_ n1_ n2_
   (try clear hb)
   (try clear hb2)
   (try clear hk)
   (try clear hi)
   refine hK.out _ _ ⟨(blk_cell BK218.out 0).trans rfl, (blk_cell BK218.out 1).trans rfl, (zk HB.out hw226_0), (zk HB.out hw226_1)⟩ (fun hHeld => ?_)
   clear hK K
   refine norm_ (a' := ?_) ?_ ?_
   rotate_left
   ·show Act.put _ (some 23) _ = _
    simp only [Act.put, xA, xB, xC, i64_w, i32_w]
    rfl
   refine zp 9 (some 24) ?_ zA62 rfl rfl (Or.inl ⟨by rfl, ?_⟩) ?_ ?_ ?_
   rotate_left
   ·intro w'
    go_simp
    with_reducible rfl
   rotate_left
   ·simp only [Act.put, xA, xB, xC, i64_w, i32_w]
    rfl
   refine done_ (done_of HT_.out (by kernel_rfl)) ?_
   have hcz19_0 : w18.cell? ⟨gb218, 0, none⟩ = some (.int .i64 a1_0) := (blk_cell BK218.out 0).trans rfl
   have hcz19_1 : w18.cell? ⟨gb218, 1, none⟩ = some (.int .i64 a1_1) := (blk_cell BK218.out 1).trans rfl
   have hfz19_0 := blk_frozen BK218.out 0
   have hfz19_1 := blk_frozen BK218.out 1
   try go_wp2_with (first | ((with_reducible refine gate_builtin (b := .append) (xs := #[.tmp 25, .tmp 27]) rfl ?_); at_builtin; refine Kd.R_append k58 (w0 := w) w.heap.size rfl (.tmp 25) (.tmp 27) 28 58 (.agg #[(.int .i64 0), (.int .i64 0)]) 16 rfl Tryz.underlying28 info58 rfl (by decide) (by omega) u5 x5_1 (⟨a1_0, a1_1⟩ : S58) [.int .i64 a1_0, .int .i64 a1_1] (fun k_ => k_ ≠ gb218) (fun _ => False) rfl rfl ?aP (fun _ hk => hk.elim) ?aF ?aO ?aB ?aS ?aL ?_; (case aP => exact k58_mkM _ _ _ (⟨a1_0, a1_1⟩ : S58)); (case aB => exact (zs GE218.out)); (case aF => exact (fun k_ hk => Kd.freshB (g := gb218) (o := .cells #[.int .i64 a1_0, .int .i64 a1_1] 58 (0, 0)) (mB_ BK218.out) k_ hk)); (case aO => exact (mR_ HO_5.out)); (case aS => exact (below_size (zs GE218.out))); (case aL => have := LMc15.out; omega); intro v229 w20 ho hb hg hat; rw [← Ny228.out] at ho; have n0_ := aM (blk_grown (g := gb218) (o := .cells #[.int .i64 a1_0, .int .i64 a1_1] 58 (0, 0)) (mB_ BK218.out) hg (Kd.R_away HO_5.out (fun _ hk => hk))); have n1_ := aM (hb); have n2_ := aM (ho); clear BK218 HB HO_5; have BK218 := n0_; have HB := n1_; have HO230 := n2_; clear n0_ n1_ n2_ ho hb hg hat; have p231 : 0 ≤ (x7_1 : Int) := of_decide_eq_true za; have q231 : x7_1 < (l0.length : Int) := of_decide_eq_true za; obtain ⟨ad231, e231, hx231_0, hx231_1⟩ := at_T58 HR0.out x7_1 p231 q231; obtain rfl : ad226 = ad231 := (by injection e231); replace hx231_0 := zk HB.out hx231_0; replace hx231_1 := zk HB.out hx231_1; replace p231 := eq_true p231; replace q231 := eq_true q231) | ((with_reducible refine gate_builtin (b := .append) (xs := #[.tmp 29, .tmp 34]) rfl ?_); at_builtin; refine Kd.R_append k58 (w0 := w) w.heap.size rfl (.tmp 29) (.tmp 34) 28 58 (.agg #[(.int .i64 0), (.int .i64 0)]) 16 rfl Tryz.underlying28 info58 rfl (by decide) (by omega) v229 y228 (⟨(rd_T58 l0 x7_1).f0, (rd_T58 l0 x7_1).f1⟩ : S58) [.int .i64 ((rd_T58 l0 x7_1).f0), .int .i64 ((rd_T58 l0 x7_1).f1)] (fun k_ => k_ ≠ gb218) (fun _ => False) rfl rfl ?aP (fun _ hk => hk.elim) ?aF ?aO ?aB ?aS ?aL ?_; (case aP => exact k58_mkM _ _ _ (⟨(rd_T58 l0 x7_1).f0, (rd_T58 l0 x7_1).f1⟩ : S58)); (case aB => exact (zs GE218.out)); (case aF => exact (fun k_ hk => Kd.freshB (g := gb218) (o := .cells #[.int .i64 a1_0, .int .i64 a1_1] 58 (0, 0)) (mB_ BK218.out) k_ hk)); (case aO => exact (mR_ HO230.out)); (case aS => exact (below_size (zs GE218.out))); (case aL => have := LMc16.out; omega); intro v233 w21 ho hb hg hat; rw [← Ny232.out] at ho; have n0_ := aM (blk_grown (g := gb218) (o := .cells #[.int .i64 a1_0, .int .i64 a1_1] 58 (0, 0)) (mB_ BK218.out) hg (Kd.R_away HO230.out (fun _ hk => hk))); have n1_ := aM (hb); have n2_ := aM (ho); clear BK218 HB HO230; have BK218 := n0_; have HB := n1_; have HO234 := n2_; clear n0_ n1_ n2_; clear ho hb hg hat))
   go_roundg k1
   case measure => have := HK1.out; omega
   case rel => exact ⟨(y232), (true), (wrap64 (x7_1 + 1)), zr, zr, H', ⟨by have := HK1.out; omega⟩, ⟨mR_ HO234.out⟩, ⟨mB_ BK218.out⟩, ⟨zs GE218.out⟩⟩
def spec_l02Sort.l0 : Nat → List (S58) → List (S58) → Int → Option ((List (S58)))
 | 0, _, _, _ => none
 | k + 1, x0, x3, x4 => if x4 < (x0.length : Int) then (if 0 ≤ x4 then ((spec_l02Insert.f k x3 ((rd_T58 x0 x4).f0) ((rd_T58 x0 x4).f1)).bind fun t246 => (spec_l02Sort.l0 k x0 t246 (wrap64 (x4 + 1)))) else (none)) else (some x3)
def spec_l02Sort.f (k : Nat) (l0 : List (S58)) : Option ((List (S58))) := spec_l02Sort.l0 k l0 (([] : List (S58))) 0
theorem spec_l02Sort.calls (k : Nat) (A0 : Option Addr) (c0 : Nat) (l0 : List (S58)) (r : List (S58)) (w : World) (hr0 : Kd.C k58 w A0 l0.length l0) (hc0 : l0.length ≤ c0) (h : spec_l02Sort.f k l0 = some r) :
  Calls Tryz.prog 76 #[.slice A0 l0.length c0] w fun e w' => ∃ v0_ : Value, e = .returned (v0_) ∧ Kd.R k58 58 w' w.heap.size (fun _ => True) v0_ r ∧ Below w.heap.size w w' := by
 have hu58 := Tryz.underlying58
 have HR0 := aM hr0
 have HC0 := aM hc0
 clear hr0 hc0
 have HB := aM (Below.refl w.heap.size w)
 have H : (spec_l02Sort.l0 k l0 (([] : List (S58))) 0) = some r := h
 clear h
 obtain ⟨y242, hy242⟩ : ∃ y_ : List (S58), y_ = (([] : List (S58))) := ⟨_, rfl⟩
 replace H : (spec_l02Sort.l0 k l0 y242 0) = some r := zy H hy242
 have Ny242 := aM hy242
 clear hy242
 have H' := aM H
 clear H
 go_enter Tryz.func76, Tryz.ntmps76
 go_wp2_with (first | ((with_reducible refine gate_dst (N := 5) rfl ?_); refine Kd.R_lit k58 _ 58 ?hg (N := 5) ?hd (xs := ([] : List (S58))) (inner := []) (ok := fun _ => True) (okp := fun _ => True) ?hr ?hp (fun _ hk => hk) trivial (Below.refl _ _) (Nat.le_refl _) (by simp) ?_; (case hd => rfl); (case hg => rfl); (case hr => first | (go_simp; done) | (go_simp; rfl)); (case hp => exact (Reps.none _ _)); intro v243 w2 ho3 hb hg_ hnew_; clear hg_ hnew_; (first | rw [← Ny242.out] at ho3 | (simp only [Int.reduceToNat] at ho3; rw [← Ny242.out] at ho3)); have n0_ := aM (Kd.R_lower ho3 (below_size zb)); have n1_ := aM (below_step zb hb); clear HB; have HO244 := n0_; have HB := n1_; clear n0_ n1_; clear hb ho3))
 go_loopg [3, 4] k (fun kq v3 v4 w' => ∃ (x3_1 : List (S58)) (x4_1 : Int), v4 = .int .i64 x4_1 ∧ Aside0 (spec_l02Sort.l0 kq l0 x3_1 x4_1 = some r) ∧ Aside0 (kq ≤ k) ∧ Aside0 (Kd.R k58 58 w' w.heap.size (fun _ => True) v3 x3_1) ∧ Aside0 (Below w.heap.size w w'))
 case atStart => exact ⟨(y242), (0), zr, H', ⟨Nat.le_refl _⟩, ⟨mR_ HO244.out⟩, ⟨zb⟩⟩
 case round =>
  clear H'
  try clear p2
  obtain ⟨x3_1, x4_1, rfl, HA, HK1, HO_3, HB⟩ := hrel
  cases gk with
  | zero => exact absurd HA.out (by simp [spec_l02Sort.l0])
  | succ k1 =>
   have H := HA.out
   clear HA
   simp only [spec_l02Sort.l0] at H
   by_cases c4 : x4_1 < (l0.length : Int)
   rotate_left
   ·rw [if_neg c4] at H
    have c4b0 : decide (x4_1 < (l0.length : Int)) = false := decide_eq_false c4
    clear c4
    obtain rfl := Option.some.inj H
    go_wp2
    go_ret
    exact ⟨_, zw, mR_ HO_3.out, zb⟩
   rw [if_pos c4] at H
   have c4b0 : decide (x4_1 < (l0.length : Int)) = true := decide_eq_true c4
   clear c4
   by_cases c5 : 0 ≤ x4_1
   rotate_left
   ·rw [if_neg c5] at H
    exact absurd H (by simp)
   rw [if_pos c5] at H
   have c5b0 : decide (0 ≤ x4_1) = true := decide_eq_true c5
   clear c5
   replace H := Option.bind_eq_some_iff.mp H
   obtain ⟨t246, A60, H⟩ := H
   replace H : (spec_l02Sort.l0 k1 l0 t246 (wrap64 (x4_1 + 1))) = some r := H
   have A6 := aM A60
   clear A60
   have H' := aM H
   clear H
   have p245 : 0 ≤ (x4_1 : Int) := of_decide_eq_true za
   have q245 : x4_1 < (l0.length : Int) := of_decide_eq_true za
   obtain ⟨ad245, e245, hx245_0, hx245_1⟩ := at_T58 HR0.out x4_1 p245 q245
   cases e245
   replace hx245_0 := zk HB.out hx245_0
   replace hx245_1 := zk HB.out hx245_1
   replace p245 := eq_true p245
   replace q245 := eq_true q245
   obtain ⟨Ao7, co7, eo7⟩ := Kd.R_slice HO_3.out
   subst eo7
   go_wp2_with (first | ((with_reducible refine gate_callee (f := 85) rfl ?_); refine goesL_ (some 17) rfl rfl Tryz.func85 (by kernel_rfl) rfl #[.slice Ao7 x3_1.length co7, .agg #[.int .i64 ((rd_T58 l0 x4_1).f0), .int .i64 ((rd_T58 l0 x4_1).f1)]] rfl zm ?_; (with_reducible refine (spec_l02Insert.calls k1 _ _ x3_1 ((rd_T58 l0 x4_1).f0) ((rd_T58 l0 x4_1).f1) t246 _ ?side1 ?side2 A6.out).mono ?_); (case side1 => exact zc HO_3.out); (case side2 => exact (Kd.R_reads' HO_3.out).2.1); rintro e w8 ⟨v247, rfl, ho0, hb⟩; refine ⟨_, rfl, ?_⟩; have n0_ := aM (Kd.R_elder' (mR_ HO_3.out) (Kd.R_base ho0) hb); have n1_ := aM (Kd.R_lower (Kd.R_new' ho0 (Kd.R_lt (mR_ HO_3.out))) (below_size zb)); have n2_ := aM (below_step zb hb); clear HO_3 HB; have HO_3 := n0_; have HO248 := n1_; have HB := n2_; clear n0_ n1_ n2_; (try clear hb); (try clear hb2); (try clear hk); (try clear hi); (try clear ho0)))
   go_roundg k1
   case measure => have := HK1.out; omega
   case rel => exact ⟨(t246), (wrap64 (x4_1 + 1)), zr, H', ⟨by have := HK1.out; omega⟩, ⟨zd0 HO248.out⟩, ⟨zb⟩⟩
def spec_l03Form.l0 : Nat → List (S58) → Int → List (S58) → Int → Option ((List (S58)))
 | 0, _, _, _, _ => none
 | k + 1, x0, x1, x5, x6 => if x6 < (x0.length : Int) then (if 0 ≤ x6 then ((spec_l03Turn.f k ((rd_T58 x0 x6).f0) ((rd_T58 x0 x6).f1) x1).bind fun bt253 => (if x5.length < 8796093022208 then (spec_l03Form.l0 k x0 x1 (x5 ++ [(⟨bt253.1, bt253.2⟩ : S58)]) (wrap64 (x6 + 1))) else (none))) else (none)) else ((spec_l02Sort.f k x5).bind fun t258 => ((spec_l02Normal.f k t258).bind fun t261 => (some t261)))
def spec_l03Form.f (k : Nat) (l0 : List (S58)) (a1 : Int) : Option ((List (S58))) := spec_l03Form.l0 k l0 a1 (([] : List (S58))) 0
theorem spec_l03Form.calls (k : Nat) (A0 : Option Addr) (c0 : Nat) (l0 : List (S58)) (a1 : Int) (r : List (S58)) (w : World) (hr0 : Kd.C k58 w A0 l0.length l0) (hc0 : l0.length ≤ c0) (h : spec_l03Form.f k l0 a1 = some r) :
  Calls Tryz.prog 67 #[.slice A0 l0.length c0, .int .i64 a1] w fun e w' => ∃ v0_ : Value, e = .returned (v0_) ∧ Kd.R k58 58 w' w.heap.size (fun _ => True) v0_ r ∧ Below w.heap.size w w' := by
 have hu58 := Tryz.underlying58
 have HR0 := aM hr0
 have HC0 := aM hc0
 clear hr0 hc0
 have HB := aM (Below.refl w.heap.size w)
 have H : (spec_l03Form.l0 k l0 a1 (([] : List (S58))) 0) = some r := h
 clear h
 obtain ⟨y249, hy249⟩ : ∃ y_ : List (S58), y_ = (([] : List (S58))) := ⟨_, rfl⟩
 replace H : (spec_l03Form.l0 k l0 a1 y249 0) = some r := zy H hy249
 have Ny249 := aM hy249
 clear hy249
 have H' := aM H
 clear H
 go_enter Tryz.func67, Tryz.ntmps67
 go_wp2_with (first | ((with_reducible refine gate_dst (N := 7) rfl ?_); refine Kd.R_lit k58 _ 58 ?hg (N := 7) ?hd (xs := ([] : List (S58))) (inner := []) (ok := fun _ => True) (okp := fun _ => True) ?hr ?hp (fun _ hk => hk) trivial (Below.refl _ _) (Nat.le_refl _) (by simp) ?_; (case hd => rfl); (case hg => rfl); (case hr => first | (go_simp; done) | (go_simp; rfl)); (case hp => exact (Reps.none _ _)); intro v250 w3 ho4 hb hg_ hnew_; clear hg_ hnew_; (first | rw [← Ny249.out] at ho4 | (simp only [Int.reduceToNat] at ho4; rw [← Ny249.out] at ho4)); have n0_ := aM (Kd.R_lower ho4 (below_size zb)); have n1_ := aM (below_step zb hb); clear HB; have HO251 := n0_; have HB := n1_; clear n0_ n1_; clear hb ho4))
 go_loopg [5, 6] k (fun kq v5 v6 w' => ∃ (x5_1 : List (S58)) (x6_1 : Int), v6 = .int .i64 x6_1 ∧ Aside0 (spec_l03Form.l0 kq l0 a1 x5_1 x6_1 = some r) ∧ Aside0 (kq ≤ k) ∧ Aside0 (Kd.R k58 58 w' w.heap.size (fun _ => True) v5 x5_1) ∧ Aside0 (Below w.heap.size w w'))
 case atStart => exact ⟨(y249), (0), zr, H', ⟨Nat.le_refl _⟩, ⟨mR_ HO251.out⟩, ⟨zb⟩⟩
 case round =>
  clear H'
  try clear p2
  obtain ⟨x5_1, x6_1, rfl, HA, HK1, HO_5, HB⟩ := hrel
  cases gk with
  | zero => exact absurd HA.out (by simp [spec_l03Form.l0])
  | succ k1 =>
   have H := HA.out
   clear HA
   simp only [spec_l03Form.l0] at H
   by_cases c5 : x6_1 < (l0.length : Int)
   rotate_left
   ·rw [if_neg c5] at H
    have c5b0 : decide (x6_1 < (l0.length : Int)) = false := decide_eq_false c5
    clear c5
    replace H := Option.bind_eq_some_iff.mp H
    obtain ⟨t258, A110, H⟩ := H
    replace H : ((spec_l02Normal.f k1 t258).bind fun t261 => (some t261)) = some r := H
    have A11 := aM A110
    clear A110
    replace H := Option.bind_eq_some_iff.mp H
    obtain ⟨t261, A120, H⟩ := H
    replace H : (some t261) = some r := H
    have A12 := aM A120
    clear A120
    obtain rfl := Option.some.inj H
    obtain ⟨Ao13, co13, eo13⟩ := Kd.R_slice HO_5.out
    subst eo13
    go_wp2_with (first | ((with_reducible refine gate_callee (f := 76) rfl ?_); refine goesL_ (some 24) rfl rfl Tryz.func76 (by kernel_rfl) rfl #[.slice Ao13 x5_1.length co13] rfl zm ?_; (with_reducible refine (spec_l02Sort.calls k1 _ _ x5_1 t258 _ ?side1 ?side2 A11.out).mono ?_); (case side1 => exact zc HO_5.out); (case side2 => exact (Kd.R_reads' HO_5.out).2.1); rintro e w14 ⟨v259, rfl, ho0, hb⟩; refine ⟨_, rfl, ?_⟩; have n0_ := aM (Kd.R_elder' (mR_ HO_5.out) (Kd.R_base ho0) hb); have n1_ := aM (Kd.R_lower (Kd.R_new' ho0 (Kd.R_lt (mR_ HO_5.out))) (below_size zb)); have n2_ := aM (below_step zb hb); clear HO_5 HB; have HO_5 := n0_; have HO260 := n1_; have HB := n2_; clear n0_ n1_ n2_; (try clear hb); (try clear hb2); (try clear hk); (try clear hi); (try clear ho0); obtain ⟨Ao15, co15, eo15⟩ := Kd.R_slice HO260.out; subst eo15) | ((with_reducible refine gate_callee (f := 75) rfl ?_); refine goesL_ (some 25) rfl rfl Tryz.func75 (by kernel_rfl) rfl #[.slice Ao15 t258.length co15] rfl zm ?_; (with_reducible refine (spec_l02Normal.calls k1 _ _ t258 t261 _ ?side1 ?side2 A12.out).mono ?_); (case side1 => exact zc HO260.out); (case side2 => exact (Kd.R_reads' HO260.out).2.1); rintro e w16 ⟨v262, rfl, ho0, hb⟩; refine ⟨_, rfl, ?_⟩; have n0_ := aM (Kd.R_elder' (mR_ HO_5.out) (Kd.R_base ho0) hb); have n1_ := aM (Kd.R_elder' (mR_ HO260.out) (Kd.R_base ho0) hb); have n2_ := aM (Kd.R_lower (Kd.R_new' (Kd.R_new' ho0 (Kd.R_lt (mR_ HO_5.out))) (Kd.R_lt (mR_ HO260.out))) (below_size zb)); have n3_ := aM (below_step zb hb); clear HO_5 HO260 HB; have HO_5 := n0_; have HO260 := n1_; have HO263 := n2_; have HB := n3_; clear n0_ n1_ n2_ n3_; (try clear hb); (try clear hb2); (try clear hk); (try clear hi); (try clear ho0)))
    go_ret
    exact ⟨_, zw, zd0 HO263.out, zb⟩
   rw [if_pos c5] at H
   have c5b0 : decide (x6_1 < (l0.length : Int)) = true := decide_eq_true c5
   clear c5
   by_cases c6 : 0 ≤ x6_1
   rotate_left
   ·rw [if_neg c6] at H
    exact absurd H (by simp)
   rw [if_pos c6] at H
   have c6b0 : decide (0 ≤ x6_1) = true := decide_eq_true c6
   clear c6
   replace H := Option.bind_eq_some_iff.mp H
   obtain ⟨⟨t253, t254⟩, A70, H⟩ := H
   replace H : (if x5_1.length < 8796093022208 then (spec_l03Form.l0 k1 l0 a1 (x5_1 ++ [(⟨t253, t254⟩ : S58)]) (wrap64 (x6_1 + 1))) else (none)) = some r := H
   have A7 := aM A70
   clear A70
   by_cases c8 : x5_1.length < 8796093022208
   rotate_left
   ·rw [if_neg c8] at H
    exact absurd H (by simp)
   rw [if_pos c8] at H
   have LMc8 := aM c8
   clear c8
   obtain ⟨y255, hy255⟩ : ∃ y_ : List (S58), y_ = (x5_1 ++ [(⟨t253, t254⟩ : S58)]) := ⟨_, rfl⟩
   replace H : (spec_l03Form.l0 k1 l0 a1 y255 (wrap64 (x6_1 + 1))) = some r := zy H hy255
   have Ny255 := aM hy255
   clear hy255
   have H' := aM H
   clear H
   have p252 : 0 ≤ (x6_1 : Int) := of_decide_eq_true za
   have q252 : x6_1 < (l0.length : Int) := of_decide_eq_true za
   obtain ⟨ad252, e252, hx252_0, hx252_1⟩ := at_T58 HR0.out x6_1 p252 q252
   cases e252
   replace hx252_0 := zk HB.out hx252_0
   replace hx252_1 := zk HB.out hx252_1
   replace p252 := eq_true p252
   replace q252 := eq_true q252
   go_wp2_with (first | ((with_reducible refine gate_callee (f := 74) rfl ?_); refine goesL_ (some 20) rfl rfl Tryz.func74 (by kernel_rfl) rfl #[.agg #[.int .i64 ((rd_T58 l0 x6_1).f0), .int .i64 ((rd_T58 l0 x6_1).f1)], .int .i64 a1] rfl zm ?_; (with_reducible refine (spec_l03Turn.calls k1 ((rd_T58 l0 x6_1).f0) ((rd_T58 l0 x6_1).f1) a1 t253 t254 _ A7.out).mono ?_); rintro e w9 ⟨rfl, hb⟩; refine ⟨_, rfl, ?_⟩; have n0_ := aM (Kd.R_below (mR_ HO_5.out) hb); have n1_ := aM (below_step zb hb); clear HO_5 HB; have HO_5 := n0_; have HB := n1_; clear n0_ n1_; (try clear hb); (try clear hb2); (try clear hk); (try clear hi)) | ((with_reducible refine gate_builtin (b := .append) (xs := #[.tmp 14, .tmp 21]) rfl ?_); at_builtin; refine Kd.R_append k58 (w0 := w) w.heap.size rfl (.tmp 14) (.tmp 21) 28 58 (.agg #[(.int .i64 0), (.int .i64 0)]) 16 rfl Tryz.underlying28 info58 rfl (by decide) (by omega) u5 x5_1 (⟨t253, t254⟩ : S58) [.int .i64 t253, .int .i64 t254] (fun _ => True) (fun _ => False) rfl rfl ?aP (fun _ hk => hk.elim) ?aF ?aO ?aB ?aS ?aL ?_; (case aP => exact k58_mkM _ _ _ (⟨t253, t254⟩ : S58)); (case aB => exact zb); (case aF => exact (fun _ _ => trivial)); (case aO => exact (mR_ HO_5.out)); (case aS => exact (below_size zb)); (case aL => have := LMc8.out; omega); intro v256 w10 ho hb hg hat; rw [← Ny255.out] at ho; have n0_ := aM (hb); have n1_ := aM (ho); clear HB HO_5; have HB := n0_; have HO257 := n1_; clear n0_ n1_; clear ho hb hg hat))
   go_roundg k1
   case measure => have := HK1.out; omega
   case rel => exact ⟨(y255), (wrap64 (x6_1 + 1)), zr, H', ⟨by have := HK1.out; omega⟩, ⟨mR_ HO257.out⟩, ⟨zb⟩⟩
def spec_l03Forms.l0 : Nat → List (S58) → Int → List (List (S58)) → Int → Option ((List (List (S58))))
 | 0, _, _, _, _ => none
 | k + 1, x0, x1, x5, x6 => if x6 < x1 then ((spec_l03Form.f k x0 x6).bind fun t267 => ((spec_l03Add.f k x5 t267).bind fun t270 => (spec_l03Forms.l0 k x0 x1 t270 (wrap64 (x6 + 1))))) else (some x5)
def spec_l03Forms.f (k : Nat) (l0 : List (S58)) (a1 : Int) : Option ((List (List (S58)))) := spec_l03Forms.l0 k l0 a1 (([] : List (List (S58)))) 0
theorem spec_l03Forms.calls (k : Nat) (A0 : Option Addr) (c0 : Nat) (l0 : List (S58)) (a1 : Int) (r : List (List (S58))) (w : World) (hr0 : Kd.C k58 w A0 l0.length l0) (hc0 : l0.length ≤ c0) (h : spec_l03Forms.f k l0 a1 = some r) :
  Calls Tryz.prog 56 #[.slice A0 l0.length c0, .int .i64 a1] w fun e w' => ∃ v0_ : Value, e = .returned (v0_) ∧ Kd.V (Kd.slice 58 k58) 28 w' w.heap.size (fun k_ => (w.heap.size ≤ k_)) v0_ r ∧ Below w.heap.size w w' := by
 have HR0 := aM hr0
 have HC0 := aM hc0
 clear hr0 hc0
 have HB := aM (Below.refl w.heap.size w)
 have H : (spec_l03Forms.l0 k l0 a1 (([] : List (List (S58)))) 0) = some r := h
 clear h
 obtain ⟨y264, hy264⟩ : ∃ y_ : List (List (S58)), y_ = (([] : List (List (S58)))) := ⟨_, rfl⟩
 replace H : (spec_l03Forms.l0 k l0 a1 y264 0) = some r := zy H hy264
 have Ny264 := aM hy264
 clear hy264
 have H' := aM H
 clear H
 go_enter Tryz.func56, Tryz.ntmps56
 go_wp2_with (first | ((with_reducible refine gate_dst (N := 7) rfl ?_); refine Kd.S_lit (Kd.slice 58 k58) _ 28 ?hg (N := 7) ?hd (xs := ([] : List (List (S58)))) (inner := []) (ok := fun _ => True) (okp := fun _ => True) ?hr ?hp (fun _ hk => hk) trivial (Below.refl _ _) (Nat.le_refl _) (by simp) ?_; (case hd => rfl); (case hg => rfl); (case hr => first | (go_simp; done) | (go_simp; rfl)); (case hp => exact (Reps.none _ _)); intro v265 w3 ho4 hb hg_ hnew_; clear hg_ hnew_; (first | rw [← Ny264.out] at ho4 | (simp only [Int.reduceToNat] at ho4; rw [← Ny264.out] at ho4)); have n0_ := aM (Kd.S_lower (Kd.S_newM (M := fun k_ => (w.heap.size ≤ k_)) ho4 (below_size zb) (fun k_ h_ => h_)) (below_size zb)); have n1_ := aM (below_step zb hb); clear HB; have HO266 := n0_; have HB := n1_; clear n0_ n1_; clear hb ho4))
 go_loopg [5, 6] k (fun kq v5 v6 w' => ∃ (x5_1 : List (List (S58))) (x6_1 : Int), v6 = .int .i64 x6_1 ∧ Aside0 (spec_l03Forms.l0 kq l0 a1 x5_1 x6_1 = some r) ∧ Aside0 (kq ≤ k) ∧ Aside0 (Kd.V (Kd.slice 58 k58) 28 w' w.heap.size (fun k_ => (w.heap.size ≤ k_)) v5 x5_1) ∧ Aside0 (Below w.heap.size w w'))
 case atStart => exact ⟨(y264), (0), zr, H', ⟨Nat.le_refl _⟩, ⟨Kd.S_V (zd4 HO266.out)⟩, ⟨zb⟩⟩
 case round =>
  clear H'
  try clear p2
  obtain ⟨x5_1, x6_1, rfl, HA, HK1, HO_5, HB⟩ := hrel
  cases gk with
  | zero => exact absurd HA.out (by simp [spec_l03Forms.l0])
  | succ k1 =>
   have H := HA.out
   clear HA
   simp only [spec_l03Forms.l0] at H
   by_cases c5 : x6_1 < a1
   rotate_left
   ·rw [if_neg c5] at H
    have c5b0 : decide (x6_1 < a1) = false := decide_eq_false c5
    clear c5
    obtain rfl := Option.some.inj H
    go_wp2
    go_ret
    exact ⟨_, zw, mV_ HO_5.out, zb⟩
   rw [if_pos c5] at H
   have c5b0 : decide (x6_1 < a1) = true := decide_eq_true c5
   clear c5
   replace H := Option.bind_eq_some_iff.mp H
   obtain ⟨t267, A60, H⟩ := H
   replace H : ((spec_l03Add.f k1 x5_1 t267).bind fun t270 => (spec_l03Forms.l0 k1 l0 a1 t270 (wrap64 (x6_1 + 1)))) = some r := H
   have A6 := aM A60
   clear A60
   replace H := Option.bind_eq_some_iff.mp H
   obtain ⟨t270, A70, H⟩ := H
   replace H : (spec_l03Forms.l0 k1 l0 a1 t270 (wrap64 (x6_1 + 1))) = some r := H
   have A7 := aM A70
   clear A70
   have H' := aM H
   clear H
   go_wp2_with (first | ((with_reducible refine gate_callee (f := 67) rfl ?_); refine goesL_ (some 16) rfl rfl Tryz.func67 (by kernel_rfl) rfl #[.slice A0 l0.length c0, .int .i64 x6_1] rfl zm ?_; (with_reducible refine (spec_l03Form.calls k1 _ _ l0 x6_1 t267 _ ?side1 ?side2 A6.out).mono ?_); (case side1 => repeat (first | exact (Kd.C_below HR0.out HB.out) | (with_reducible refine Kd.C_alloc ?_ _) | (with_reducible refine Kd.C_drewN ?_ _) | (with_reducible refine Kd.C_drew ?_))); (case side2 => exact HC0.out); rintro e w8 ⟨v268, rfl, ho0, hb⟩; refine ⟨_, rfl, ?_⟩; have n0_ := aM (Kd.V_elder' (mV_ HO_5.out) (Kd.R_base ho0) hb); have n1_ := aM (Kd.R_lower (Kd.R_newM (M := fun k_ => (w.heap.size ≤ k_)) ho0 (below_size zb) (fun k_ h_ => h_)) (below_size zb)); have n2_ := aM (below_step zb hb); clear HO_5 HB; have HO_5 := n0_; have HO269 := n1_; have HB := n2_; clear n0_ n1_ n2_; (try clear hb); (try clear hb2); (try clear hk); (try clear hi); (try clear ho0); obtain ⟨Ao9, co9, eo9⟩ := Kd.V_slice HO_5.out; subst eo9; obtain ⟨Ao10, co10, eo10⟩ := Kd.R_slice HO269.out; subst eo10) | ((with_reducible refine gate_callee (f := 66) rfl ?_); refine goesL_ (some 17) rfl rfl Tryz.func66 (by kernel_rfl) rfl #[.slice Ao9 x5_1.length co9, .slice Ao10 t267.length co10] rfl zm ?_; (with_reducible refine (spec_l03Add.calls k1 (fun k_ => ((w.heap.size ≤ k_) ∧ some k_ ≠ (.slice Ao10 t267.length co10 : Value).ownBlock)) _ _ x5_1 (fun k_ => some k_ = (.slice Ao10 t267.length co10 : Value).ownBlock) _ _ t267 t270 _ ?side1 ?side2 A7.out).mono ?_); (case side1 => exact HO_5.out); (case side2 => exact Kd.R_V (Kd.R_tight rfl (HO269.out))); rintro e w11 ⟨v271, rfl, ho0, hb⟩; refine ⟨_, rfl, ?_⟩; have n0_ := aM (Kd.V_below (mV_ HO_5.out) hb); have n1_ := aM (Kd.R_below (mR_ HO269.out) hb); have n2_ := aM (Kd.V_lower (Kd.V_mono (ok' := fun k_ => (w.heap.size ≤ k_)) ho0 (fun k_ hk_ => Or.elim hk_ (fun hs_ => Or.elim hs_ (fun hs_ => hs_.1) (fun hs_ => ((HO269.out).1 k_ hs_.symm).1)) (fun hn_ => (Nat.le_trans (below_size zb) hn_)))) (below_size zb)); have n3_ := aM (below_step zb hb); clear HO_5 HO269 HB; have HO_5 := n0_; have HO269 := n1_; have HO272 := n2_; have HB := n3_; clear n0_ n1_ n2_ n3_; (try clear hb); (try clear hb2); (try clear hk); (try clear hi); (try clear ho0)))
   go_roundg k1
   case measure => have := HK1.out; omega
   case rel => exact ⟨(t270), (wrap64 (x6_1 + 1)), zr, H', ⟨by have := HK1.out; omega⟩, ⟨mV_ HO272.out⟩, ⟨zb⟩⟩
def spec_l11Forms.f (k : Nat) (l0_0 : List (S58)) (a0_1 : Int) (a0_2 : Bool) : Option ((List (List (S58)))) := if a0_2 = true then ((spec_l03Forms.f k l0_0 8).bind fun t274 => (some t274)) else ((spec_l03Forms.f k l0_0 4).bind fun t277 => (some t277))
theorem spec_l11Forms.calls (k : Nat) (A0_0 : Option Addr) (c0_0 : Nat) (l0_0 : List (S58)) (a0_1 : Int) (a0_2 : Bool) (r : List (List (S58))) (w : World) (hr0_0 : Kd.C k58 w A0_0 l0_0.length l0_0) (hc0_0 : l0_0.length ≤ c0_0) (h : spec_l11Forms.f k l0_0 a0_1 a0_2 = some r) :
  Calls Tryz.prog 35 #[.agg #[.slice A0_0 l0_0.length c0_0, .int .i64 a0_1, .bool a0_2]] w fun e w' => ∃ v0_ : Value, e = .returned (v0_) ∧ Kd.V (Kd.slice 58 k58) 28 w' w.heap.size (fun k_ => (w.heap.size ≤ k_)) v0_ r ∧ Below w.heap.size w w' := by
 have hu43 := Tryz.underlying43
 have HR0_0 := aM hr0_0
 have HC0_0 := aM hc0_0
 clear hr0_0 hc0_0
 have HB := aM (Below.refl w.heap.size w)
 have H : (if a0_2 = true then ((spec_l03Forms.f k l0_0 8).bind fun t274 => (some t274)) else ((spec_l03Forms.f k l0_0 4).bind fun t277 => (some t277))) = some r := h
 clear h
 by_cases c2 : a0_2 = true
 ·subst c2
  have H1 : ((spec_l03Forms.f k l0_0 8).bind fun t274 => (some t274)) = some r := by rw [if_pos rfl] at H; exact H
  clear H
  have H := H1
  clear H1
  replace H := Option.bind_eq_some_iff.mp H
  obtain ⟨t274, A30, H⟩ := H
  replace H : (some t274) = some r := H
  have A3 := aM A30
  clear A30
  obtain rfl := Option.some.inj H
  go_enter Tryz.func35, Tryz.ntmps35
  go_wp2_with (first | ((with_reducible refine gate_dst (N := 1) rfl ?_); refine zx 1 #[.slice A0_0 l0_0.length c0_0, .int .i64 a0_1, .bool true] 43 ?_; intro gb273 hg w4 hbox hb; have n0_ := aM (below_step zb hb); have n1_ := aM (hbox); have n2_ := aM ((ze : w.heap.size ≤ gb273)); have n3_ := aM ((ze : w.heap.size ≤ gb273)); clear HB; have HB := n0_; have BK273 := n1_; have GW273 := n2_; have GE273 := n3_; clear n0_ n1_ n2_ n3_ hb hbox hg; have hcz5_0 : w4.cell? ⟨gb273, 0, none⟩ = some (.slice A0_0 l0_0.length c0_0) := (blk_cell BK273.out 0).trans rfl; have hcz5_1 : w4.cell? ⟨gb273, 1, none⟩ = some (.int .i64 a0_1) := (blk_cell BK273.out 1).trans rfl; have hcz5_2 : w4.cell? ⟨gb273, 2, none⟩ = some (.bool true) := (blk_cell BK273.out 2).trans rfl; have hfz5_0 := blk_frozen BK273.out 0; have hfz5_1 := blk_frozen BK273.out 1; have hfz5_2 := blk_frozen BK273.out 2) | ((with_reducible refine gate_callee (f := 56) rfl ?_); refine goesL_ (some 7) rfl rfl Tryz.func56 (by kernel_rfl) rfl #[.slice A0_0 l0_0.length c0_0, .int .i64 8] rfl zm ?_; (with_reducible refine (spec_l03Forms.calls k _ _ l0_0 8 t274 _ ?side1 ?side2 A3.out).mono ?_); (case side1 => repeat (first | exact (Kd.C_below HR0_0.out HB.out) | (with_reducible refine Kd.C_alloc ?_ _) | (with_reducible refine Kd.C_drewN ?_ _) | (with_reducible refine Kd.C_drew ?_))); (case side2 => exact HC0_0.out); rintro e w6 ⟨v275, rfl, ho0, hb⟩; refine ⟨_, rfl, ?_⟩; have n0_ := aM (Kd.V_lower (Kd.V_mono (ok' := fun k_ => (w.heap.size ≤ k_) ∧ k_ ≠ gb273) ho0 (fun k_ hk_ => ⟨(Nat.le_trans (below_size (zs GE273.out)) hk_), (Kd.freshB (g := gb273) (o := .cells #[.slice A0_0 l0_0.length c0_0, .int .i64 a0_1, .bool true] 43 (0, 0)) (mB_ BK273.out) k_ hk_)⟩)) (below_size (zs GE273.out))); have n1_ := aM (blk_below (g := gb273) (o := .cells #[.slice A0_0 l0_0.length c0_0, .int .i64 a0_1, .bool true] 43 (0, 0)) (mB_ BK273.out) hb); have n2_ := aM (below_step (zs GE273.out) hb); clear BK273 HB; have HO276 := n0_; have BK273 := n1_; have HB := n2_; clear n0_ n1_ n2_; (try clear hb); (try clear hb2); (try clear hk); (try clear hi); (try clear ho0)))
  go_ret
  exact ⟨_, zw, zd3 HO276.out, zs GE273.out⟩
 replace c2 := Bool.eq_false_iff.mpr c2
 subst c2
 have H1 : ((spec_l03Forms.f k l0_0 4).bind fun t277 => (some t277)) = some r := by rw [if_neg (show ¬ (false = true) by decide)] at H; exact H
 clear H
 have H := H1
 clear H1
 replace H := Option.bind_eq_some_iff.mp H
 obtain ⟨t277, A70, H⟩ := H
 replace H : (some t277) = some r := H
 have A7 := aM A70
 clear A70
 obtain rfl := Option.some.inj H
 go_enter Tryz.func35, Tryz.ntmps35
 go_wp2_with (first | ((with_reducible refine gate_dst (N := 1) rfl ?_); refine zx 1 #[.slice A0_0 l0_0.length c0_0, .int .i64 a0_1, .bool false] 43 ?_; intro gb273 hg w8 hbox hb; have n0_ := aM (below_step zb hb); have n1_ := aM (hbox); have n2_ := aM ((ze : w.heap.size ≤ gb273)); have n3_ := aM ((ze : w.heap.size ≤ gb273)); clear HB; have HB := n0_; have BK273 := n1_; have GW273 := n2_; have GE273 := n3_; clear n0_ n1_ n2_ n3_ hb hbox hg; have hcz9_0 : w8.cell? ⟨gb273, 0, none⟩ = some (.slice A0_0 l0_0.length c0_0) := (blk_cell BK273.out 0).trans rfl; have hcz9_1 : w8.cell? ⟨gb273, 1, none⟩ = some (.int .i64 a0_1) := (blk_cell BK273.out 1).trans rfl; have hcz9_2 : w8.cell? ⟨gb273, 2, none⟩ = some (.bool false) := (blk_cell BK273.out 2).trans rfl; have hfz9_0 := blk_frozen BK273.out 0; have hfz9_1 := blk_frozen BK273.out 1; have hfz9_2 := blk_frozen BK273.out 2) | ((with_reducible refine gate_callee (f := 56) rfl ?_); refine goesL_ (some 10) rfl rfl Tryz.func56 (by kernel_rfl) rfl #[.slice A0_0 l0_0.length c0_0, .int .i64 4] rfl zm ?_; (with_reducible refine (spec_l03Forms.calls k _ _ l0_0 4 t277 _ ?side1 ?side2 A7.out).mono ?_); (case side1 => repeat (first | exact (Kd.C_below HR0_0.out HB.out) | (with_reducible refine Kd.C_alloc ?_ _) | (with_reducible refine Kd.C_drewN ?_ _) | (with_reducible refine Kd.C_drew ?_))); (case side2 => exact HC0_0.out); rintro e w10 ⟨v278, rfl, ho0, hb⟩; refine ⟨_, rfl, ?_⟩; have n0_ := aM (Kd.V_lower (Kd.V_mono (ok' := fun k_ => (w.heap.size ≤ k_) ∧ k_ ≠ gb273) ho0 (fun k_ hk_ => ⟨(Nat.le_trans (below_size (zs GE273.out)) hk_), (Kd.freshB (g := gb273) (o := .cells #[.slice A0_0 l0_0.length c0_0, .int .i64 a0_1, .bool false] 43 (0, 0)) (mB_ BK273.out) k_ hk_)⟩)) (below_size (zs GE273.out))); have n1_ := aM (blk_below (g := gb273) (o := .cells #[.slice A0_0 l0_0.length c0_0, .int .i64 a0_1, .bool false] 43 (0, 0)) (mB_ BK273.out) hb); have n2_ := aM (below_step (zs GE273.out) hb); clear BK273 HB; have HO279 := n0_; have BK273 := n1_; have HB := n2_; clear n0_ n1_ n2_; (try clear hb); (try clear hb2); (try clear hk); (try clear hi); (try clear ho0)))
 go_ret
 exact ⟨_, zw, zd3 HO279.out, zs GE273.out⟩
mutual
def spec_l11Alike.l0 : Nat → List (List (S58)) → List (List (S58)) → Int → Option (Bool)
 | 0, _, _, _ => none
 | k + 1, x5, x6, x7 => if x7 < (x5.length : Int) then (spec_l11Alike.l1 k x5 x6 x7 0) else (some false)
def spec_l11Alike.l1 : Nat → List (List (S58)) → List (List (S58)) → Int → Int → Option (Bool)
 | 0, _, _, _, _ => none
 | k + 1, x5, x6, x7, x8 => if x8 < (x6.length : Int) then (if 0 ≤ x7 then (if x7 < (x5.length : Int) then (if 0 ≤ x8 then ((spec_CompareShapes.f k (rd_L2 x5 x7) (rd_L2 x6 x8)).bind fun t290 => (if t290 = 0 then (some true) else (spec_l11Alike.l1 k x5 x6 x7 (wrap64 (x8 + 1))))) else (none)) else (none)) else (none)) else (spec_l11Alike.l0 k x5 x6 (wrap64 (x7 + 1)))
end
def spec_l11Alike.f (k : Nat) (l0_0 : List (S58)) (a0_1 : Int) (a0_2 : Bool) (l1_0 : List (S58)) (a1_1 : Int) (a1_2 : Bool) : Option (Bool) := (spec_l11Forms.f k l0_0 a0_1 a0_2).bind fun t282 => ((spec_l11Forms.f k l1_0 a1_1 a1_2).bind fun t285 => (spec_l11Alike.l0 k t282 t285 0))
def spec_l11Alike.T8 : Bool × List (List Nat × List Nat) := (true, [([], []), ([], []), ([0, 1], [0, 1]), ([2], [2]), ([], []), ([], []), ([4, 5], [4, 5]), ([6], [6]), ([3, 7], [3, 7]), ([8], [8])])
def spec_l11Alike.B8 : List Nat := [0, 0, 3, 7, 0, 0, 48, 112, 255, 511]
theorem spec_l11Alike.tab8 : rtab .any (opsOf Tryz.f20 8) = spec_l11Alike.T8 := by kernel_rfl
theorem spec_l11Alike.bits8 : waitsOk spec_l11Alike.T8.2 spec_l11Alike.B8 = true := by kernel_rfl
theorem spec_l11Alike.calls (k : Nat) (A0_0 : Option Addr) (c0_0 : Nat) (l0_0 : List (S58)) (a0_1 : Int) (a0_2 : Bool) (A1_0 : Option Addr) (c1_0 : Nat) (l1_0 : List (S58)) (a1_1 : Int) (a1_2 : Bool) (r : Bool) (w : World) (hr0_0 : Kd.C k58 w A0_0 l0_0.length l0_0) (hc0_0 : l0_0.length ≤ c0_0) (hr1_0 : Kd.C k58 w A1_0 l1_0.length l1_0) (hc1_0 : l1_0.length ≤ c1_0) (h : spec_l11Alike.f k l0_0 a0_1 a0_2 l1_0 a1_1 a1_2 = some r) :
  Calls Tryz.prog 20 #[.agg #[.slice A0_0 l0_0.length c0_0, .int .i64 a0_1, .bool a0_2], .agg #[.slice A1_0 l1_0.length c1_0, .int .i64 a1_1, .bool a1_2]] w fun e w' => e = .returned (.bool r) ∧ Below w.heap.size w w' := by
 have hu43 := Tryz.underlying43
 have HR0_0 := aM hr0_0
 have HC0_0 := aM hc0_0
 clear hr0_0 hc0_0
 have HR1_0 := aM hr1_0
 have HC1_0 := aM hc1_0
 clear hr1_0 hc1_0
 have HB := aM (Below.refl w.heap.size w)
 have H : ((spec_l11Forms.f k l0_0 a0_1 a0_2).bind fun t282 => ((spec_l11Forms.f k l1_0 a1_1 a1_2).bind fun t285 => (spec_l11Alike.l0 k t282 t285 0))) = some r := h
 clear h
 replace H := Option.bind_eq_some_iff.mp H
 obtain ⟨t282, A30, H⟩ := H
 replace H : ((spec_l11Forms.f k l1_0 a1_1 a1_2).bind fun t285 => (spec_l11Alike.l0 k t282 t285 0)) = some r := H
 have A3 := aM A30
 clear A30
 replace H := Option.bind_eq_some_iff.mp H
 obtain ⟨t285, A40, H⟩ := H
 replace H : (spec_l11Alike.l0 k t282 t285 0) = some r := H
 have A4 := aM A40
 clear A40
 have H' := aM H
 clear H
 go_enter Tryz.func20, Tryz.ntmps20
 try go_wp2_with (first | ((with_reducible refine gate_dst (N := 2) rfl ?_); refine zx 2 #[.slice A0_0 l0_0.length c0_0, .int .i64 a0_1, .bool a0_2] 43 ?_; intro gb280 hg w5 hbox hb; have n0_ := aM (below_step zb hb); have n1_ := aM (hbox); have n2_ := aM ((ze : w.heap.size ≤ gb280)); have n3_ := aM ((ze : w.heap.size ≤ gb280)); clear HB; have HB := n0_; have BK280 := n1_; have GW280 := n2_; have GE280 := n3_; clear n0_ n1_ n2_ n3_; clear hb hbox hg) | ((with_reducible refine gate_dst (N := 3) rfl ?_); refine zx 3 #[.slice A1_0 l1_0.length c1_0, .int .i64 a1_1, .bool a1_2] 43 ?_; intro gb281 hg w6 hbox hb; have n0_ := aM (blk_below (g := gb280) (o := .cells #[.slice A0_0 l0_0.length c0_0, .int .i64 a0_1, .bool a0_2] 43 (0, 0)) (mB_ BK280.out) hb); have n1_ := aM (below_step (zs GE280.out) hb); have n2_ := aM (hbox); have n3_ := aM ((zf GE280.out : w.heap.size ≤ gb281)); have n4_ := aM ((zf GE280.out : w.heap.size ≤ gb281)); have n5_ := aM ((zl BK280.out : gb280 ≠ gb281)); have n6_ := aM ((zn BK280.out : gb281 ≠ gb280)); clear BK280 HB; have BK280 := n0_; have HB := n1_; have BK281 := n2_; have GW281 := n3_; have GE281 := n4_; have NB280_281 := n5_; have NB281_280 := n6_; clear n0_ n1_ n2_ n3_ n4_ n5_ n6_; clear hb hbox hg))
 have n0_ := aM (blk_drew BK280.out)
 have n1_ := aM (blk_drew BK281.out)
 have n2_ := aM (below_drew1 HB.out)
 clear BK280
 clear BK281
 clear HB
 have BK280 := n0_
 have BK281 := n1_
 have HB := n2_
 clear n0_ n1_ n2_
 refine start_ (n := 6) (S := fun w' => w'.cell? ⟨gb280, 0, none⟩ = some (.slice A0_0 l0_0.length c0_0) ∧ w'.cell? ⟨gb280, 1, none⟩ = some (.int .i64 a0_1) ∧ w'.cell? ⟨gb280, 2, none⟩ = some (.bool a0_2) ∧ w'.cell? ⟨gb281, 0, none⟩ = some (.slice A1_0 l1_0.length c1_0) ∧ w'.cell? ⟨gb281, 1, none⟩ = some (.int .i64 a1_1) ∧ w'.cell? ⟨gb281, 2, none⟩ = some (.bool a1_2)) (ds := []) #[false, false, false, false, false, false] (by kernel_rfl) rfl rfl ⟨(blk_cell BK280.out 0).trans rfl, (blk_cell BK280.out 1).trans rfl, (blk_cell BK280.out 2).trans rfl, (blk_cell BK281.out 0).trans rfl, (blk_cell BK281.out 1).trans rfl, (blk_cell BK281.out 2).trans rfl⟩ (fun hHeld => ?_)
 generalize w6.drew = w7 at BK280 BK281 HB hHeld ⊢
 refine take_ (i := 0) (N := some 9) (v := ?_) (a' := ?_) #[true, false, false, false, false, false] rfl rfl (by kernel_rfl) (fun _ _ _ h => h) (Or.inl ⟨by rfl, ?_⟩) hHeld ?_ ?_
 rotate_left
 ·rintro w' ⟨s0, s1, s2, s3, s4, s5⟩
  go_simp
  with_reducible rfl
 rotate_left
 ·simp only [Act.put, xA, xB, xC, i64_w, i32_w]
  rfl
 refine take_ (i := 2) (N := some 11) (v := ?_) (a' := ?_) #[true, false, true, false, false, false] rfl rfl (by kernel_rfl) (fun _ _ _ h => h) (Or.inl ⟨by rfl, ?_⟩) hHeld ?_ ?_
 rotate_left
 ·rintro w' ⟨s0, s1, s2, s3, s4, s5⟩
  go_simp
  with_reducible rfl
 rotate_left
 ·simp only [Act.put, xA, xB, xC, i64_w, i32_w]
  rfl
 refine one_ (i := 1) (N := some 10) #[true, true, true, false, false, false] rfl rfl (by kernel_rfl) (by decide) (fun K hK => ?_)
 refine goes_ Tryz.func35 (by kernel_rfl) rfl #[.agg #[.slice A0_0 l0_0.length c0_0, .int .i64 a0_1, .bool a0_2]] (by rfl) rfl rfl zm ?_
 with_reducible refine (spec_l11Forms.calls k _ _ l0_0 a0_1 a0_2 t282 _ ?side1 ?side2 A3.out).mono ?_
 (case side1 => repeat (first | exact (Kd.C_below HR0_0.out HB.out) | (with_reducible refine Kd.C_alloc ?_ _) | (with_reducible refine Kd.C_drewN ?_ _) | (with_reducible refine Kd.C_drew ?_)))
 (case side2 => exact HC0_0.out)
 rintro e w8 ⟨v283, rfl, ho0, hb⟩
 refine ⟨_, rfl, ?_⟩
 have n0_ := aM (Kd.V_lower (Kd.V_mono (ok' := fun k_ => k_ ≠ gb280 ∧ k_ ≠ gb281) ho0 (fun k_ hk_ => ⟨(Kd.freshB (g := gb280) (o := .cells #[.slice A0_0 l0_0.length c0_0, .int .i64 a0_1, .bool a0_2] 43 (0, 0)) (mB_ BK280.out) k_ hk_), (Kd.freshB (g := gb281) (o := .cells #[.slice A1_0 l1_0.length c1_0, .int .i64 a1_1, .bool a1_2] 43 (0, 0)) (mB_ BK281.out) k_ hk_)⟩)) (below_size (zt GE280.out GE281.out)))
 have n1_ := aM (blk_below (g := gb280) (o := .cells #[.slice A0_0 l0_0.length c0_0, .int .i64 a0_1, .bool a0_2] 43 (0, 0)) (mB_ BK280.out) hb)
 have n2_ := aM (blk_below (g := gb281) (o := .cells #[.slice A1_0 l1_0.length c1_0, .int .i64 a1_1, .bool a1_2] 43 (0, 0)) (mB_ BK281.out) hb)
 have n3_ := aM (below_step (zt GE280.out GE281.out) hb)
 clear BK280
 clear BK281
 clear HB
 have HO284 := n0_
 have BK280 := n1_
 have BK281 := n2_
 have HB := n3_
 clear n0_ n1_ n2_ n3_
 (try clear hb)
 (try clear hb2)
 (try clear hk)
 (try clear hi)
 (try clear ho0)
 refine hK.out _ _ ⟨(blk_cell BK280.out 0).trans rfl, (blk_cell BK280.out 1).trans rfl, (blk_cell BK280.out 2).trans rfl, (blk_cell BK281.out 0).trans rfl, (blk_cell BK281.out 1).trans rfl, (blk_cell BK281.out 2).trans rfl⟩ (fun hHeld => ?_)
 clear hK K
 refine norm_ (a' := ?_) ?_ ?_
 rotate_left
 ·show Act.put _ (some 10) _ = _
  simp only [Act.put, xA, xB, xC, i64_w, i32_w]
  rfl
 refine one_ (i := 3) (N := some 12) #[true, true, true, true, false, false] rfl rfl (by kernel_rfl) (by decide) (fun K hK => ?_)
 refine goes_ Tryz.func35 (by kernel_rfl) rfl #[.agg #[.slice A1_0 l1_0.length c1_0, .int .i64 a1_1, .bool a1_2]] (by rfl) rfl rfl zm ?_
 with_reducible refine (spec_l11Forms.calls k _ _ l1_0 a1_1 a1_2 t285 _ ?side1 ?side2 A4.out).mono ?_
 (case side1 => repeat (first | exact (Kd.C_below HR1_0.out HB.out) | (with_reducible refine Kd.C_alloc ?_ _) | (with_reducible refine Kd.C_drewN ?_ _) | (with_reducible refine Kd.C_drew ?_)))
 (case side2 => exact HC1_0.out)
 rintro e w9 ⟨v286, rfl, ho0, hb⟩
 refine ⟨_, rfl, ?_⟩
 have n0_ := aM (Kd.V_below (mV_ HO284.out) hb)
 have n1_ := aM (Kd.V_lower (Kd.V_mono (ok' := fun k_ => k_ ≠ gb280 ∧ k_ ≠ gb281) ho0 (fun k_ hk_ => ⟨(Kd.freshB (g := gb280) (o := .cells #[.slice A0_0 l0_0.length c0_0, .int .i64 a0_1, .bool a0_2] 43 (0, 0)) (mB_ BK280.out) k_ hk_), (Kd.freshB (g := gb281) (o := .cells #[.slice A1_0 l1_0.length c1_0, .int .i64 a1_1, .bool a1_2] 43 (0, 0)) (mB_ BK281.out) k_ hk_)⟩)) (below_size (zt GE280.out GE281.out)))
 have n2_ := aM (blk_below (g := gb280) (o := .cells #[.slice A0_0 l0_0.length c0_0, .int .i64 a0_1, .bool a0_2] 43 (0, 0)) (mB_ BK280.out) hb)
 have n3_ := aM (blk_below (g := gb281) (o := .cells #[.slice A1_0 l1_0.length c1_0, .int .i64 a1_1, .bool a1_2] 43 (0, 0)) (mB_ BK281.out) hb)
 have n4_ := aM (below_step (zt GE280.out GE281.out) hb)
 clear HO284
 clear BK280
 clear BK281
 clear HB
 have HO284 := n0_
 have HO287 := n1_
 have BK280 := n2_
 have BK281 := n3_
 have HB := n4_
 clear n0_ n1_ n2_ n3_ n4_
 (try clear hb)
 (try clear hb2)
 (try clear hk)
 (try clear hi)
 (try clear ho0)
 refine hK.out _ _ ⟨(blk_cell BK280.out 0).trans rfl, (blk_cell BK280.out 1).trans rfl, (blk_cell BK280.out 2).trans rfl, (blk_cell BK281.out 0).trans rfl, (blk_cell BK281.out 1).trans rfl, (blk_cell BK281.out 2).trans rfl⟩ (fun hHeld => ?_)
 clear hK K
 refine norm_ (a' := ?_) ?_ ?_
 rotate_left
 ·show Act.put _ (some 12) _ = _
  simp only [Act.put, xA, xB, xC, i64_w, i32_w]
  rfl
 refine pure_ (i := 4) (N := some 5) (v := ?_) (a' := ?_) #[true, true, true, true, true, false] rfl rfl (by kernel_rfl) (fun _ _ _ h => h) (Or.inl ⟨by rfl, ?_⟩) ?_ ?_
 rotate_left
 ·intro w'
  go_simp
  with_reducible rfl
 rotate_left
 ·simp only [Act.put, xA, xB, xC, i64_w, i32_w]
  rfl
 refine pure_ (i := 5) (N := some 6) (v := ?_) (a' := ?_) #[true, true, true, true, true, true] rfl rfl (by kernel_rfl) (fun _ _ _ h => h) (Or.inl ⟨by rfl, ?_⟩) ?_ ?_
 rotate_left
 ·intro w'
  go_simp
  with_reducible rfl
 rotate_left
 ·simp only [Act.put, xA, xB, xC, i64_w, i32_w]
  rfl
 refine done_ (by kernel_rfl) ?_
 try go_wp2
 go_loopg [7] k (fun kq v7 w' => ∃ (x7_1 : Int), v7 = .int .i64 x7_1 ∧ Aside0 (spec_l11Alike.l0 kq t282 t285 x7_1 = some r) ∧ Aside0 (kq ≤ k) ∧ Aside0 (Kd.V (Kd.slice 58 k58) 28 w' w.heap.size (fun k_ => k_ ≠ gb280 ∧ k_ ≠ gb281) v283 t282) ∧ Aside0 (Kd.V (Kd.slice 58 k58) 28 w' w.heap.size (fun k_ => k_ ≠ gb280 ∧ k_ ≠ gb281) v286 t285) ∧ Aside0 (w'.heap[gb280]? = some (.cells #[(.slice A0_0 l0_0.length c0_0), .int .i64 a0_1, .bool a0_2] 43 (0, 0))) ∧ Aside0 (w'.heap[gb281]? = some (.cells #[(.slice A1_0 l1_0.length c1_0), .int .i64 a1_1, .bool a1_2] 43 (0, 0))) ∧ Aside0 (Below w.heap.size w w'))
 case atStart => exact ⟨(0), zr, H', ⟨Nat.le_refl _⟩, ⟨mV_ HO284.out⟩, ⟨mV_ HO287.out⟩, ⟨mB_ BK280.out⟩, ⟨mB_ BK281.out⟩, ⟨zt GE280.out GE281.out⟩⟩
 case round =>
  clear H'
  try clear c1
  try clear c2
  try clear p2
  try clear c3
  obtain ⟨x7_1, rfl, HA, HK1, HO_5, HO_6, BK280, BK281, HB⟩ := hrel
  cases gk with
  | zero => exact absurd HA.out (by simp [spec_l11Alike.l0])
  | succ k1 =>
   have H := HA.out
   clear HA
   simp only [spec_l11Alike.l0] at H
   by_cases c10 : x7_1 < (t282.length : Int)
   rotate_left
   ·rw [if_neg c10] at H
    have c10b0 : decide (x7_1 < (t282.length : Int)) = false := decide_eq_false c10
    clear c10
    obtain rfl := Option.some.inj H
    obtain ⟨Ao25, co25, eo25⟩ := Kd.V_slice HO_5.out
    subst eo25
    go_wp2
    go_ret
    exact ⟨zw, zt GE280.out GE281.out⟩
   rw [if_pos c10] at H
   have c10b0 : decide (x7_1 < (t282.length : Int)) = true := decide_eq_true c10
   clear c10
   have H' := aM H
   clear H
   obtain ⟨Ao11, co11, eo11⟩ := Kd.V_slice HO_5.out
   subst eo11
   go_wp2
   go_loopg [8] k1 (fun kq v8 w' => ∃ (x8_2 : Int), v8 = .int .i64 x8_2 ∧ Aside0 (spec_l11Alike.l1 kq t282 t285 x7_1 x8_2 = some r) ∧ Aside0 (kq ≤ k1) ∧ Aside0 (Kd.V (Kd.slice 58 k58) 28 w' w.heap.size (fun k_ => k_ ≠ gb280 ∧ k_ ≠ gb281) (.slice Ao11 t282.length co11) t282) ∧ Aside0 (Kd.V (Kd.slice 58 k58) 28 w' w.heap.size (fun k_ => k_ ≠ gb280 ∧ k_ ≠ gb281) v286 t285) ∧ Aside0 (w'.heap[gb280]? = some (.cells #[(.slice A0_0 l0_0.length c0_0), .int .i64 a0_1, .bool a0_2] 43 (0, 0))) ∧ Aside0 (w'.heap[gb281]? = some (.cells #[(.slice A1_0 l1_0.length c1_0), .int .i64 a1_1, .bool a1_2] 43 (0, 0))) ∧ Aside0 (Below w.heap.size w w'))
   case atStart => exact ⟨(0), zr, H', ⟨Nat.le_refl _⟩, ⟨mV_ HO_5.out⟩, ⟨mV_ HO_6.out⟩, ⟨mB_ BK280.out⟩, ⟨mB_ BK281.out⟩, ⟨zt GE280.out GE281.out⟩⟩
   case round =>
    clear H'
    try clear c1
    try clear c2
    try clear p2
    try clear c3
    try clear c10
    try clear c10b0
    try clear p2
    obtain ⟨x8_2, rfl, HA, HK2, HO_5, HO_6, BK280, BK281, HB⟩ := hrel
    cases gk with
    | zero => exact absurd HA.out (by simp [spec_l11Alike.l1])
    | succ k2 =>
     have H := HA.out
     clear HA
     simp only [spec_l11Alike.l1] at H
     by_cases c12 : x8_2 < (t285.length : Int)
     rotate_left
     ·rw [if_neg c12] at H
      have c12b0 : decide (x8_2 < (t285.length : Int)) = false := decide_eq_false c12
      clear c12
      have H' := aM H
      clear H
      obtain ⟨Ao24, co24, eo24⟩ := Kd.V_slice HO_6.out
      subst eo24
      go_wp2
      go_roundg k2
      case measure => have := HK1.out; have := HK2.out; omega
      case rel => exact ⟨(wrap64 (x7_1 + 1)), zr, H', ⟨by have := HK1.out; have := HK2.out; omega⟩, ⟨mV_ HO_5.out⟩, ⟨mV_ HO_6.out⟩, ⟨mB_ BK280.out⟩, ⟨mB_ BK281.out⟩, ⟨zt GE280.out GE281.out⟩⟩
     rw [if_pos c12] at H
     have c12b0 : decide (x8_2 < (t285.length : Int)) = true := decide_eq_true c12
     clear c12
     by_cases c13 : 0 ≤ x7_1
     rotate_left
     ·rw [if_neg c13] at H
      exact absurd H (by simp)
     rw [if_pos c13] at H
     have c13b0 : decide (0 ≤ x7_1) = true := decide_eq_true c13
     clear c13
     by_cases c14 : x7_1 < (t282.length : Int)
     rotate_left
     ·rw [if_neg c14] at H
      exact absurd H (by simp)
     rw [if_pos c14] at H
     have c14b0 : decide (x7_1 < (t282.length : Int)) = true := decide_eq_true c14
     clear c14
     by_cases c15 : 0 ≤ x8_2
     rotate_left
     ·rw [if_neg c15] at H
      exact absurd H (by simp)
     rw [if_pos c15] at H
     have c15b0 : decide (0 ≤ x8_2) = true := decide_eq_true c15
     clear c15
     replace H := Option.bind_eq_some_iff.mp H
     obtain ⟨t290, A160, H⟩ := H
     replace H : (if t290 = 0 then (some true) else (spec_l11Alike.l1 k2 t282 t285 x7_1 (wrap64 (x8_2 + 1)))) = some r := H
     have A16 := aM A160
     clear A160
     by_cases c17 : t290 = 0
     ·rw [if_pos c17] at H
      have c17b0 : (t290 == 0) = true := beq_iff_eq.mpr c17
      have c17b1 : (t290 != 0) = false := bne_eq_false_iff_eq.mpr c17
      clear c17
      obtain rfl := Option.some.inj H
      obtain ⟨Ao18, co18, eo18⟩ := Kd.V_slice HO_6.out
      subst eo18
      try go_wp2
      have n0_ := aM (Kd.V_drew HO_5.out)
      have n1_ := aM (Kd.V_drew HO_6.out)
      have n2_ := aM (blk_drew BK280.out)
      have n3_ := aM (blk_drew BK281.out)
      have n4_ := aM (below_drew1 HB.out)
      clear HO_5
      clear HO_6
      clear BK280
      clear BK281
      clear HB
      have HO_5 := n0_
      have HO_6 := n1_
      have BK280 := n2_
      have BK281 := n3_
      have HB := n4_
      clear n0_ n1_ n2_ n3_ n4_
      have p288 : 0 ≤ (x7_1 : Int) := of_decide_eq_true za
      have q288 : x7_1 < (t282.length : Int) := of_decide_eq_true za
      obtain ⟨ad288, A288_0, c288_0, e288, hx288_0, hl288_0, hi288_0⟩ := at_L2 (Kd.V_reads' HO_5.out).2.2 x7_1 p288 q288
      cases e288
      obtain ⟨ce288, hce288, hMe288, hcc288⟩ := Kd.V_get HO_5.out [] x7_1 p288 (by first | exact q288 | exact of_decide_eq_true za | (have e_ := (Kd.V_reads' HO_5.out).1; omega))
      obtain ⟨ua288_0, uc288_0, rfl, ul288_0, ge288_0⟩ := Kd.FK_slice_open hMe288
      have hv288_0 := hcc288 0 _ rfl
      rw [Nat.add_zero, show ((Kd.slice 58 k58)).sz = 1 from rfl, Nat.mul_one] at hv288_0
      replace hv288_0 := Option.some.inj (hv288_0.symm.trans hx288_0)
      injection hv288_0 with hva_ hvn_ hvc_
      rw [hva_] at ge288_0
      rw [hvc_] at ul288_0
      have HL288_0 := aM (show Kd.V k58 58 _ w.heap.size _ _ (rd_L2 t282 x7_1) from Kd.V_mk ul288_0 ge288_0)
      clear hva_ hvn_ hvc_ ge288_0 ul288_0
      clear hcc288 hce288
      have HR288_0 := aM hi288_0
      have HC288_0 := aM hl288_0
      clear hi288_0 hl288_0
      replace p288 := eq_true p288
      replace q288 := eq_true q288
      have p289 : 0 ≤ (x8_2 : Int) := of_decide_eq_true za
      have q289 : x8_2 < (t285.length : Int) := of_decide_eq_true za
      obtain ⟨ad289, A289_0, c289_0, e289, hx289_0, hl289_0, hi289_0⟩ := at_L2 (Kd.V_reads' HO_6.out).2.2 x8_2 p289 q289
      cases e289
      obtain ⟨ce289, hce289, hMe289, hcc289⟩ := Kd.V_get HO_6.out [] x8_2 p289 (by first | exact q289 | exact of_decide_eq_true za | (have e_ := (Kd.V_reads' HO_6.out).1; omega))
      obtain ⟨ua289_0, uc289_0, rfl, ul289_0, ge289_0⟩ := Kd.FK_slice_open hMe289
      have hv289_0 := hcc289 0 _ rfl
      rw [Nat.add_zero, show ((Kd.slice 58 k58)).sz = 1 from rfl, Nat.mul_one] at hv289_0
      replace hv289_0 := Option.some.inj (hv289_0.symm.trans hx289_0)
      injection hv289_0 with hva_ hvn_ hvc_
      rw [hva_] at ge289_0
      rw [hvc_] at ul289_0
      have HL289_0 := aM (show Kd.V k58 58 _ w.heap.size _ _ (rd_L2 t285 x8_2) from Kd.V_mk ul289_0 ge289_0)
      clear hva_ hvn_ hvc_ ge289_0 ul289_0
      clear hcc289 hce289
      have HR289_0 := aM hi289_0
      have HC289_0 := aM hl289_0
      clear hi289_0 hl289_0
      replace p289 := eq_true p289
      replace q289 := eq_true q289
      refine start_ (n := 10) (S := fun w' => w'.cell? (ad288.add (x7_1).toNat) = some (.slice A288_0 (rd_L2 t282 x7_1).length c288_0) ∧ w'.cell? (ad289.add (x8_2).toNat) = some (.slice A289_0 (rd_L2 t285 x8_2).length c289_0)) (ds := []) zA52 (by kernel_rfl) rfl rfl ⟨hx288_0, hx289_0⟩ (fun hHeld => ?_); refine with_tabW spec_l11Alike.tab8 spec_l11Alike.bits8 (fun HT_ HW_ => ?_)
      generalize wr.drew = w19 at HO_5 HO_6 BK280 BK281 HB HL288_0 HL289_0 HR288_0 HR289_0 hx288_0 hx289_0 hHeld ⊢
      refine zp 0 (some 25) ?_ zA53 rfl rfl (Or.inl ⟨by rfl, ?_⟩) ?_ ?_ ?_
      rotate_left
      ·intro w'
       go_simp
       with_reducible rfl
      rotate_left
      ·simp only [Act.put, xA, xB, xC, i64_w, i32_w]
       rfl
      refine zp 1 (some 26) ?_ zA54 rfl rfl (Or.inl ⟨by rfl, ?_⟩) ?_ ?_ ?_
      rotate_left
      ·intro w'
       go_simp
       with_reducible rfl
      rotate_left
      ·simp only [Act.put, xA, xB, xC, i64_w, i32_w]
       rfl
      refine zp 2 (some 27) ?_ zA55 rfl rfl (Or.inl ⟨by rfl, ?_⟩) ?_ ?_ ?_
      rotate_left
      ·intro w'
       go_simp
       with_reducible rfl
      rotate_left
      ·simp only [Act.put, xA, xB, xC, i64_w, i32_w]
       rfl
      refine zp 4 (some 29) ?_ zA63 rfl rfl (Or.inl ⟨by rfl, ?_⟩) ?_ ?_ ?_
      rotate_left
      ·intro w'
       go_simp
       with_reducible rfl
      rotate_left
      ·simp only [Act.put, xA, xB, xC, i64_w, i32_w]
       rfl
      refine zp 5 (some 30) ?_ zA64 rfl rfl (Or.inl ⟨by rfl, ?_⟩) ?_ ?_ ?_
      rotate_left
      ·intro w'
       go_simp
       with_reducible rfl
      rotate_left
      ·simp only [Act.put, xA, xB, xC, i64_w, i32_w]
       rfl
      refine zp 6 (some 31) ?_ zA65 rfl rfl (Or.inl ⟨by rfl, ?_⟩) ?_ ?_ ?_
      rotate_left
      ·intro w'
       go_simp
       with_reducible rfl
      rotate_left
      ·simp only [Act.put, xA, xB, xC, i64_w, i32_w]
       rfl
      refine zu 3 (some 28) ?_ zA59 rfl rfl (Or.inl ⟨by rfl, ?_⟩) hHeld ?_ ?_ ?_
      rotate_left
      ·rintro w' ⟨s0, s1⟩
       go_simp
       with_reducible rfl
      rotate_left
      ·simp only [Act.put, xA, xB, xC, i64_w, i32_w]
       rfl
      refine zu 7 (some 32) ?_ zA60 rfl rfl (Or.inl ⟨by rfl, ?_⟩) hHeld ?_ ?_ ?_
      rotate_left
      ·rintro w' ⟨s0, s1⟩
       go_simp
       with_reducible rfl
      rotate_left
      ·simp only [Act.put, xA, xB, xC, i64_w, i32_w]
       rfl
      refine one_ (i := 8) (N := some 33) zA61 rfl rfl (one_of HT_.out (by kernel_rfl)) (by decide) (fun K hK => ?_)
      refine goes_ Tryz.func36 (by kernel_rfl) rfl #[.slice A288_0 (rd_L2 t282 x7_1).length c288_0, .slice A289_0 (rd_L2 t285 x8_2).length c289_0] (by rfl) rfl rfl zm ?_
      with_reducible refine (spec_CompareShapes.calls k2 _ _ (rd_L2 t282 x7_1) _ _ (rd_L2 t285 x8_2) t290 _ ?side1 ?side2 ?side3 ?side4 A16.out).mono ?_
      (case side1 => repeat (first | exact (mQ_ HR288_0.out) | (with_reducible refine Kd.C_alloc ?_ _) | (with_reducible refine Kd.C_drewN ?_ _) | (with_reducible refine Kd.C_drew ?_)))
      (case side2 => exact HC288_0.out)
      (case side3 => repeat (first | exact (mQ_ HR289_0.out) | (with_reducible refine Kd.C_alloc ?_ _) | (with_reducible refine Kd.C_drewN ?_ _) | (with_reducible refine Kd.C_drew ?_)))
      (case side4 => exact HC289_0.out)
      rintro e w20 ⟨rfl, hb⟩
      have HS0_ := zk hb (hHeld.1)
      have HS1_ := zk hb (hHeld.2)
      refine ⟨_, rfl, ?_⟩
      have n0_ := aM (Kd.V_below (mV_ HO_5.out) hb)
      have n1_ := aM (Kd.V_below (mV_ HO_6.out) hb)
      have n2_ := aM (Kd.V_below (mV_ HL288_0.out) hb)
      have n3_ := aM (Kd.V_below (mV_ HL289_0.out) hb)
      have n4_ := aM (blk_below (g := gb280) (o := .cells #[.slice A0_0 l0_0.length c0_0, .int .i64 a0_1, .bool a0_2] 43 (0, 0)) (mB_ BK280.out) hb)
      have n5_ := aM (blk_below (g := gb281) (o := .cells #[.slice A1_0 l1_0.length c1_0, .int .i64 a1_1, .bool a1_2] 43 (0, 0)) (mB_ BK281.out) hb)
      have n6_ := aM (Kd.C_below (mQ_ HR288_0.out) hb)
      have n7_ := aM (Kd.C_below (mQ_ HR289_0.out) hb)
      have n8_ := aM (below_step (zt GE280.out GE281.out) hb)
      clear HO_5
      clear HO_6
      clear HL288_0
      clear HL289_0
      clear BK280
      clear BK281
      clear HR288_0
      clear HR289_0
      clear HB
      have HO_5 := n0_
      have HO_6 := n1_
      have HL288_0 := n2_
      have HL289_0 := n3_
      have BK280 := n4_
      have BK281 := n5_
      have HR288_0 := n6_
      have HR289_0 := n7_
      have HB := n8_
      clear n0_ n1_ n2_ n3_ n4_ n5_ n6_ n7_ n8_
      (try clear hb)
      (try clear hb2)
      (try clear hk)
      (try clear hi)
      refine hK.out _ _ ⟨HS0_, HS1_⟩ (fun hHeld => ?_)
      clear hK K
      refine norm_ (a' := ?_) ?_ ?_
      rotate_left
      ·show Act.put _ (some 33) _ = _
       simp only [Act.put, xA, xB, xC, i64_w, i32_w]
       rfl
      refine zp 9 (some 34) ?_ zA62 rfl rfl (Or.inl ⟨by rfl, ?_⟩) ?_ ?_ ?_
      rotate_left
      ·intro w'
       go_simp
       with_reducible rfl
      rotate_left
      ·simp only [Act.put, xA, xB, xC, i64_w, i32_w]
       rfl
      refine done_ (done_of HT_.out (by kernel_rfl)) ?_
      try go_wp2
      go_ret
      exact ⟨zw, zt GE280.out GE281.out⟩
     rw [if_neg c17] at H
     have c17b0 : (t290 == 0) = false := beq_eq_false_iff_ne.mpr c17
     have c17b1 : (t290 != 0) = true := bne_iff_ne.mpr c17
     have H' := aM H
     clear H
     obtain ⟨Ao21, co21, eo21⟩ := Kd.V_slice HO_6.out
     subst eo21
     try go_wp2
     have n0_ := aM (Kd.V_drew HO_5.out)
     have n1_ := aM (Kd.V_drew HO_6.out)
     have n2_ := aM (blk_drew BK280.out)
     have n3_ := aM (blk_drew BK281.out)
     have n4_ := aM (below_drew1 HB.out)
     clear HO_5
     clear HO_6
     clear BK280
     clear BK281
     clear HB
     have HO_5 := n0_
     have HO_6 := n1_
     have BK280 := n2_
     have BK281 := n3_
     have HB := n4_
     clear n0_ n1_ n2_ n3_ n4_
     have p288 : 0 ≤ (x7_1 : Int) := of_decide_eq_true za
     have q288 : x7_1 < (t282.length : Int) := of_decide_eq_true za
     obtain ⟨ad288, A288_0, c288_0, e288, hx288_0, hl288_0, hi288_0⟩ := at_L2 (Kd.V_reads' HO_5.out).2.2 x7_1 p288 q288
     cases e288
     obtain ⟨ce288, hce288, hMe288, hcc288⟩ := Kd.V_get HO_5.out [] x7_1 p288 (by first | exact q288 | exact of_decide_eq_true za | (have e_ := (Kd.V_reads' HO_5.out).1; omega))
     obtain ⟨ua288_0, uc288_0, rfl, ul288_0, ge288_0⟩ := Kd.FK_slice_open hMe288
     have hv288_0 := hcc288 0 _ rfl
     rw [Nat.add_zero, show ((Kd.slice 58 k58)).sz = 1 from rfl, Nat.mul_one] at hv288_0
     replace hv288_0 := Option.some.inj (hv288_0.symm.trans hx288_0)
     injection hv288_0 with hva_ hvn_ hvc_
     rw [hva_] at ge288_0
     rw [hvc_] at ul288_0
     have HL288_0 := aM (show Kd.V k58 58 _ w.heap.size _ _ (rd_L2 t282 x7_1) from Kd.V_mk ul288_0 ge288_0)
     clear hva_ hvn_ hvc_ ge288_0 ul288_0
     clear hcc288 hce288
     have HR288_0 := aM hi288_0
     have HC288_0 := aM hl288_0
     clear hi288_0 hl288_0
     replace p288 := eq_true p288
     replace q288 := eq_true q288
     have p289 : 0 ≤ (x8_2 : Int) := of_decide_eq_true za
     have q289 : x8_2 < (t285.length : Int) := of_decide_eq_true za
     obtain ⟨ad289, A289_0, c289_0, e289, hx289_0, hl289_0, hi289_0⟩ := at_L2 (Kd.V_reads' HO_6.out).2.2 x8_2 p289 q289
     cases e289
     obtain ⟨ce289, hce289, hMe289, hcc289⟩ := Kd.V_get HO_6.out [] x8_2 p289 (by first | exact q289 | exact of_decide_eq_true za | (have e_ := (Kd.V_reads' HO_6.out).1; omega))
     obtain ⟨ua289_0, uc289_0, rfl, ul289_0, ge289_0⟩ := Kd.FK_slice_open hMe289
     have hv289_0 := hcc289 0 _ rfl
     rw [Nat.add_zero, show ((Kd.slice 58 k58)).sz = 1 from rfl, Nat.mul_one] at hv289_0
     replace hv289_0 := Option.some.inj (hv289_0.symm.trans hx289_0)
     injection hv289_0 with hva_ hvn_ hvc_
     rw [hva_] at ge289_0
     rw [hvc_] at ul289_0
     have HL289_0 := aM (show Kd.V k58 58 _ w.heap.size _ _ (rd_L2 t285 x8_2) from Kd.V_mk ul289_0 ge289_0)
     clear hva_ hvn_ hvc_ ge289_0 ul289_0
     clear hcc289 hce289
     have HR289_0 := aM hi289_0
     have HC289_0 := aM hl289_0
     clear hi289_0 hl289_0
     replace p289 := eq_true p289
     replace q289 := eq_true q289
     refine start_ (n := 10) (S := fun w' => w'.cell? (ad288.add (x7_1).toNat) = some (.slice A288_0 (rd_L2 t282 x7_1).length c288_0) ∧ w'.cell? (ad289.add (x8_2).toNat) = some (.slice A289_0 (rd_L2 t285 x8_2).length c289_0)) (ds := []) zA52 (by kernel_rfl) rfl rfl ⟨hx288_0, hx289_0⟩ (fun hHeld => ?_); refine with_tabW spec_l11Alike.tab8 spec_l11Alike.bits8 (fun HT_ HW_ => ?_)
     generalize wr.drew = w22 at HO_5 HO_6 BK280 BK281 HB HL288_0 HL289_0 HR288_0 HR289_0 hx288_0 hx289_0 hHeld ⊢
     refine zp 0 (some 25) ?_ zA53 rfl rfl (Or.inl ⟨by rfl, ?_⟩) ?_ ?_ ?_
     rotate_left
     ·intro w'
      go_simp
      with_reducible rfl
     rotate_left
     ·simp only [Act.put, xA, xB, xC, i64_w, i32_w]
      rfl
     refine zp 1 (some 26) ?_ zA54 rfl rfl (Or.inl ⟨by rfl, ?_⟩) ?_ ?_ ?_
     rotate_left
     ·intro w'
      go_simp
      with_reducible rfl
     rotate_left
     ·simp only [Act.put, xA, xB, xC, i64_w, i32_w]
      rfl
     refine zp 2 (some 27) ?_ zA55 rfl rfl (Or.inl ⟨by rfl, ?_⟩) ?_ ?_ ?_
     rotate_left
     ·intro w'
      go_simp
      with_reducible rfl
     rotate_left
     ·simp only [Act.put, xA, xB, xC, i64_w, i32_w]
      rfl
     refine zp 4 (some 29) ?_ zA63 rfl rfl (Or.inl ⟨by rfl, ?_⟩) ?_ ?_ ?_
     rotate_left
     ·intro w'
      go_simp
      with_reducible rfl
     rotate_left
     ·simp only [Act.put, xA, xB, xC, i64_w, i32_w]
      rfl
     refine zp 5 (some 30) ?_ zA64 rfl rfl (Or.inl ⟨by rfl, ?_⟩) ?_ ?_ ?_
     rotate_left
     ·intro w'
      go_simp
      with_reducible rfl
     rotate_left
     ·simp only [Act.put, xA, xB, xC, i64_w, i32_w]
      rfl
     refine zp 6 (some 31) ?_ zA65 rfl rfl (Or.inl ⟨by rfl, ?_⟩) ?_ ?_ ?_
     rotate_left
     ·intro w'
      go_simp
      with_reducible rfl
     rotate_left
     ·simp only [Act.put, xA, xB, xC, i64_w, i32_w]
      rfl
     refine zu 3 (some 28) ?_ zA59 rfl rfl (Or.inl ⟨by rfl, ?_⟩) hHeld ?_ ?_ ?_
     rotate_left
     ·rintro w' ⟨s0, s1⟩
      go_simp
      with_reducible rfl
     rotate_left
     ·simp only [Act.put, xA, xB, xC, i64_w, i32_w]
      rfl
     refine zu 7 (some 32) ?_ zA60 rfl rfl (Or.inl ⟨by rfl, ?_⟩) hHeld ?_ ?_ ?_
     rotate_left
     ·rintro w' ⟨s0, s1⟩
      go_simp
      with_reducible rfl
     rotate_left
     ·simp only [Act.put, xA, xB, xC, i64_w, i32_w]
      rfl
     refine one_ (i := 8) (N := some 33) zA61 rfl rfl (one_of HT_.out (by kernel_rfl)) (by decide) (fun K hK => ?_)
     refine goes_ Tryz.func36 (by kernel_rfl) rfl #[.slice A288_0 (rd_L2 t282 x7_1).length c288_0, .slice A289_0 (rd_L2 t285 x8_2).length c289_0] (by rfl) rfl rfl zm ?_
     with_reducible refine (spec_CompareShapes.calls k2 _ _ (rd_L2 t282 x7_1) _ _ (rd_L2 t285 x8_2) t290 _ ?side1 ?side2 ?side3 ?side4 A16.out).mono ?_
     (case side1 => repeat (first | exact (mQ_ HR288_0.out) | (with_reducible refine Kd.C_alloc ?_ _) | (with_reducible refine Kd.C_drewN ?_ _) | (with_reducible refine Kd.C_drew ?_)))
     (case side2 => exact HC288_0.out)
     (case side3 => repeat (first | exact (mQ_ HR289_0.out) | (with_reducible refine Kd.C_alloc ?_ _) | (with_reducible refine Kd.C_drewN ?_ _) | (with_reducible refine Kd.C_drew ?_)))
     (case side4 => exact HC289_0.out)
     rintro e w23 ⟨rfl, hb⟩
     have HS0_ := zk hb (hHeld.1)
     have HS1_ := zk hb (hHeld.2)
     refine ⟨_, rfl, ?_⟩
     have n0_ := aM (Kd.V_below (mV_ HO_5.out) hb)
     have n1_ := aM (Kd.V_below (mV_ HO_6.out) hb)
     have n2_ := aM (Kd.V_below (mV_ HL288_0.out) hb)
     have n3_ := aM (Kd.V_below (mV_ HL289_0.out) hb)
     have n4_ := aM (blk_below (g := gb280) (o := .cells #[.slice A0_0 l0_0.length c0_0, .int .i64 a0_1, .bool a0_2] 43 (0, 0)) (mB_ BK280.out) hb)
     have n5_ := aM (blk_below (g := gb281) (o := .cells #[.slice A1_0 l1_0.length c1_0, .int .i64 a1_1, .bool a1_2] 43 (0, 0)) (mB_ BK281.out) hb)
     have n6_ := aM (Kd.C_below (mQ_ HR288_0.out) hb)
     have n7_ := aM (Kd.C_below (mQ_ HR289_0.out) hb)
     have n8_ := aM (below_step (zt GE280.out GE281.out) hb)
     clear HO_5
     clear HO_6
     clear HL288_0
     clear HL289_0
     clear BK280
     clear BK281
     clear HR288_0
     clear HR289_0
     clear HB
     have HO_5 := n0_
     have HO_6 := n1_
     have HL288_0 := n2_
     have HL289_0 := n3_
     have BK280 := n4_
     have BK281 := n5_
     have HR288_0 := n6_
     have HR289_0 := n7_
     have HB := n8_
     clear n0_ n1_ n2_ n3_ n4_ n5_ n6_ n7_ n8_
     (try clear hb)
     (try clear hb2)
     (try clear hk)
     (try clear hi)
     refine hK.out _ _ ⟨HS0_, HS1_⟩ (fun hHeld => ?_)
     clear hK K
     refine norm_ (a' := ?_) ?_ ?_
     rotate_left
     ·show Act.put _ (some 33) _ = _
      simp only [Act.put, xA, xB, xC, i64_w, i32_w]
      rfl
     refine zp 9 (some 34) ?_ zA62 rfl rfl (Or.inl ⟨by rfl, ?_⟩) ?_ ?_ ?_
     rotate_left
     ·intro w'
      go_simp
      with_reducible rfl
     rotate_left
     ·simp only [Act.put, xA, xB, xC, i64_w, i32_w]
      rfl
     refine done_ (done_of HT_.out (by kernel_rfl)) ?_
     try go_wp2
     go_roundg k2
     case measure => have := HK1.out; have := HK2.out; omega
     case rel => exact ⟨(wrap64 (x8_2 + 1)), zr, H', ⟨by have := HK1.out; have := HK2.out; omega⟩, ⟨mV_ HO_5.out⟩, ⟨mV_ HO_6.out⟩, ⟨mB_ BK280.out⟩, ⟨mB_ BK281.out⟩, ⟨zt GE280.out GE281.out⟩⟩
end Go.Proofs.YtfdfdifjkaaeoaaGreat.F
end
section
namespace Go.Proofs.YtfdfdifjkaaeoaaGreat.F
open Go.RowKit Go.Proofs.YtfdfdifjkaaeoaaGreatW.PrintWords Go.Proofs.YtfdfdifjkaaeoaaGreatW.PrintLast Go.Proofs.YtfdfdifjkaaeoaaGreatW.PrintMore
attribute [local go_sem] max2_int min2_int max_two min_two max_three min_three max_four min_four
set_option linter.unusedVariables false
set_option linter.unusedSimpArgs false
mutual
def spec_IsPuzzle.j0 : Nat → Bool → List (S58) → List (S43) → Option (Bool)
 | 0, _, _, _ => none
 | k + 1, x15, x292000, x292001 => if x15 = true then (some false) else (spec_IsPuzzle.l0 k 0 x292000 x292001)
def spec_IsPuzzle.l0 : Nat → Int → List (S58) → List (S43) → Option (Bool)
 | 0, _, _, _ => none
 | k + 1, x3, x292000, x292001 => if x3 < (x292001.length : Int) then (if 0 ≤ x3 then ((spec_IsPiece.f k ((rd_T43 x292001 x3).f0) ((rd_T43 x292001 x3).f1) ((rd_T43 x292001 x3).f2)).bind fun t295 => (if t295 = true then (spec_IsPuzzle.l1 k x3 0 x292000 x292001) else (some false))) else (none)) else (some true)
def spec_IsPuzzle.l1 : Nat → Int → Int → List (S58) → List (S43) → Option (Bool)
 | 0, _, _, _, _ => none
 | k + 1, x3, x4, x292000, x292001 => if x4 < x3 then (if 0 ≤ x3 then (if x3 < (x292001.length : Int) then (if 0 ≤ x4 then (if x4 < (x292001.length : Int) then ((spec_l11Alike.f k ((rd_T43 x292001 x3).f0) ((rd_T43 x292001 x3).f1) ((rd_T43 x292001 x3).f2) ((rd_T43 x292001 x4).f0) ((rd_T43 x292001 x4).f1) ((rd_T43 x292001 x4).f2)).bind fun t298 => (if t298 = true then (some false) else (spec_IsPuzzle.l1 k x3 (wrap64 (x4 + 1)) x292000 x292001))) else (none)) else (none)) else (none)) else (none)) else (spec_IsPuzzle.l0 k (wrap64 (x3 + 1)) x292000 x292001)
end
def spec_IsPuzzle.f (k : Nat) (l0_0 : List (S58)) (l0_1 : List (S43)) : Option (Bool) := (spec_IsRegion.f k l0_0).bind fun t292 => (if t292 = true then ((spec_l01In.f (l0_1.length : Int) 1 12).bind fun t293 => (spec_IsPuzzle.j0 k (!t293) l0_0 l0_1)) else (spec_IsPuzzle.j0 k true l0_0 l0_1))
def spec_IsPuzzle.T11 : Bool × List (List Nat × List Nat) := (true, [([], []), ([0], [0]), ([], []), ([1, 2], [1, 2]), ([3], [3]), ([], []), ([5], [5]), ([], []), ([6, 7], [6, 7]), ([8], [8]), ([4, 9], [4, 9])])
def spec_IsPuzzle.B11 : List Nat := [0, 1, 0, 7, 15, 0, 32, 0, 224, 480, 1023]
theorem spec_IsPuzzle.tab11 : rtab .any (opsOf Tryz.f7 11) = spec_IsPuzzle.T11 := by kernel_rfl
theorem spec_IsPuzzle.bits11 : waitsOk spec_IsPuzzle.T11.2 spec_IsPuzzle.B11 = true := by kernel_rfl
theorem spec_IsPuzzle.calls (k : Nat) (A0_0 : Option Addr) (c0_0 : Nat) (l0_0 : List (S58)) (A0_1 : Option Addr) (c0_1 : Nat) (l0_1 : List (S43)) (r : Bool) (w : World) (hr0_0 : Kd.C k58 w A0_0 l0_0.length l0_0) (hc0_0 : l0_0.length ≤ c0_0) (hr0_1 : Kd.C k43 w A0_1 l0_1.length l0_1) (hc0_1 : l0_1.length ≤ c0_1) (h : spec_IsPuzzle.f k l0_0 l0_1 = some r) :
  Calls Tryz.prog 7 #[.agg #[.slice A0_0 l0_0.length c0_0, .slice A0_1 l0_1.length c0_1]] w fun e w' => e = .returned (.bool r) ∧ Below w.heap.size w w' := by
 have hu31 := Tryz.underlying31
 have hu43 := Tryz.underlying43
 have HR0_0 := aM hr0_0
 have HC0_0 := aM hc0_0
 clear hr0_0 hc0_0
 have HR0_1 := aM hr0_1
 have HC0_1 := aM hc0_1
 clear hr0_1 hc0_1
 have HB := aM (Below.refl w.heap.size w)
 have H : ((spec_IsRegion.f k l0_0).bind fun t292 => (if t292 = true then ((spec_l01In.f (l0_1.length : Int) 1 12).bind fun t293 => (spec_IsPuzzle.j0 k (!t293) l0_0 l0_1)) else (spec_IsPuzzle.j0 k true l0_0 l0_1))) = some r := h
 clear h
 have HC2 := aM H
 clear H
 go_enter Tryz.func7, Tryz.ntmps7
 go_upto_region 1 with (first | ((with_reducible refine gate_dst (N := 1) rfl ?_); (try (refine gate_guard (by rfl) ?_; dsimp only)); refine zx 1 #[.slice A0_0 l0_0.length c0_0, .slice A0_1 l0_1.length c0_1] 31 ?_; intro gb291 hg w3 hbox hb; have n0_ := aM (below_step zb hb); have n1_ := aM (hbox); have n2_ := aM ((ze : w.heap.size ≤ gb291)); have n3_ := aM ((ze : w.heap.size ≤ gb291)); clear HB; have HB := n0_; have BK291 := n1_; have GW291 := n2_; have GE291 := n3_; clear n0_ n1_ n2_ n3_; clear hb hbox hg))
 (try simp only [Act.put, xA, xB, xC])
 go_cut [15] (fun v15 wc => ∃ (kq : Nat) (x15_1 : Bool), v15 = .bool x15_1 ∧ Aside0 (spec_IsPuzzle.j0 kq x15_1 l0_0 l0_1 = some r) ∧ Aside0 (kq ≤ k) ∧ Aside0 (wc.heap[gb291]? = some (.cells #[(.slice A0_0 l0_0.length c0_0), (.slice A0_1 l0_1.length c0_1)] 31 (0, 0))) ∧ Aside0 (Below w.heap.size w wc))
 case first =>
  have H := HC2.out
  clear HC2
  replace H := Option.bind_eq_some_iff.mp H
  obtain ⟨t292, A40, H⟩ := H
  replace H : (if t292 = true then ((spec_l01In.f (l0_1.length : Int) 1 12).bind fun t293 => (spec_IsPuzzle.j0 k (!t293) l0_0 l0_1)) else (spec_IsPuzzle.j0 k true l0_0 l0_1)) = some r := H
  have A4 := aM A40
  clear A40
  by_cases c5 : t292 = true
  rotate_left
  ·replace c5 := Bool.eq_false_iff.mpr c5
   subst c5
   have H1 : (spec_IsPuzzle.j0 k true l0_0 l0_1) = some r := by rw [if_neg (show ¬ (false = true) by decide)] at H; exact H
   clear H
   have H := H1
   clear H1
   have H' := aM H
   clear H
   have hcz10_0 : w3.cell? ⟨gb291, 0, none⟩ = some (.slice A0_0 l0_0.length c0_0) := (blk_cell BK291.out 0).trans rfl
   have hcz10_1 : w3.cell? ⟨gb291, 1, none⟩ = some (.slice A0_1 l0_1.length c0_1) := (blk_cell BK291.out 1).trans rfl
   have hfz10_0 := blk_frozen BK291.out 0
   have hfz10_1 := blk_frozen BK291.out 1
   go_wp2_with (first | ((with_reducible refine gate_callee (f := 17) rfl ?_); refine goesL_ (some 7) rfl rfl Tryz.func17 (by kernel_rfl) rfl #[.slice A0_0 l0_0.length c0_0] rfl zm ?_; (with_reducible refine (spec_IsRegion.calls k _ _ l0_0 false _ ?side1 ?side2 A4.out).mono ?_); (case side1 => repeat (first | exact (Kd.C_below HR0_0.out HB.out) | (with_reducible refine Kd.C_alloc ?_ _) | (with_reducible refine Kd.C_drewN ?_ _) | (with_reducible refine Kd.C_drew ?_))); (case side2 => exact HC0_0.out); rintro e w11 ⟨rfl, hb⟩; refine ⟨_, rfl, ?_⟩; have n0_ := aM (blk_below (g := gb291) (o := .cells #[.slice A0_0 l0_0.length c0_0, .slice A0_1 l0_1.length c0_1] 31 (0, 0)) (mB_ BK291.out) hb); have n1_ := aM (below_step (zs GE291.out) hb); clear BK291 HB; have BK291 := n0_; have HB := n1_; clear n0_ n1_; (try clear hb); (try clear hb2); (try clear hk); (try clear hi)))
   go_meet
   case rel => exact ⟨_, (true), zr, H', ⟨by first | omega | exact Nat.le_refl _⟩, ⟨mB_ BK291.out⟩, ⟨zs GE291.out⟩⟩
  subst c5
  have H1 : ((spec_l01In.f (l0_1.length : Int) 1 12).bind fun t293 => (spec_IsPuzzle.j0 k (!t293) l0_0 l0_1)) = some r := by rw [if_pos rfl] at H; exact H
  clear H
  have H := H1
  clear H1
  replace H := Option.bind_eq_some_iff.mp H
  obtain ⟨t293, A60, H⟩ := H
  replace H : (spec_IsPuzzle.j0 k (!t293) l0_0 l0_1) = some r := H
  have A6 := aM A60
  clear A60
  have H' := aM H
  clear H
  have hcz7_0 : w3.cell? ⟨gb291, 0, none⟩ = some (.slice A0_0 l0_0.length c0_0) := (blk_cell BK291.out 0).trans rfl
  have hcz7_1 : w3.cell? ⟨gb291, 1, none⟩ = some (.slice A0_1 l0_1.length c0_1) := (blk_cell BK291.out 1).trans rfl
  have hfz7_0 := blk_frozen BK291.out 0
  have hfz7_1 := blk_frozen BK291.out 1
  go_wp2_with (first | ((with_reducible refine gate_callee (f := 17) rfl ?_); refine goesL_ (some 7) rfl rfl Tryz.func17 (by kernel_rfl) rfl #[.slice A0_0 l0_0.length c0_0] rfl zm ?_; (with_reducible refine (spec_IsRegion.calls k _ _ l0_0 true _ ?side1 ?side2 A4.out).mono ?_); (case side1 => repeat (first | exact (Kd.C_below HR0_0.out HB.out) | (with_reducible refine Kd.C_alloc ?_ _) | (with_reducible refine Kd.C_drewN ?_ _) | (with_reducible refine Kd.C_drew ?_))); (case side2 => exact HC0_0.out); rintro e w8 ⟨rfl, hb⟩; refine ⟨_, rfl, ?_⟩; have n0_ := aM (blk_below (g := gb291) (o := .cells #[.slice A0_0 l0_0.length c0_0, .slice A0_1 l0_1.length c0_1] 31 (0, 0)) (mB_ BK291.out) hb); have n1_ := aM (below_step (zs GE291.out) hb); clear BK291 HB; have BK291 := n0_; have HB := n1_; clear n0_ n1_; (try clear hb); (try clear hb2); (try clear hk); (try clear hi); have hcz9_0 : w8.cell? ⟨gb291, 0, none⟩ = some (.slice A0_0 l0_0.length c0_0) := (blk_cell BK291.out 0).trans rfl; have hcz9_1 : w8.cell? ⟨gb291, 1, none⟩ = some (.slice A0_1 l0_1.length c0_1) := (blk_cell BK291.out 1).trans rfl; have hfz9_0 := blk_frozen BK291.out 0; have hfz9_1 := blk_frozen BK291.out 1) | (go_at_call 18; (with_reducible refine (spec_l01In.calls (l0_1.length : Int) 1 12 t293 _ A6.out).mono ?_); rintro e w' ⟨rfl, ⟨nd, rfl⟩⟩))
  go_meet
  case rel => exact ⟨_, (!t293), zr, H', ⟨by first | omega | exact Nat.le_refl _⟩, ⟨mB_ BK291.out⟩, ⟨zs GE291.out⟩⟩
 case rest =>
  clear HC2
  try clear c1
  try clear p2
  try clear c5
  try clear c7
  try clear hcz10_0
  try clear hcz10_1
  try clear hcz7_0
  try clear hcz7_1
  try clear hcz9_0
  try clear hcz9_1
  try clear hfz10_0
  try clear hfz10_1
  try clear hfz7_0
  try clear hfz7_1
  try clear hfz9_0
  try clear hfz9_1
  obtain ⟨kq, x15_1, rfl, HA, HJ1, BK291, HB⟩ := hcut
  cases kq with
  | zero => exact absurd HA.out (by simp [spec_IsPuzzle.j0])
  | succ kj1 =>
   have H := HA.out
   clear HA
   simp only [spec_IsPuzzle.j0] at H
   by_cases c12 : x15_1 = true
   ·subst c12
    have H1 : (some false) = some r := by rw [if_pos rfl] at H; exact H
    clear H
    have H := H1
    clear H1
    obtain rfl := Option.some.inj H
    go_wp2
    go_ret
    exact ⟨zw, zs GE291.out⟩
   replace c12 := Bool.eq_false_iff.mpr c12
   subst c12
   have H1 : (spec_IsPuzzle.l0 kj1 0 l0_0 l0_1) = some r := by rw [if_neg (show ¬ (false = true) by decide)] at H; exact H
   clear H
   have H := H1
   clear H1
   have H' := aM H
   clear H
   go_wp2
   go_loopg [3] kj1 (fun kq v3 w' => ∃ (x3_2 : Int), v3 = .int .i64 x3_2 ∧ Aside0 (spec_IsPuzzle.l0 kq x3_2 l0_0 l0_1 = some r) ∧ Aside0 (kq ≤ kj1) ∧ Aside0 (w'.heap[gb291]? = some (.cells #[(.slice A0_0 l0_0.length c0_0), (.slice A0_1 l0_1.length c0_1)] 31 (0, 0))) ∧ Aside0 (Below w.heap.size w w'))
   case atStart => exact ⟨(0), zr, H', ⟨Nat.le_refl _⟩, ⟨mB_ BK291.out⟩, ⟨zs GE291.out⟩⟩
   case round =>
    clear H'
    try clear c1
    try clear p2
    try clear c5
    try clear c7
    try clear c12
    try clear hcz10_0
    try clear hcz10_1
    try clear hcz7_0
    try clear hcz7_1
    try clear hcz9_0
    try clear hcz9_1
    try clear hfz10_0
    try clear hfz10_1
    try clear hfz7_0
    try clear hfz7_1
    try clear hfz9_0
    try clear hfz9_1
    try clear p2
    obtain ⟨x3_2, rfl, HA, HK2, BK291, HB⟩ := hrel
    cases gk with
    | zero => exact absurd HA.out (by simp [spec_IsPuzzle.l0])
    | succ k2 =>
     have H := HA.out
     clear HA
     simp only [spec_IsPuzzle.l0] at H
     by_cases c13 : x3_2 < (l0_1.length : Int)
     rotate_left
     ·rw [if_neg c13] at H
      have c13b0 : decide (x3_2 < (l0_1.length : Int)) = false := decide_eq_false c13
      clear c13
      obtain rfl := Option.some.inj H
      have hcz32_0 : wr.cell? ⟨gb291, 0, none⟩ = some (.slice A0_0 l0_0.length c0_0) := (blk_cell BK291.out 0).trans rfl
      have hcz32_1 : wr.cell? ⟨gb291, 1, none⟩ = some (.slice A0_1 l0_1.length c0_1) := (blk_cell BK291.out 1).trans rfl
      have hfz32_0 := blk_frozen BK291.out 0
      have hfz32_1 := blk_frozen BK291.out 1
      go_wp2
      go_ret
      exact ⟨zw, zs GE291.out⟩
     rw [if_pos c13] at H
     have c13b0 : decide (x3_2 < (l0_1.length : Int)) = true := decide_eq_true c13
     clear c13
     by_cases c14 : 0 ≤ x3_2
     rotate_left
     ·rw [if_neg c14] at H
      exact absurd H (by simp)
     rw [if_pos c14] at H
     have c14b0 : decide (0 ≤ x3_2) = true := decide_eq_true c14
     clear c14
     replace H := Option.bind_eq_some_iff.mp H
     obtain ⟨t295, A150, H⟩ := H
     replace H : (if t295 = true then (spec_IsPuzzle.l1 k2 x3_2 0 l0_0 l0_1) else (some false)) = some r := H
     have A15 := aM A150
     clear A150
     by_cases c16 : t295 = true
     rotate_left
     ·replace c16 := Bool.eq_false_iff.mpr c16
      subst c16
      have H1 : (some false) = some r := by rw [if_neg (show ¬ (false = true) by decide)] at H; exact H
      clear H
      have H := H1
      clear H1
      obtain rfl := Option.some.inj H
      have hcz30_0 : wr.cell? ⟨gb291, 0, none⟩ = some (.slice A0_0 l0_0.length c0_0) := (blk_cell BK291.out 0).trans rfl
      have hcz30_1 : wr.cell? ⟨gb291, 1, none⟩ = some (.slice A0_1 l0_1.length c0_1) := (blk_cell BK291.out 1).trans rfl
      have hfz30_0 := blk_frozen BK291.out 0
      have hfz30_1 := blk_frozen BK291.out 1
      have p294 : 0 ≤ (x3_2 : Int) := of_decide_eq_true za
      have q294 : x3_2 < (l0_1.length : Int) := of_decide_eq_true za
      obtain ⟨ad294, A294_0, c294_0, e294, hx294_0, hx294_1, hx294_2, hl294_0, hi294_0⟩ := at_T43 HR0_1.out x3_2 p294 q294
      cases e294
      replace hx294_0 := zk HB.out hx294_0
      replace hx294_1 := zk HB.out hx294_1
      replace hx294_2 := zk HB.out hx294_2
      have HR294_0 := aM hi294_0
      have HC294_0 := aM hl294_0
      clear hi294_0 hl294_0
      replace p294 := eq_true p294
      replace q294 := eq_true q294
      go_wp2_with (first | ((with_reducible refine gate_callee (f := 19) rfl ?_); refine goesL_ (some 28) rfl rfl Tryz.func19 (by kernel_rfl) rfl #[.agg #[.slice A294_0 ((rd_T43 l0_1 x3_2).f0).length c294_0, .int .i64 ((rd_T43 l0_1 x3_2).f1), .bool ((rd_T43 l0_1 x3_2).f2)]] rfl zm ?_; (with_reducible refine (spec_IsPiece.calls k2 _ _ ((rd_T43 l0_1 x3_2).f0) ((rd_T43 l0_1 x3_2).f1) ((rd_T43 l0_1 x3_2).f2) false _ ?side1 ?side2 A15.out).mono ?_); (case side1 => repeat (first | exact (Kd.C_below HR294_0.out HB.out) | (with_reducible refine Kd.C_alloc ?_ _) | (with_reducible refine Kd.C_drewN ?_ _) | (with_reducible refine Kd.C_drew ?_))); (case side2 => exact HC294_0.out); rintro e w31 ⟨rfl, hb⟩; refine ⟨_, rfl, ?_⟩; have n0_ := aM (blk_below (g := gb291) (o := .cells #[.slice A0_0 l0_0.length c0_0, .slice (some ad294) l0_1.length c0_1] 31 (0, 0)) (mB_ BK291.out) hb); have n1_ := aM (below_step (zs GE291.out) hb); clear BK291 HB; have BK291 := n0_; have HB := n1_; clear n0_ n1_; (try clear hb); (try clear hb2); (try clear hk); (try clear hi)))
      go_ret
      exact ⟨zw, zs GE291.out⟩
     subst c16
     have H1 : (spec_IsPuzzle.l1 k2 x3_2 0 l0_0 l0_1) = some r := by rw [if_pos rfl] at H; exact H
     clear H
     have H := H1
     clear H1
     have H' := aM H
     clear H
     have hcz17_0 : wr.cell? ⟨gb291, 0, none⟩ = some (.slice A0_0 l0_0.length c0_0) := (blk_cell BK291.out 0).trans rfl
     have hcz17_1 : wr.cell? ⟨gb291, 1, none⟩ = some (.slice A0_1 l0_1.length c0_1) := (blk_cell BK291.out 1).trans rfl
     have hfz17_0 := blk_frozen BK291.out 0
     have hfz17_1 := blk_frozen BK291.out 1
     have p294 : 0 ≤ (x3_2 : Int) := of_decide_eq_true za
     have q294 : x3_2 < (l0_1.length : Int) := of_decide_eq_true za
     obtain ⟨ad294, A294_0, c294_0, e294, hx294_0, hx294_1, hx294_2, hl294_0, hi294_0⟩ := at_T43 HR0_1.out x3_2 p294 q294
     cases e294
     replace hx294_0 := zk HB.out hx294_0
     replace hx294_1 := zk HB.out hx294_1
     replace hx294_2 := zk HB.out hx294_2
     have HR294_0 := aM hi294_0
     have HC294_0 := aM hl294_0
     clear hi294_0 hl294_0
     replace p294 := eq_true p294
     replace q294 := eq_true q294
     go_wp2_with (first | ((with_reducible refine gate_callee (f := 19) rfl ?_); refine goesL_ (some 28) rfl rfl Tryz.func19 (by kernel_rfl) rfl #[.agg #[.slice A294_0 ((rd_T43 l0_1 x3_2).f0).length c294_0, .int .i64 ((rd_T43 l0_1 x3_2).f1), .bool ((rd_T43 l0_1 x3_2).f2)]] rfl zm ?_; (with_reducible refine (spec_IsPiece.calls k2 _ _ ((rd_T43 l0_1 x3_2).f0) ((rd_T43 l0_1 x3_2).f1) ((rd_T43 l0_1 x3_2).f2) true _ ?side1 ?side2 A15.out).mono ?_); (case side1 => repeat (first | exact (Kd.C_below HR294_0.out HB.out) | (with_reducible refine Kd.C_alloc ?_ _) | (with_reducible refine Kd.C_drewN ?_ _) | (with_reducible refine Kd.C_drew ?_))); (case side2 => exact HC294_0.out); rintro e w18 ⟨rfl, hb⟩; refine ⟨_, rfl, ?_⟩; have n0_ := aM (blk_below (g := gb291) (o := .cells #[.slice A0_0 l0_0.length c0_0, .slice (some ad294) l0_1.length c0_1] 31 (0, 0)) (mB_ BK291.out) hb); have n1_ := aM (below_step (zs GE291.out) hb); clear BK291 HB; have BK291 := n0_; have HB := n1_; clear n0_ n1_; (try clear hb); (try clear hb2); (try clear hk); (try clear hi)))
     go_loopg [4] k2 (fun kq v4 w' => ∃ (x4_3 : Int), v4 = .int .i64 x4_3 ∧ Aside0 (spec_IsPuzzle.l1 kq x3_2 x4_3 l0_0 l0_1 = some r) ∧ Aside0 (kq ≤ k2) ∧ Aside0 (w'.heap[gb291]? = some (.cells #[(.slice A0_0 l0_0.length c0_0), (.slice (some ad294) l0_1.length c0_1)] 31 (0, 0))) ∧ Aside0 (Below w.heap.size w w'))
     case atStart => exact ⟨(0), zr, H', ⟨Nat.le_refl _⟩, ⟨mB_ BK291.out⟩, ⟨zs GE291.out⟩⟩
     case round =>
      clear H'
      try clear c1
      try clear c2
      try clear p2
      try clear q2
      try clear hx2
      try clear c5
      try clear c7
      try clear c12
      try clear c13
      try clear c13b0
      try clear c14
      try clear c14b0
      try clear c16
      try clear c17
      try clear hcz10_0
      try clear hcz10_1
      try clear hcz17_0
      try clear hcz17_1
      try clear hcz7_0
      try clear hcz7_1
      try clear hcz9_0
      try clear hcz9_1
      try clear hfz10_0
      try clear hfz10_1
      try clear hfz17_0
      try clear hfz17_1
      try clear hfz7_0
      try clear hfz7_1
      try clear hfz9_0
      try clear hfz9_1
      try clear hx294_0
      try clear hx294_1
      try clear hx294_2
      try clear p2
      try clear p294
      try clear q294
      obtain ⟨x4_3, rfl, HA, HK3, BK291, HB⟩ := hrel
      cases gk with
      | zero => exact absurd HA.out (by simp [spec_IsPuzzle.l1])
      | succ k3 =>
       have H := HA.out
       clear HA
       simp only [spec_IsPuzzle.l1] at H
       by_cases c19 : x4_3 < x3_2
       rotate_left
       ·rw [if_neg c19] at H
        have c19b0 : decide (x4_3 < x3_2) = false := decide_eq_false c19
        clear c19
        have H' := aM H
        clear H
        go_wp2
        go_roundg k3
        case measure => have := HJ1.out; have := HK2.out; have := HK3.out; omega
        case rel => exact ⟨(wrap64 (x3_2 + 1)), zr, H', ⟨by have := HJ1.out; have := HK2.out; have := HK3.out; omega⟩, ⟨mB_ BK291.out⟩, ⟨zs GE291.out⟩⟩
       rw [if_pos c19] at H
       have c19b0 : decide (x4_3 < x3_2) = true := decide_eq_true c19
       clear c19
       by_cases c20 : 0 ≤ x3_2
       rotate_left
       ·rw [if_neg c20] at H
        exact absurd H (by simp)
       rw [if_pos c20] at H
       have c20b0 : decide (0 ≤ x3_2) = true := decide_eq_true c20
       clear c20
       by_cases c21 : x3_2 < (l0_1.length : Int)
       rotate_left
       ·rw [if_neg c21] at H
        exact absurd H (by simp)
       rw [if_pos c21] at H
       have c21b0 : decide (x3_2 < (l0_1.length : Int)) = true := decide_eq_true c21
       clear c21
       by_cases c22 : 0 ≤ x4_3
       rotate_left
       ·rw [if_neg c22] at H
        exact absurd H (by simp)
       rw [if_pos c22] at H
       have c22b0 : decide (0 ≤ x4_3) = true := decide_eq_true c22
       clear c22
       by_cases c23 : x4_3 < (l0_1.length : Int)
       rotate_left
       ·rw [if_neg c23] at H
        exact absurd H (by simp)
       rw [if_pos c23] at H
       have c23b0 : decide (x4_3 < (l0_1.length : Int)) = true := decide_eq_true c23
       clear c23
       replace H := Option.bind_eq_some_iff.mp H
       obtain ⟨t298, A240, H⟩ := H
       replace H : (if t298 = true then (some false) else (spec_IsPuzzle.l1 k3 x3_2 (wrap64 (x4_3 + 1)) l0_0 l0_1)) = some r := H
       have A24 := aM A240
       clear A240
       by_cases c25 : t298 = true
       ·subst c25
        have H1 : (some false) = some r := by rw [if_pos rfl] at H; exact H
        clear H
        have H := H1
        clear H1
        obtain rfl := Option.some.inj H
        try go_wp2
        have n0_ := aM (blk_drew BK291.out)
        have n1_ := aM (below_drew1 HB.out)
        clear BK291
        clear HB
        have BK291 := n0_
        have HB := n1_
        clear n0_ n1_
        have p296 : 0 ≤ (x3_2 : Int) := of_decide_eq_true za
        have q296 : x3_2 < (l0_1.length : Int) := of_decide_eq_true za
        obtain ⟨ad296, A296_0, c296_0, e296, hx296_0, hx296_1, hx296_2, hl296_0, hi296_0⟩ := at_T43 HR0_1.out x3_2 p296 q296
        have hw296_2 := hx296_2
        have hw296_1 := hx296_1
        have hw296_0 := hx296_0
        obtain rfl : ad294 = ad296 := (by injection e296)
        replace hx296_0 := zk HB.out hx296_0
        replace hx296_1 := zk HB.out hx296_1
        replace hx296_2 := zk HB.out hx296_2
        have HR296_0 := aM hi296_0
        have HC296_0 := aM hl296_0
        clear hi296_0 hl296_0
        replace p296 := eq_true p296
        replace q296 := eq_true q296
        have p297 : 0 ≤ (x4_3 : Int) := of_decide_eq_true za
        have q297 : x4_3 < (l0_1.length : Int) := of_decide_eq_true za
        obtain ⟨ad297, A297_0, c297_0, e297, hx297_0, hx297_1, hx297_2, hl297_0, hi297_0⟩ := at_T43 HR0_1.out x4_3 p297 q297
        have hw297_2 := hx297_2
        have hw297_1 := hx297_1
        have hw297_0 := hx297_0
        obtain rfl : ad294 = ad297 := (by injection e297)
        replace hx297_0 := zk HB.out hx297_0
        replace hx297_1 := zk HB.out hx297_1
        replace hx297_2 := zk HB.out hx297_2
        have HR297_0 := aM hi297_0
        have HC297_0 := aM hl297_0
        clear hi297_0 hl297_0
        replace p297 := eq_true p297
        replace q297 := eq_true q297
        refine start_ (n := 11) (S := fun w' => w'.cell? ⟨gb291, 0, none⟩ = some (.slice A0_0 l0_0.length c0_0) ∧ w'.cell? ⟨gb291, 1, none⟩ = some (.slice (some ad294) l0_1.length c0_1) ∧ w'.cell? (ad294.add ((x3_2).toNat * 3)) = some (.slice A296_0 ((rd_T43 l0_1 x3_2).f0).length c296_0) ∧ w'.cell? ⟨(ad294.add ((x3_2).toNat * 3)).block, (ad294.add ((x3_2).toNat * 3)).off + 1, none⟩ = some (.int .i64 ((rd_T43 l0_1 x3_2).f1)) ∧ w'.cell? ⟨(ad294.add ((x3_2).toNat * 3)).block, (ad294.add ((x3_2).toNat * 3)).off + 2, none⟩ = some (.bool ((rd_T43 l0_1 x3_2).f2)) ∧ w'.cell? (ad294.add ((x4_3).toNat * 3)) = some (.slice A297_0 ((rd_T43 l0_1 x4_3).f0).length c297_0) ∧ w'.cell? ⟨(ad294.add ((x4_3).toNat * 3)).block, (ad294.add ((x4_3).toNat * 3)).off + 1, none⟩ = some (.int .i64 ((rd_T43 l0_1 x4_3).f1)) ∧ w'.cell? ⟨(ad294.add ((x4_3).toNat * 3)).block, (ad294.add ((x4_3).toNat * 3)).off + 2, none⟩ = some (.bool ((rd_T43 l0_1 x4_3).f2))) (ds := []) zA66 (by kernel_rfl) rfl rfl ⟨(blk_cell BK291.out 0).trans rfl, (blk_cell BK291.out 1).trans rfl, (zk HB.out hw296_0), (zk HB.out hw296_1), (zk HB.out hw296_2), (zk HB.out hw297_0), (zk HB.out hw297_1), (zk HB.out hw297_2)⟩ (fun hHeld => ?_); refine with_tabW spec_IsPuzzle.tab11 spec_IsPuzzle.bits11 (fun HT_ HW_ => ?_)
        generalize wr.drew = w26 at BK291 HB HR296_0 HR297_0 hx296_0 hx296_1 hx296_2 hx297_0 hx297_1 hx297_2 hHeld ⊢
        refine zp 0 (some 35) ?_ zA67 rfl rfl (Or.inl ⟨by rfl, ?_⟩) ?_ ?_ ?_
        rotate_left
        ·intro w'
         go_simp
         with_reducible rfl
        rotate_left
        ·simp only [Act.put, xA, xB, xC, i64_w, i32_w]
         rfl
        refine zp 2 (some 37) ?_ zA68 rfl rfl (Or.inl ⟨by rfl, ?_⟩) ?_ ?_ ?_
        rotate_left
        ·intro w'
         go_simp
         with_reducible rfl
        rotate_left
        ·simp only [Act.put, xA, xB, xC, i64_w, i32_w]
         rfl
        refine zp 5 (some 40) ?_ zA69 rfl rfl (Or.inl ⟨by rfl, ?_⟩) ?_ ?_ ?_
        rotate_left
        ·intro w'
         go_simp
         with_reducible rfl
        rotate_left
        ·simp only [Act.put, xA, xB, xC, i64_w, i32_w]
         rfl
        refine zp 7 (some 42) ?_ zA70 rfl rfl (Or.inl ⟨by rfl, ?_⟩) ?_ ?_ ?_
        rotate_left
        ·intro w'
         go_simp
         with_reducible rfl
        rotate_left
        ·simp only [Act.put, xA, xB, xC, i64_w, i32_w]
         rfl
        refine zu 1 (some 36) ?_ zA71 rfl rfl (Or.inl ⟨by rfl, ?_⟩) hHeld ?_ ?_ ?_
        rotate_left
        ·rintro w' ⟨s0, s1, s2, s3, s4, s5, s6, s7⟩
         go_simp
         with_reducible rfl
        rotate_left
        ·simp only [Act.put, xA, xB, xC, i64_w, i32_w]
         rfl
        refine zp 3 (some 38) ?_ zA72 rfl rfl (Or.inl ⟨by rfl, ?_⟩) ?_ ?_ ?_
        rotate_left
        ·intro w'
         go_simp
         with_reducible rfl
        rotate_left
        ·simp only [Act.put, xA, xB, xC, i64_w, i32_w]
         rfl
        refine zu 4 (some 39) ?_ zA73 rfl rfl (Or.inl ⟨by rfl, ?_⟩) hHeld ?_ ?_ ?_
        rotate_left
        ·rintro w' ⟨s0, s1, s2, s3, s4, s5, s6, s7⟩
         go_simp
         with_reducible rfl
        rotate_left
        ·simp only [Act.put, xA, xB, xC, i64_w, i32_w]
         rfl
        refine zu 6 (some 41) ?_ zA74 rfl rfl (Or.inl ⟨by rfl, ?_⟩) hHeld ?_ ?_ ?_
        rotate_left
        ·rintro w' ⟨s0, s1, s2, s3, s4, s5, s6, s7⟩
         go_simp
         with_reducible rfl
        rotate_left
        ·simp only [Act.put, xA, xB, xC, i64_w, i32_w]
         rfl
        refine zp 8 (some 43) ?_ zA75 rfl rfl (Or.inl ⟨by rfl, ?_⟩) ?_ ?_ ?_
        rotate_left
        ·intro w'
         go_simp
         with_reducible rfl
        rotate_left
        ·simp only [Act.put, xA, xB, xC, i64_w, i32_w]
         rfl
        refine zu 9 (some 44) ?_ zA76 rfl rfl (Or.inl ⟨by rfl, ?_⟩) hHeld ?_ ?_ ?_
        rotate_left
        ·rintro w' ⟨s0, s1, s2, s3, s4, s5, s6, s7⟩
         go_simp
         with_reducible rfl
        rotate_left
        ·simp only [Act.put, xA, xB, xC, i64_w, i32_w]
         rfl
        refine one_ (i := 10) (N := some 45) zA77 rfl rfl (one_of HT_.out (by kernel_rfl)) (by decide) (fun K hK => ?_)
        refine goes_ Tryz.func20 (by kernel_rfl) rfl #[.agg #[.slice A296_0 ((rd_T43 l0_1 x3_2).f0).length c296_0, .int .i64 ((rd_T43 l0_1 x3_2).f1), .bool ((rd_T43 l0_1 x3_2).f2)], .agg #[.slice A297_0 ((rd_T43 l0_1 x4_3).f0).length c297_0, .int .i64 ((rd_T43 l0_1 x4_3).f1), .bool ((rd_T43 l0_1 x4_3).f2)]] (by rfl) rfl rfl zm ?_
        with_reducible refine (spec_l11Alike.calls k3 _ _ ((rd_T43 l0_1 x3_2).f0) ((rd_T43 l0_1 x3_2).f1) ((rd_T43 l0_1 x3_2).f2) _ _ ((rd_T43 l0_1 x4_3).f0) ((rd_T43 l0_1 x4_3).f1) ((rd_T43 l0_1 x4_3).f2) true _ ?side1 ?side2 ?side3 ?side4 A24.out).mono ?_
        (case side1 => repeat (first | exact (Kd.C_below HR296_0.out HB.out) | (with_reducible refine Kd.C_alloc ?_ _) | (with_reducible refine Kd.C_drewN ?_ _) | (with_reducible refine Kd.C_drew ?_)))
        (case side2 => exact HC296_0.out)
        (case side3 => repeat (first | exact (Kd.C_below HR297_0.out HB.out) | (with_reducible refine Kd.C_alloc ?_ _) | (with_reducible refine Kd.C_drewN ?_ _) | (with_reducible refine Kd.C_drew ?_)))
        (case side4 => exact HC297_0.out)
        rintro e w27 ⟨rfl, hb⟩
        refine ⟨_, rfl, ?_⟩
        have n0_ := aM (blk_below (g := gb291) (o := .cells #[.slice A0_0 l0_0.length c0_0, .slice (some ad294) l0_1.length c0_1] 31 (0, 0)) (mB_ BK291.out) hb)
        have n1_ := aM (below_step (zs GE291.out) hb)
        clear BK291
        clear HB
        have BK291 := n0_
        have HB := n1_
        clear n0_ n1_
        (try clear hb)
        (try clear hb2)
        (try clear hk)
        (try clear hi)
        refine hK.out _ _ ⟨(blk_cell BK291.out 0).trans rfl, (blk_cell BK291.out 1).trans rfl, (zk HB.out hw296_0), (zk HB.out hw296_1), (zk HB.out hw296_2), (zk HB.out hw297_0), (zk HB.out hw297_1), (zk HB.out hw297_2)⟩ (fun hHeld => ?_)
        clear hK K
        refine norm_ (a' := ?_) ?_ ?_
        rotate_left
        ·show Act.put _ (some 45) _ = _
         simp only [Act.put, xA, xB, xC, i64_w, i32_w]
         rfl
        refine done_ (done_of HT_.out (by kernel_rfl)) ?_
        try go_wp2
        go_ret
        exact ⟨zw, zs GE291.out⟩
       replace c25 := Bool.eq_false_iff.mpr c25
       subst c25
       have H1 : (spec_IsPuzzle.l1 k3 x3_2 (wrap64 (x4_3 + 1)) l0_0 l0_1) = some r := by rw [if_neg (show ¬ (false = true) by decide)] at H; exact H
       clear H
       have H := H1
       clear H1
       have H' := aM H
       clear H
       try go_wp2
       have n0_ := aM (blk_drew BK291.out)
       have n1_ := aM (below_drew1 HB.out)
       clear BK291
       clear HB
       have BK291 := n0_
       have HB := n1_
       clear n0_ n1_
       have p296 : 0 ≤ (x3_2 : Int) := of_decide_eq_true za
       have q296 : x3_2 < (l0_1.length : Int) := of_decide_eq_true za
       obtain ⟨ad296, A296_0, c296_0, e296, hx296_0, hx296_1, hx296_2, hl296_0, hi296_0⟩ := at_T43 HR0_1.out x3_2 p296 q296
       have hw296_2 := hx296_2
       have hw296_1 := hx296_1
       have hw296_0 := hx296_0
       obtain rfl : ad294 = ad296 := (by injection e296)
       replace hx296_0 := zk HB.out hx296_0
       replace hx296_1 := zk HB.out hx296_1
       replace hx296_2 := zk HB.out hx296_2
       have HR296_0 := aM hi296_0
       have HC296_0 := aM hl296_0
       clear hi296_0 hl296_0
       replace p296 := eq_true p296
       replace q296 := eq_true q296
       have p297 : 0 ≤ (x4_3 : Int) := of_decide_eq_true za
       have q297 : x4_3 < (l0_1.length : Int) := of_decide_eq_true za
       obtain ⟨ad297, A297_0, c297_0, e297, hx297_0, hx297_1, hx297_2, hl297_0, hi297_0⟩ := at_T43 HR0_1.out x4_3 p297 q297
       have hw297_2 := hx297_2
       have hw297_1 := hx297_1
       have hw297_0 := hx297_0
       obtain rfl : ad294 = ad297 := (by injection e297)
       replace hx297_0 := zk HB.out hx297_0
       replace hx297_1 := zk HB.out hx297_1
       replace hx297_2 := zk HB.out hx297_2
       have HR297_0 := aM hi297_0
       have HC297_0 := aM hl297_0
       clear hi297_0 hl297_0
       replace p297 := eq_true p297
       replace q297 := eq_true q297
       refine start_ (n := 11) (S := fun w' => w'.cell? ⟨gb291, 0, none⟩ = some (.slice A0_0 l0_0.length c0_0) ∧ w'.cell? ⟨gb291, 1, none⟩ = some (.slice (some ad294) l0_1.length c0_1) ∧ w'.cell? (ad294.add ((x3_2).toNat * 3)) = some (.slice A296_0 ((rd_T43 l0_1 x3_2).f0).length c296_0) ∧ w'.cell? ⟨(ad294.add ((x3_2).toNat * 3)).block, (ad294.add ((x3_2).toNat * 3)).off + 1, none⟩ = some (.int .i64 ((rd_T43 l0_1 x3_2).f1)) ∧ w'.cell? ⟨(ad294.add ((x3_2).toNat * 3)).block, (ad294.add ((x3_2).toNat * 3)).off + 2, none⟩ = some (.bool ((rd_T43 l0_1 x3_2).f2)) ∧ w'.cell? (ad294.add ((x4_3).toNat * 3)) = some (.slice A297_0 ((rd_T43 l0_1 x4_3).f0).length c297_0) ∧ w'.cell? ⟨(ad294.add ((x4_3).toNat * 3)).block, (ad294.add ((x4_3).toNat * 3)).off + 1, none⟩ = some (.int .i64 ((rd_T43 l0_1 x4_3).f1)) ∧ w'.cell? ⟨(ad294.add ((x4_3).toNat * 3)).block, (ad294.add ((x4_3).toNat * 3)).off + 2, none⟩ = some (.bool ((rd_T43 l0_1 x4_3).f2))) (ds := []) zA66 (by kernel_rfl) rfl rfl ⟨(blk_cell BK291.out 0).trans rfl, (blk_cell BK291.out 1).trans rfl, (zk HB.out hw296_0), (zk HB.out hw296_1), (zk HB.out hw296_2), (zk HB.out hw297_0), (zk HB.out hw297_1), (zk HB.out hw297_2)⟩ (fun hHeld => ?_); refine with_tabW spec_IsPuzzle.tab11 spec_IsPuzzle.bits11 (fun HT_ HW_ => ?_)
       generalize wr.drew = w28 at BK291 HB HR296_0 HR297_0 hx296_0 hx296_1 hx296_2 hx297_0 hx297_1 hx297_2 hHeld ⊢
       refine zp 0 (some 35) ?_ zA67 rfl rfl (Or.inl ⟨by rfl, ?_⟩) ?_ ?_ ?_
       rotate_left
       ·intro w'
        go_simp
        with_reducible rfl
       rotate_left
       ·simp only [Act.put, xA, xB, xC, i64_w, i32_w]
        rfl
       refine zp 2 (some 37) ?_ zA68 rfl rfl (Or.inl ⟨by rfl, ?_⟩) ?_ ?_ ?_
       rotate_left
       ·intro w'
        go_simp
        with_reducible rfl
       rotate_left
       ·simp only [Act.put, xA, xB, xC, i64_w, i32_w]
        rfl
       refine zp 5 (some 40) ?_ zA69 rfl rfl (Or.inl ⟨by rfl, ?_⟩) ?_ ?_ ?_
       rotate_left
       ·intro w'
        go_simp
        with_reducible rfl
       rotate_left
       ·simp only [Act.put, xA, xB, xC, i64_w, i32_w]
        rfl
       refine zp 7 (some 42) ?_ zA70 rfl rfl (Or.inl ⟨by rfl, ?_⟩) ?_ ?_ ?_
       rotate_left
       ·intro w'
        go_simp
        with_reducible rfl
       rotate_left
       ·simp only [Act.put, xA, xB, xC, i64_w, i32_w]
        rfl
       refine zu 1 (some 36) ?_ zA71 rfl rfl (Or.inl ⟨by rfl, ?_⟩) hHeld ?_ ?_ ?_
       rotate_left
       ·rintro w' ⟨s0, s1, s2, s3, s4, s5, s6, s7⟩
        go_simp
        with_reducible rfl
       rotate_left
       ·simp only [Act.put, xA, xB, xC, i64_w, i32_w]
        rfl
       refine zp 3 (some 38) ?_ zA72 rfl rfl (Or.inl ⟨by rfl, ?_⟩) ?_ ?_ ?_
       rotate_left
       ·intro w'
        go_simp
        with_reducible rfl
       rotate_left
       ·simp only [Act.put, xA, xB, xC, i64_w, i32_w]
        rfl
       refine zu 4 (some 39) ?_ zA73 rfl rfl (Or.inl ⟨by rfl, ?_⟩) hHeld ?_ ?_ ?_
       rotate_left
       ·rintro w' ⟨s0, s1, s2, s3, s4, s5, s6, s7⟩
        go_simp
        with_reducible rfl
       rotate_left
       ·simp only [Act.put, xA, xB, xC, i64_w, i32_w]
        rfl
       refine zu 6 (some 41) ?_ zA74 rfl rfl (Or.inl ⟨by rfl, ?_⟩) hHeld ?_ ?_ ?_
       rotate_left
       ·rintro w' ⟨s0, s1, s2, s3, s4, s5, s6, s7⟩
        go_simp
        with_reducible rfl
       rotate_left
       ·simp only [Act.put, xA, xB, xC, i64_w, i32_w]
        rfl
       refine zp 8 (some 43) ?_ zA75 rfl rfl (Or.inl ⟨by rfl, ?_⟩) ?_ ?_ ?_
       rotate_left
       ·intro w'
        go_simp
        with_reducible rfl
       rotate_left
       ·simp only [Act.put, xA, xB, xC, i64_w, i32_w]
        rfl
       refine zu 9 (some 44) ?_ zA76 rfl rfl (Or.inl ⟨by rfl, ?_⟩) hHeld ?_ ?_ ?_
       rotate_left
       ·rintro w' ⟨s0, s1, s2, s3, s4, s5, s6, s7⟩
        go_simp
        with_reducible rfl
       rotate_left
       ·simp only [Act.put, xA, xB, xC, i64_w, i32_w]
        rfl
       refine one_ (i := 10) (N := some 45) zA77 rfl rfl (one_of HT_.out (by kernel_rfl)) (by decide) (fun K hK => ?_)
       refine goes_ Tryz.func20 (by kernel_rfl) rfl #[.agg #[.slice A296_0 ((rd_T43 l0_1 x3_2).f0).length c296_0, .int .i64 ((rd_T43 l0_1 x3_2).f1), .bool ((rd_T43 l0_1 x3_2).f2)], .agg #[.slice A297_0 ((rd_T43 l0_1 x4_3).f0).length c297_0, .int .i64 ((rd_T43 l0_1 x4_3).f1), .bool ((rd_T43 l0_1 x4_3).f2)]] (by rfl) rfl rfl zm ?_
       with_reducible refine (spec_l11Alike.calls k3 _ _ ((rd_T43 l0_1 x3_2).f0) ((rd_T43 l0_1 x3_2).f1) ((rd_T43 l0_1 x3_2).f2) _ _ ((rd_T43 l0_1 x4_3).f0) ((rd_T43 l0_1 x4_3).f1) ((rd_T43 l0_1 x4_3).f2) false _ ?side1 ?side2 ?side3 ?side4 A24.out).mono ?_
       (case side1 => repeat (first | exact (Kd.C_below HR296_0.out HB.out) | (with_reducible refine Kd.C_alloc ?_ _) | (with_reducible refine Kd.C_drewN ?_ _) | (with_reducible refine Kd.C_drew ?_)))
       (case side2 => exact HC296_0.out)
       (case side3 => repeat (first | exact (Kd.C_below HR297_0.out HB.out) | (with_reducible refine Kd.C_alloc ?_ _) | (with_reducible refine Kd.C_drewN ?_ _) | (with_reducible refine Kd.C_drew ?_)))
       (case side4 => exact HC297_0.out)
       rintro e w29 ⟨rfl, hb⟩
       refine ⟨_, rfl, ?_⟩
       have n0_ := aM (blk_below (g := gb291) (o := .cells #[.slice A0_0 l0_0.length c0_0, .slice (some ad294) l0_1.length c0_1] 31 (0, 0)) (mB_ BK291.out) hb)
       have n1_ := aM (below_step (zs GE291.out) hb)
       clear BK291
       clear HB
       have BK291 := n0_
       have HB := n1_
       clear n0_ n1_
       (try clear hb)
       (try clear hb2)
       (try clear hk)
       (try clear hi)
       refine hK.out _ _ ⟨(blk_cell BK291.out 0).trans rfl, (blk_cell BK291.out 1).trans rfl, (zk HB.out hw296_0), (zk HB.out hw296_1), (zk HB.out hw296_2), (zk HB.out hw297_0), (zk HB.out hw297_1), (zk HB.out hw297_2)⟩ (fun hHeld => ?_)
       clear hK K
       refine norm_ (a' := ?_) ?_ ?_
       rotate_left
       ·show Act.put _ (some 45) _ = _
        simp only [Act.put, xA, xB, xC, i64_w, i32_w]
        rfl
       refine done_ (done_of HT_.out (by kernel_rfl)) ?_
       try go_wp2
       go_roundg k3
       case measure => have := HJ1.out; have := HK2.out; have := HK3.out; omega
       case rel => exact ⟨(wrap64 (x4_3 + 1)), zr, H', ⟨by have := HJ1.out; have := HK2.out; have := HK3.out; omega⟩, ⟨mB_ BK291.out⟩, ⟨zs GE291.out⟩⟩
def laws_toCell.f (a0_0 : Int) (a0_1 : Int) : Option (Int × Int) := some (a0_0, a0_1)
theorem laws_toCell.calls (a0_0 : Int) (a0_1 : Int) (r1 : Int) (r2 : Int) (w : World) (h : laws_toCell.f a0_0 a0_1 = some (r1, r2)) :
  Calls Tryz.prog 37 #[.agg #[.int .i64 a0_0, .int .i64 a0_1]] w fun e w' => e = .returned (.agg #[.int .i64 r1, .int .i64 r2]) ∧ Below w.heap.size w w' := by
 have hu60 := Tryz.underlying60
 have hu58 := Tryz.underlying58
 have HB := aM (Below.refl w.heap.size w)
 have H : (some (a0_0, a0_1)) = some (r1, r2) := h
 clear h
 simp only [Option.some.injEq, Prod.mk.injEq] at H
 obtain ⟨rfl, rfl⟩ := H
 go_enter Tryz.func37, Tryz.ntmps37
 go_wp2_with (first | ((with_reducible refine gate_dst (N := 1) rfl ?_); refine zx 1 #[.int .i64 a0_0, .int .i64 a0_1] 60 ?_; intro gb299 hg w2 hbox hb; have n0_ := aM (below_step zb hb); have n1_ := aM (hbox); have n2_ := aM ((ze : w.heap.size ≤ gb299)); have n3_ := aM ((ze : w.heap.size ≤ gb299)); clear HB; have HB := n0_; have BK299 := n1_; have GW299 := n2_; have GE299 := n3_; clear n0_ n1_ n2_ n3_; clear hb hbox hg) | ((with_reducible refine gate_dst (N := 2) rfl ?_); refine zx 2 #[.int .i64 0, .int .i64 0] 58 ?_; intro gb300 hg w3 hbox hb; have n0_ := aM (blk_below (g := gb299) (o := .cells #[.int .i64 a0_0, .int .i64 a0_1] 60 (0, 0)) (mB_ BK299.out) hb); have n1_ := aM (below_step (zs GE299.out) hb); have n2_ := aM (hbox); have n3_ := aM ((zf GE299.out : w.heap.size ≤ gb300)); have n4_ := aM ((zf GE299.out : w.heap.size ≤ gb300)); have n5_ := aM ((zl BK299.out : gb299 ≠ gb300)); have n6_ := aM ((zn BK299.out : gb300 ≠ gb299)); clear BK299 HB; have BK299 := n0_; have HB := n1_; have BK300 := n2_; have GW300 := n3_; have GE300 := n4_; have NB299_300 := n5_; have NB300_299 := n6_; clear n0_ n1_ n2_ n3_ n4_ n5_ n6_; clear hb hbox hg) | ((with_reducible refine gate_dst (N := 3) rfl ?_); refine zx 3 #[.int .i64 0, .int .i64 0] 58 ?_; intro gb301 hg w4 hbox hb; have n0_ := aM (blk_below (g := gb299) (o := .cells #[.int .i64 a0_0, .int .i64 a0_1] 60 (0, 0)) (mB_ BK299.out) hb); have n1_ := aM (blk_below (g := gb300) (o := .cells #[.int .i64 0, .int .i64 0] 58 (0, 0)) (mB_ BK300.out) hb); have n2_ := aM (below_step (zt GE299.out GE300.out) hb); have n3_ := aM (hbox); have n4_ := aM ((by rw [hg]; exact (below_size (zt GE299.out GE300.out)) : w.heap.size ≤ gb301)); have n5_ := aM ((by rw [hg]; exact (below_size (zt GE299.out GE300.out)) : w.heap.size ≤ gb301)); have n6_ := aM ((zl BK299.out : gb299 ≠ gb301)); have n7_ := aM ((zn BK299.out : gb301 ≠ gb299)); have n8_ := aM ((zl BK300.out : gb300 ≠ gb301)); have n9_ := aM ((zn BK300.out : gb301 ≠ gb300)); clear BK299 BK300 HB; have BK299 := n0_; have BK300 := n1_; have HB := n2_; have BK301 := n3_; have GW301 := n4_; have GE301 := n5_; have NB299_301 := n6_; have NB301_299 := n7_; have NB300_301 := n8_; have NB301_300 := n9_; clear n0_ n1_ n2_ n3_ n4_ n5_ n6_ n7_ n8_ n9_ hb hbox hg; have hnb5 := NB299_300.out; have hnc5 := NB300_299.out; have hnb6 := NB299_301.out; have hnc6 := NB301_299.out; have hcz7_0 : w4.cell? ⟨gb299, 0, none⟩ = some (.int .i64 a0_0) := (blk_cell BK299.out 0).trans rfl; have hcz7_1 : w4.cell? ⟨gb299, 1, none⟩ = some (.int .i64 a0_1) := (blk_cell BK299.out 1).trans rfl; have hfz7_0 := blk_frozen BK299.out 0; have hfz7_1 := blk_frozen BK299.out 1; have hnb8 := NB301_300.out; have hnc8 := NB300_301.out; have hcz9_0 : w4.cell? ⟨gb301, 0, none⟩ = some (.int .i64 0) := (blk_cell BK301.out 0).trans rfl; have hcz9_1 : w4.cell? ⟨gb301, 1, none⟩ = some (.int .i64 0) := (blk_cell BK301.out 1).trans rfl; have hfz9_0 := blk_frozen BK301.out 0; have hfz9_1 := blk_frozen BK301.out 1; have hcz10_0 : w4.cell? ⟨gb300, 0, none⟩ = some (.int .i64 0) := (blk_cell BK300.out 0).trans rfl; have hcz10_1 : w4.cell? ⟨gb300, 1, none⟩ = some (.int .i64 0) := (blk_cell BK300.out 1).trans rfl; have hfz10_0 := blk_frozen BK300.out 0; have hfz10_1 := blk_frozen BK300.out 1))
 refine bodyPost_ret (results_cell_row rfl _ _ gb300 58 #[.int .i64 a0_0, .int .i64 a0_1] (0, 0) _ rfl (by (with_reducible repeat (first | refine blk_drewN ?_ _ | refine blk_drew ?_ | refine blk_alloc ?_ _)); refine blk_put (cs := #[.int .i64 a0_0, .int .i64 0]) ?_ 1 _ rfl; (with_reducible repeat (first | refine blk_drewN ?_ _ | refine blk_drew ?_ | refine blk_alloc ?_ _)); refine blk_put (cs := #[.int .i64 0, .int .i64 0]) ?_ 0 _ rfl; (with_reducible repeat (first | refine blk_drewN ?_ _ | refine blk_drew ?_ | refine blk_alloc ?_ _)); refine blk_far ?_ NB300_301.out _; (with_reducible repeat (first | refine blk_drewN ?_ _ | refine blk_drew ?_ | refine blk_alloc ?_ _)); refine blk_far ?_ NB300_301.out _; (with_reducible repeat (first | refine blk_drewN ?_ _ | refine blk_drew ?_ | refine blk_alloc ?_ _)); exact BK300.out) Tryz.underlying58 rfl (by kernel_rfl)) rfl ?_
 exact ⟨zw, by repeat (first | (with_reducible first | exact HB.out | apply below_alloc | apply pw_below_drewN | apply below_drew1 | refine below_set ?_ GE299.out | refine below_set ?_ GE300.out | refine below_set ?_ GE301.out) | exact HB.out)⟩
def laws_toCellS.l0 : Nat → List (S60) → List (S58) → Int → Option ((List (S58)))
 | 0, _, _, _ => none
 | k + 1, x0, x3, x4 => if x4 < (x0.length : Int) then (if 0 ≤ x4 then ((laws_toCell.f ((rd_T60 x0 x4).f0) ((rd_T60 x0 x4).f1)).bind fun bt306 => (if x4 < (x3.length : Int) then (laws_toCellS.l0 k x0 (x3.set (x4 : Int).toNat (⟨bt306.1, bt306.2⟩ : S58)) (wrap64 (x4 + 1))) else (none))) else (none)) else (some x3)
def laws_toCellS.f (k : Nat) (l0 : List (S60)) : Option ((List (S58))) := if 0 ≤ (l0.length : Int) then (if ((l0.length : Int) : Int).toNat ≤ 17592186044416 then (laws_toCellS.l0 k l0 (List.replicate ((l0.length : Int) : Int).toNat z58) 0) else (none)) else (none)
theorem laws_toCellS.calls (k : Nat) (A0 : Option Addr) (c0 : Nat) (l0 : List (S60)) (r : List (S58)) (w : World) (hr0 : Kd.C k60 w A0 l0.length l0) (hc0 : l0.length ≤ c0) (h : laws_toCellS.f k l0 = some r) :
  Calls Tryz.prog 21 #[.slice A0 l0.length c0] w fun e w' => ∃ v0_ : Value, e = .returned (v0_) ∧ Kd.R k58 58 w' w.heap.size (fun _ => True) v0_ r ∧ Below w.heap.size w w' := by
 have hu60 := Tryz.underlying60
 have hu58 := Tryz.underlying58
 have HR0 := aM hr0
 have HC0 := aM hc0
 clear hr0 hc0
 have HB := aM (Below.refl w.heap.size w)
 have H : (if 0 ≤ (l0.length : Int) then (if ((l0.length : Int) : Int).toNat ≤ 17592186044416 then (laws_toCellS.l0 k l0 (List.replicate ((l0.length : Int) : Int).toNat z58) 0) else (none)) else (none)) = some r := h
 clear h
 by_cases c2 : 0 ≤ (l0.length : Int)
 rotate_left
 ·rw [if_neg c2] at H
  exact absurd H (by simp)
 rw [if_pos c2] at H
 have c2b0 := eq_true c2
 have c2b1 : decide (0 ≤ (l0.length : Int)) = true := decide_eq_true c2
 clear c2
 by_cases c3 : ((l0.length : Int) : Int).toNat ≤ 17592186044416
 rotate_left
 ·rw [if_neg c3] at H
  exact absurd H (by simp)
 rw [if_pos c3] at H
 have c3b0 := eq_true c3
 have c3b1 : decide (((l0.length : Int) : Int).toNat ≤ 17592186044416) = true := decide_eq_true c3
 clear c3
 obtain ⟨y302, hy302⟩ : ∃ y_ : List (S58), y_ = (List.replicate ((l0.length : Int) : Int).toNat z58) := ⟨_, rfl⟩
 replace H : (laws_toCellS.l0 k l0 y302 0) = some r := zy H hy302
 have Ny302 := aM hy302
 clear hy302
 have H' := aM H
 clear H
 go_enter Tryz.func21, Tryz.ntmps21
 go_wp2_with (first | ((with_reducible refine gate_dst (N := 7) rfl ?_); refine Kd.R_make k58 _ 58 rfl (N := 7) rfl 28 _ _ rfl (l0.length : Int) rfl rfl Tryz.underlying28 (.agg #[(.int .i64 0), (.int .i64 0)]) 16 info58 rfl (by decide) (by omega) z58 (ok := fun _ => True) (okp := fun _ => True) (k58_mkM _ _ _ z58 ) (fun _ hk => hk) trivial (of_decide_eq_true za) (Nat.le_trans (Nat.mul_le_mul_right _ (of_decide_eq_true za : (l0.length : Int).toNat ≤ 17592186044416)) (by omega)) (Below.refl _ _) (Nat.le_refl _) ?_; intro v303 w4 ho5 hb hg_ hnew_; clear hg_ hnew_; (first | rw [← Ny302.out] at ho5 | (simp only [Int.reduceToNat] at ho5; rw [← Ny302.out] at ho5)); have n0_ := aM (Kd.R_lower ho5 (below_size zb)); have n1_ := aM (below_step zb hb); clear HB; have HO304 := n0_; have HB := n1_; clear n0_ n1_; clear hb ho5))
 go_loopg [4] k (fun kq v4 w' => ∃ (x3_1 : List (S58)) (x4_1 : Int), v4 = .int .i64 x4_1 ∧ Aside0 (laws_toCellS.l0 kq l0 x3_1 x4_1 = some r) ∧ Aside0 (kq ≤ k) ∧ Aside0 (Kd.R k58 58 w' w.heap.size (fun _ => True) v303 x3_1) ∧ Aside0 (Below w.heap.size w w'))
 case atStart => exact ⟨(y302), (0), zr, H', ⟨Nat.le_refl _⟩, ⟨mR_ HO304.out⟩, ⟨zb⟩⟩
 case round =>
  clear H'
  try clear c2
  try clear c2b0
  try clear c2b1
  try clear p2
  try clear c3
  try clear c3b0
  try clear c3b1
  obtain ⟨x3_1, x4_1, rfl, HA, HK1, HO_3, HB⟩ := hrel
  cases gk with
  | zero => exact absurd HA.out (by simp [laws_toCellS.l0])
  | succ k1 =>
   have H := HA.out
   clear HA
   simp only [laws_toCellS.l0] at H
   by_cases c6 : x4_1 < (l0.length : Int)
   rotate_left
   ·rw [if_neg c6] at H
    have c6b0 : decide (x4_1 < (l0.length : Int)) = false := decide_eq_false c6
    clear c6
    obtain rfl := Option.some.inj H
    go_wp2
    go_ret
    exact ⟨_, zw, mR_ HO_3.out, zb⟩
   rw [if_pos c6] at H
   have c6b0 : decide (x4_1 < (l0.length : Int)) = true := decide_eq_true c6
   clear c6
   by_cases c7 : 0 ≤ x4_1
   rotate_left
   ·rw [if_neg c7] at H
    exact absurd H (by simp)
   rw [if_pos c7] at H
   have c7b0 : decide (0 ≤ x4_1) = true := decide_eq_true c7
   clear c7
   replace H := Option.bind_eq_some_iff.mp H
   obtain ⟨⟨t306, t307⟩, A80, H⟩ := H
   replace H : (if x4_1 < (x3_1.length : Int) then (laws_toCellS.l0 k1 l0 (x3_1.set (x4_1 : Int).toNat (⟨t306, t307⟩ : S58)) (wrap64 (x4_1 + 1))) else (none)) = some r := H
   have A8 := aM A80
   clear A80
   by_cases c9 : x4_1 < (x3_1.length : Int)
   rotate_left
   ·rw [if_neg c9] at H
    exact absurd H (by simp)
   rw [if_pos c9] at H
   have c9b0 : decide (x4_1 < (x3_1.length : Int)) = true := decide_eq_true c9
   clear c9
   obtain ⟨y308, hy308⟩ : ∃ y_ : List (S58), y_ = (x3_1.set (x4_1 : Int).toNat (⟨t306, t307⟩ : S58)) := ⟨_, rfl⟩
   replace H : (laws_toCellS.l0 k1 l0 y308 (wrap64 (x4_1 + 1))) = some r := zy H hy308
   have Ny308 := aM hy308
   clear hy308
   have H' := aM H
   clear H
   have p305 : 0 ≤ (x4_1 : Int) := of_decide_eq_true za
   have q305 : x4_1 < (l0.length : Int) := of_decide_eq_true za
   obtain ⟨ad305, e305, hx305_0, hx305_1⟩ := at_T60 HR0.out x4_1 p305 q305
   cases e305
   replace hx305_0 := zk HB.out hx305_0
   replace hx305_1 := zk HB.out hx305_1
   replace p305 := eq_true p305
   replace q305 := eq_true q305
   go_wp2_with (first | ((with_reducible refine gate_callee (f := 37) rfl ?_); refine goesL_ (some 20) rfl rfl Tryz.func37 (by kernel_rfl) rfl #[.agg #[.int .i64 ((rd_T60 l0 x4_1).f0), .int .i64 ((rd_T60 l0 x4_1).f1)]] rfl zm ?_; (with_reducible refine (laws_toCell.calls ((rd_T60 l0 x4_1).f0) ((rd_T60 l0 x4_1).f1) t306 t307 _ A8.out).mono ?_); rintro e w11 ⟨rfl, hb⟩; refine ⟨_, rfl, ?_⟩; have n0_ := aM (Kd.R_below (mR_ HO_3.out) hb); have n1_ := aM (below_step zb hb); clear HO_3 HB; have HO_3 := n0_; have HB := n1_; clear n0_ n1_; (try clear hb); (try clear hb2); (try clear hk); (try clear hi); have p10 : 0 ≤ (x4_1 : Int) := of_decide_eq_true za; have q10 : (x4_1 : Int) < ((x3_1.length : Int) : Int) := of_decide_eq_true za; obtain ⟨go10, co10, eo10, gb10, gl10, cl10, HG10⟩ := Kd.R_form HO_3.out (by omega); (first | cases eo10 | (injection eo10 with ea_ en_ ec_; (first | subst ea_ | (injection ea_ with ea_; subst ea_)); subst ec_; clear en_)); have GB10 := aM gb10; have GG10 := aM HG10; clear gb10 gl10 HG10; obtain ⟨ce10, hcl10, hM10, hcc10, hfr10⟩ := Kd.R_elem HO_3.out z58 (x4_1 : Int) p10 q10; obtain rfl := k58_openM hM10; have hx10_0 : w11.cell? ⟨go10, (x4_1 : Int).toNat * 2, none⟩ = some (.int .i64 ((rd_T58 x3_1 x4_1).f0)) := hcc10 0 _ rfl; have hx10_1 : w11.cell? ⟨go10, (x4_1 : Int).toNat * 2 + 1, none⟩ = some (.int .i64 ((rd_T58 x3_1 x4_1).f1)) := hcc10 1 _ rfl; have hf10_0 : w11.frozen? ⟨go10, (x4_1 : Int).toNat * 2, none⟩ = false := hfr10 0; have hf10_1 : w11.frozen? ⟨go10, (x4_1 : Int).toNat * 2 + 1, none⟩ = false := hfr10 1; clear hcl10 hcc10 hfr10 hM10; replace p10 := eq_true p10; replace q10 := eq_true q10; have HX12 := aM (show Kd.R k58 58 w11 w.heap.size (fun _ => True) (.slice (some ⟨go10, 0, none⟩) x3_1.length co10) x3_1 from (mR_ HO_3.out)); obtain ⟨ce12, hcl12, hM12, hcc12, hfr12⟩ := Kd.R_elem HX12.out z58 (x4_1 : Int) (of_decide_eq_true za) (by have h_ : (x4_1 : Int) < ((x3_1.length : Int) : Int) := of_decide_eq_true za; first | exact h_ | (have e_ := (Kd.R_reads' HO_3.out).1; omega) | simpa using h_); obtain rfl := k58_openM hM12; have HP12 := Kd.R_seg HX12.out (x4_1 : Int) (of_decide_eq_true za) (by have h_ : (x4_1 : Int) < ((x3_1.length : Int) : Int) := of_decide_eq_true za; first | exact h_ | (have e_ := (Kd.R_reads' HO_3.out).1; omega) | simpa using h_) (seg := [.int .i64 t306, .int .i64 t307]) (j := 0) hcl12 hcc12 (show 2 ≤ 2 from by decide) (x' := (⟨t306, t307⟩ : S58)) (k58_mkM _ _ _ (⟨t306, t307⟩ : S58) ) (fun _ hk => hk); have hx12_0 := hcc12 0 _ rfl; (try simp only [show (k58).sz = 2 from rfl, Nat.mul_one, Nat.add_zero] at hx12_0); have hf12_0 := hfr12 0; (try simp only [show (k58).sz = 2 from rfl, Nat.mul_one, Nat.add_zero] at hf12_0); have hx12_1 := hcc12 1 _ rfl; (try simp only [show (k58).sz = 2 from rfl, Nat.mul_one, Nat.add_zero] at hx12_1); have hf12_1 := hfr12 1; (try simp only [show (k58).sz = 2 from rfl, Nat.mul_one, Nat.add_zero] at hf12_1); clear hcl12 hcc12 hfr12 hM12) | ((with_reducible refine gate_store (t := 58) (p := 21) rfl ?_); refine store_event (t := 58) (p := 21) (v := ?vo_w13) (w1 := ((w11.setCell ⟨go10, (x4_1 : Int).toNat * 2, none⟩ (.int .i64 t306)).setCell ⟨go10, (x4_1 : Int).toNat * 2 + 1, none⟩ (.int .i64 t307))) ?hg ?ho ?hn ?hr ?_; (case ho => rfl); (case hg => rfl); (case hn => rfl); (case hr => first | (go_simp; done) | (go_simp; rfl)); intro w13 hw; have hg : w11.grownBy w13 (some go10) := (by rw [hw]; exact HP12.2); have hp_ : Kd.R k58 58 w13 w.heap.size (fun _ => True) (.slice (some ⟨go10, 0, none⟩) x3_1.length co10) y308 := (by rw [hw, Ny308.out]; exact HP12.1); clear HP12; have n0_ := aM (hp_); have n1_ := aM ((by rw [hw]; exact below_set (below_set (HB.out) GB10.out) GB10.out : Below w.heap.size w w13)); clear HO_3 HB; have HO_3 := n0_; have HB := n1_; clear n0_ n1_; clear hg hw hp_))
   go_roundg k1
   case measure => have := HK1.out; omega
   case rel => exact ⟨(y308), (wrap64 (x4_1 + 1)), zr, H', ⟨by have := HK1.out; omega⟩, ⟨mR_ HO_3.out⟩, ⟨zb⟩⟩
def laws_toPiece.f (k : Nat) (l0_0 : List (S60)) (a0_1 : Int) (a0_2 : Bool) : Option ((List (S58)) × Int × Bool) := (laws_toCellS.f k l0_0).bind fun t312 => (some (t312, a0_1, a0_2))
end Go.Proofs.YtfdfdifjkaaeoaaGreat.F
end
