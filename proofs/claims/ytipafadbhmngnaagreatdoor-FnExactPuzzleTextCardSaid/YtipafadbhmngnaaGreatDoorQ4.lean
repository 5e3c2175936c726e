/- The row of FnExactPuzzleText, with what it needs: text 5 of 11. -/
import Derived.Test.YtipafadbhmngnaaGreatDoorQ3
set_option maxHeartbeats 8000000
set_option maxRecDepth 100000
section
namespace Go.Proofs.YtipafadbhmngnaaGreatDoor.F
open Go.RowKit Go.Proofs.YtipafadbhmngnaaGreatDoorW.PrintWords Go.Proofs.YtipafadbhmngnaaGreatDoorW.PrintLast Go.Proofs.YtipafadbhmngnaaGreatDoorW.PrintMore
attribute [local go_sem] max2_int min2_int max_two min_two max_three min_three max_four min_four
set_option linter.unusedVariables false
set_option linter.unusedSimpArgs false
theorem spec_l02Insert.calls (k : Nat) (A0 : Option Addr) (c0 : Nat) (l0 : List (S82)) (a1_0 : Int) (a1_1 : Int) (r : List (S82)) (w : World) (hr0 : Kd.C k82 w A0 l0.length l0) (hc0 : l0.length ≤ c0) (h : spec_l02Insert.f k l0 a1_0 a1_1 = some r) :
  Calls Tryz.prog 106 #[.slice A0 l0.length c0, .agg #[.int .i64 a1_0, .int .i64 a1_1]] w fun e w' => ∃ v0_ : Value, e = .returned (v0_) ∧ Kd.R k82 82 w' w.heap.size (fun _ => True) v0_ r ∧ Below w.heap.size w w' := by
 have hu82 := Tryz.underlying82
 have HR0 := aM hr0
 have HC0 := aM hc0
 clear hr0 hc0
 have HB := aM (Below.refl w.heap.size w)
 have H : (spec_l02Insert.l0 k l0 (([] : List (S82))) false 0 a1_0 a1_1) = some r := h
 clear h
 obtain ⟨y217, hy217⟩ : ∃ y_ : List (S82), y_ = (([] : List (S82))) := ⟨_, rfl⟩
 replace H : (spec_l02Insert.l0 k l0 y217 false 0 a1_0 a1_1) = some r := zy H hy217
 have Ny217 := aM hy217
 clear hy217
 have H' := aM H
 clear H
 go_enter Tryz.func106, Tryz.ntmps106
 go_wp2_with (first | ((with_reducible refine gate_dst (N := 3) rfl ?_); refine zx 3 #[.int .i64 a1_0, .int .i64 a1_1] 82 ?_; intro gb216 hg w3 hbox hb; have _ := aM (below_step zb hb); have _ := aM (hbox); have _ := aM ((ze : w.heap.size ≤ gb216)); have _ := aM ((ze : w.heap.size ≤ gb216)); clear HB; rename_i HB BK216 GW216 GE216; clear hb hbox hg) | ((with_reducible refine gate_dst (N := 8) rfl ?_); refine Kd.R_lit k82 _ 82 ?hg (N := 8) ?hd (xs := ([] : List (S82))) (inner := []) (ok := fun _ => True) (okp := fun _ => True) ?hr ?hp (fun _ hk => hk) trivial (Below.refl _ _) (Nat.le_refl _) (by simp) ?_; (case hd => rfl); (case hg => rfl); (case hr => first | (go_simp; done) | (go_simp; rfl)); (case hp => exact (Reps.none _ _)); intro v218 w4 ho5 hb hg_ hnew_; clear hg_ hnew_; (first | rw [← Ny217.out] at ho5 | (simp only [Int.reduceToNat] at ho5; rw [← Ny217.out] at ho5)); have _ := aM (Kd.R_lower (Kd.R_newB ho5 (g := gb216) (o := .cells #[.int .i64 a1_0, .int .i64 a1_1] 82 (0, 0)) (mB_ BK216.out)) (below_size (zs GE216.out))); have _ := aM (blk_below (g := gb216) (o := .cells #[.int .i64 a1_0, .int .i64 a1_1] 82 (0, 0)) (mB_ BK216.out) hb); have _ := aM (below_step (zs GE216.out) hb); clear BK216 HB; rename_i HO219 BK216 HB; clear hb ho5))
 go_loopg [5, 6, 7] k (fun kq v5 v6 v7 w' => ∃ (x5_1 : List (S82)) (x6_1 : Bool) (x7_1 : Int), v6 = .bool x6_1 ∧ v7 = .int .i64 x7_1 ∧ Aside0 (spec_l02Insert.l0 kq l0 x5_1 x6_1 x7_1 a1_0 a1_1 = some r) ∧ Aside0 (kq ≤ k) ∧ Aside0 (Kd.R k82 82 w' w.heap.size (fun k_ => k_ ≠ gb216) v5 x5_1) ∧ Aside0 (w'.heap[gb216]? = some (.cells #[.int .i64 a1_0, .int .i64 a1_1] 82 (0, 0))) ∧ Aside0 (Below w.heap.size w w'))
 case atStart => exact ⟨(y217), (false), (0), zr, zr, H', ⟨Nat.le_refl _⟩, ⟨zd1 HO219.out⟩, ⟨mB_ BK216.out⟩, ⟨zs GE216.out⟩⟩
 case round =>
  clear H'
  try clear c1
  try clear p2
  obtain ⟨x5_1, x6_1, x7_1, rfl, rfl, HA, HK1, HO_5, BK216, HB⟩ := hrel
  cases gk with
  | zero => exact absurd HA.out (by simp [spec_l02Insert.l0])
  | succ k1 =>
   have H := HA.out
   clear HA
   simp only [spec_l02Insert.l0] at H
   by_cases c6 : x7_1 < (l0.length : Int)
   rotate_left
   ·rw [if_neg c6] at H
    have c6b0 : decide (x7_1 < (l0.length : Int)) = false := decide_eq_false c6
    clear c6
    by_cases c26 : x6_1 = true
    ·subst c26
     have H1 : (some x5_1) = some r := by rw [if_pos rfl] at H; exact H
     clear H
     have H := H1
     clear H1
     obtain rfl := Option.some.inj H
     go_wp2
     go_ret
     exact ⟨_, zw, zd0 HO_5.out, zs GE216.out⟩
    replace c26 := Bool.eq_false_iff.mpr c26
    subst c26
    have H1 : (if x5_1.length < 8796093022208 then (some (x5_1 ++ [(⟨a1_0, a1_1⟩ : S82)])) else (none)) = some r := by rw [if_neg (show ¬ (false = true) by decide)] at H; exact H
    clear H
    have H := H1
    clear H1
    by_cases c27 : x5_1.length < 8796093022208
    rotate_left
    ·rw [if_neg c27] at H
     exact absurd H (by simp)
    rw [if_pos c27] at H
    have LMc27 := aM c27
    clear c27
    obtain ⟨y237, hy237⟩ : ∃ y_ : List (S82), y_ = (x5_1 ++ [(⟨a1_0, a1_1⟩ : S82)]) := ⟨_, rfl⟩
    replace H : (some y237) = some r := zy H hy237
    have Ny237 := aM hy237
    clear hy237
    obtain rfl := Option.some.inj H
    obtain ⟨hcz28_0, hcz28_1, hfz28_0, hfz28_1⟩ := zQ2 BK216.out
    go_wp2_with (first | ((with_reducible refine gate_builtin (b := .append) (xs := #[.tmp 38, .tmp 40]) rfl ?_); at_builtin; refine Kd.R_append k82 (w0 := w) w.heap.size rfl (.tmp 38) (.tmp 40) 28 82 (.agg #[(.int .i64 0), (.int .i64 0)]) 16 rfl Tryz.underlying28 info82 rfl (by decide) (by omega) u5 x5_1 (⟨a1_0, a1_1⟩ : S82) [.int .i64 a1_0, .int .i64 a1_1] (fun k_ => k_ ≠ gb216) (fun _ => False) rfl rfl ?aP (fun _ hk => hk.elim) ?aF ?aO ?aB ?aS ?aL ?_; (case aP => exact k82_mkM _ _ _ (⟨a1_0, a1_1⟩ : S82)); (case aB => exact (zs GE216.out)); (case aF => exact (fun k_ hk => Kd.freshB (g := gb216) (o := .cells #[.int .i64 a1_0, .int .i64 a1_1] 82 (0, 0)) (mB_ BK216.out) k_ hk)); (case aO => exact (mR_ HO_5.out)); (case aS => exact (below_size (zs GE216.out))); (case aL => have := LMc27.out; omega); intro v238 w29 ho hb hg hat; rw [← Ny237.out] at ho; have _ := aM (blk_grown (g := gb216) (o := .cells #[.int .i64 a1_0, .int .i64 a1_1] 82 (0, 0)) (mB_ BK216.out) hg (Kd.R_away HO_5.out (fun _ hk => hk))); have _ := aM (hb); have _ := aM (ho); clear BK216 HB HO_5; rename_i BK216 HB HO239; clear ho hb hg hat))
    go_ret
    exact ⟨_, zw, zd0 HO239.out, zs GE216.out⟩
   rw [if_pos c6] at H
   have c6b0 : decide (x7_1 < (l0.length : Int)) = true := decide_eq_true c6
   clear c6
   by_cases c7 : x6_1 = true
   ·subst c7
    have H1 : (if 0 ≤ x7_1 then (if x5_1.length < 8796093022208 then (spec_l02Insert.l0 k1 l0 (x5_1 ++ [(⟨(rd_T82 l0 x7_1).f0, (rd_T82 l0 x7_1).f1⟩ : S82)]) true (wrap64 (x7_1 + 1)) a1_0 a1_1) else (none)) else (none)) = some r := by rw [if_pos rfl] at H; exact H
    clear H
    have H := H1
    clear H1
    by_cases c8 : 0 ≤ x7_1
    rotate_left
    ·rw [if_neg c8] at H
     exact absurd H (by simp)
    rw [if_pos c8] at H
    have c8b0 : decide (0 ≤ x7_1) = true := decide_eq_true c8
    clear c8
    by_cases c9 : x5_1.length < 8796093022208
    rotate_left
    ·rw [if_neg c9] at H
     exact absurd H (by simp)
    rw [if_pos c9] at H
    have LMc9 := aM c9
    clear c9
    obtain ⟨y221, hy221⟩ : ∃ y_ : List (S82), y_ = (x5_1 ++ [(⟨(rd_T82 l0 x7_1).f0, (rd_T82 l0 x7_1).f1⟩ : S82)]) := ⟨_, rfl⟩
    replace H : (spec_l02Insert.l0 k1 l0 y221 true (wrap64 (x7_1 + 1)) a1_0 a1_1) = some r := zy H hy221
    have Ny221 := aM hy221
    clear hy221
    have H' := aM H
    clear H
    try go_wp2
    have _ := aM (Kd.R_drew HO_5.out)
    have _ := aM (blk_drew BK216.out)
    have _ := aM (below_drew1 HB.out)
    clear HO_5
    clear BK216
    clear HB
    rename_i HO_5 BK216 HB
    refine start_ (n := 10) (S := fun w' => True) (ds := []) zA52 (by kernel_rfl) rfl rfl trivial (fun hHeld => ?_); refine with_tabW spec_l02Insert.tab6 spec_l02Insert.bits6 (fun HT_ HW_ => ?_)
    generalize wr.drew = w10 at HO_5 BK216 HB hHeld ⊢
    refine zP 0 (some 15) zA53 ?_
    refine zP 1 (some 16) zA54 ?_
    refine zP 2 (some 17) zA55 ?_
    refine zp 3 (some 18) undef zA56 rfl rfl (Or.inr ⟨by rfl, rfl⟩) ?_ ?_ ?_
    rotate_left
    ·simp only [Act.put, xA, xB, xC, i64_w, i32_w]
     rfl
    refine zp 4 (some 19) undef zA57 rfl rfl (Or.inr ⟨by rfl, rfl⟩) ?_ ?_ ?_
    rotate_left
    ·simp only [Act.put, xA, xB, xC, i64_w, i32_w]
     rfl
    refine zp 5 (some 20) undef zA58 rfl rfl (Or.inr ⟨by rfl, rfl⟩) ?_ ?_ ?_
    rotate_left
    ·simp only [Act.put, xA, xB, xC, i64_w, i32_w]
     rfl
    refine zp 6 (some 21) undef zA59 rfl rfl (Or.inr ⟨by rfl, rfl⟩) ?_ ?_ ?_
    rotate_left
    ·simp only [Act.put, xA, xB, xC, i64_w, i32_w]
     rfl
    refine zp 7 (some 22) undef zA60 rfl rfl (Or.inr ⟨by rfl, rfl⟩) ?_ ?_ ?_
    rotate_left
    ·simp only [Act.put, xA, xB, xC, i64_w, i32_w]
     rfl
    refine zp 8 (some 23) undef zA61 rfl rfl (Or.inr ⟨by rfl, rfl⟩) ?_ ?_ ?_
    rotate_left
    ·simp only [Act.put, xA, xB, xC, i64_w, i32_w]
     rfl
    refine zP 9 (some 24) zA62 ?_
    refine done_ (done_of HT_.out (by kernel_rfl)) ?_
    have p220 : 0 ≤ (x7_1 : Int) := of_decide_eq_true za
    have q220 : x7_1 < (l0.length : Int) := of_decide_eq_true za
    obtain ⟨ad220, e220, hx220_0, hx220_1⟩ := at_T82 HR0.out x7_1 p220 q220
    cases e220
    replace hx220_0 := zk HB.out hx220_0
    replace hx220_1 := zk HB.out hx220_1
    replace p220 := eq_true p220
    replace q220 := eq_true q220
    try go_wp2_with (first | ((with_reducible refine gate_builtin (b := .append) (xs := #[.tmp 29, .tmp 34]) rfl ?_); at_builtin; refine Kd.R_append k82 (w0 := w) w.heap.size rfl (.tmp 29) (.tmp 34) 28 82 (.agg #[(.int .i64 0), (.int .i64 0)]) 16 rfl Tryz.underlying28 info82 rfl (by decide) (by omega) u5 x5_1 (⟨(rd_T82 l0 x7_1).f0, (rd_T82 l0 x7_1).f1⟩ : S82) [.int .i64 ((rd_T82 l0 x7_1).f0), .int .i64 ((rd_T82 l0 x7_1).f1)] (fun k_ => k_ ≠ gb216) (fun _ => False) rfl rfl ?aP (fun _ hk => hk.elim) ?aF ?aO ?aB ?aS ?aL ?_; (case aP => exact k82_mkM _ _ _ (⟨(rd_T82 l0 x7_1).f0, (rd_T82 l0 x7_1).f1⟩ : S82)); (case aB => exact (zs GE216.out)); (case aF => exact (fun k_ hk => Kd.freshB (g := gb216) (o := .cells #[.int .i64 a1_0, .int .i64 a1_1] 82 (0, 0)) (mB_ BK216.out) k_ hk)); (case aO => exact (mR_ HO_5.out)); (case aS => exact (below_size (zs GE216.out))); (case aL => have := LMc9.out; omega); intro v222 w11 ho hb hg hat; rw [← Ny221.out] at ho; have _ := aM (blk_grown (g := gb216) (o := .cells #[.int .i64 a1_0, .int .i64 a1_1] 82 (0, 0)) (mB_ BK216.out) hg (Kd.R_away HO_5.out (fun _ hk => hk))); have _ := aM (hb); have _ := aM (ho); clear BK216 HB HO_5; rename_i BK216 HB HO223; clear ho hb hg hat))
    go_roundg k1
    case measure => have := HK1.out; omega
    case rel => exact ⟨(y221), (true), (wrap64 (x7_1 + 1)), zr, zr, H', ⟨by have := HK1.out; omega⟩, ⟨mR_ HO223.out⟩, ⟨mB_ BK216.out⟩, ⟨zs GE216.out⟩⟩
   replace c7 := Bool.eq_false_iff.mpr c7
   subst c7
   have H1 : (if 0 ≤ x7_1 then ((spec_l02Less.f a1_0 a1_1 ((rd_T82 l0 x7_1).f0) ((rd_T82 l0 x7_1).f1)).bind fun t225 => (if t225 = true then (if x5_1.length < 8796093022208 then ((some (x5_1 ++ [(⟨a1_0, a1_1⟩ : S82)] : List (S82))).bind fun y226 => (if y226.length < 8796093022208 then (spec_l02Insert.l0 k1 l0 (y226 ++ [(⟨(rd_T82 l0 x7_1).f0, (rd_T82 l0 x7_1).f1⟩ : S82)]) true (wrap64 (x7_1 + 1)) a1_0 a1_1) else (none))) else (none)) else (if x5_1.length < 8796093022208 then (spec_l02Insert.l0 k1 l0 (x5_1 ++ [(⟨(rd_T82 l0 x7_1).f0, (rd_T82 l0 x7_1).f1⟩ : S82)]) false (wrap64 (x7_1 + 1)) a1_0 a1_1) else (none)))) else (none)) = some r := by rw [if_neg (show ¬ (false = true) by decide)] at H; exact H
   clear H
   have H := H1
   clear H1
   by_cases c12 : 0 ≤ x7_1
   rotate_left
   ·rw [if_neg c12] at H
    exact absurd H (by simp)
   rw [if_pos c12] at H
   have c12b0 : decide (0 ≤ x7_1) = true := decide_eq_true c12
   clear c12
   replace H := Option.bind_eq_some_iff.mp H
   obtain ⟨t225, A130, H⟩ := H
   replace H : (if t225 = true then (if x5_1.length < 8796093022208 then ((some (x5_1 ++ [(⟨a1_0, a1_1⟩ : S82)] : List (S82))).bind fun y226 => (if y226.length < 8796093022208 then (spec_l02Insert.l0 k1 l0 (y226 ++ [(⟨(rd_T82 l0 x7_1).f0, (rd_T82 l0 x7_1).f1⟩ : S82)]) true (wrap64 (x7_1 + 1)) a1_0 a1_1) else (none))) else (none)) else (if x5_1.length < 8796093022208 then (spec_l02Insert.l0 k1 l0 (x5_1 ++ [(⟨(rd_T82 l0 x7_1).f0, (rd_T82 l0 x7_1).f1⟩ : S82)]) false (wrap64 (x7_1 + 1)) a1_0 a1_1) else (none))) = some r := H
   have A13 := aM A130
   clear A130
   by_cases c14 : t225 = true
   rotate_left
   ·replace c14 := Bool.eq_false_iff.mpr c14
    subst c14
    have H1 : (if x5_1.length < 8796093022208 then (spec_l02Insert.l0 k1 l0 (x5_1 ++ [(⟨(rd_T82 l0 x7_1).f0, (rd_T82 l0 x7_1).f1⟩ : S82)]) false (wrap64 (x7_1 + 1)) a1_0 a1_1) else (none)) = some r := by rw [if_neg (show ¬ (false = true) by decide)] at H; exact H
    clear H
    have H := H1
    clear H1
    by_cases c22 : x5_1.length < 8796093022208
    rotate_left
    ·rw [if_neg c22] at H
     exact absurd H (by simp)
    rw [if_pos c22] at H
    have LMc22 := aM c22
    clear c22
    obtain ⟨y234, hy234⟩ : ∃ y_ : List (S82), y_ = (x5_1 ++ [(⟨(rd_T82 l0 x7_1).f0, (rd_T82 l0 x7_1).f1⟩ : S82)]) := ⟨_, rfl⟩
    replace H : (spec_l02Insert.l0 k1 l0 y234 false (wrap64 (x7_1 + 1)) a1_0 a1_1) = some r := zy H hy234
    have Ny234 := aM hy234
    clear hy234
    have H' := aM H
    clear H
    try go_wp2
    have _ := aM (Kd.R_drew HO_5.out)
    have _ := aM (blk_drew BK216.out)
    have _ := aM (below_drew1 HB.out)
    clear HO_5
    clear BK216
    clear HB
    rename_i HO_5 BK216 HB
    have p224 : 0 ≤ (x7_1 : Int) := of_decide_eq_true za
    have q224 : x7_1 < (l0.length : Int) := of_decide_eq_true za
    obtain ⟨ad224, e224, hx224_0, hx224_1⟩ := at_T82 HR0.out x7_1 p224 q224
    have hw224_1 := hx224_1
    have hw224_0 := hx224_0
    cases e224
    replace hx224_0 := zk HB.out hx224_0
    replace hx224_1 := zk HB.out hx224_1
    replace p224 := eq_true p224
    replace q224 := eq_true q224
    refine start_ (n := 10) (S := fun w' => w'.cell? ⟨gb216, 0, none⟩ = some (.int .i64 a1_0) ∧ w'.cell? ⟨gb216, 1, none⟩ = some (.int .i64 a1_1) ∧ w'.cell? (ad224.add ((x7_1).toNat * 2)) = some (.int .i64 ((rd_T82 l0 x7_1).f0)) ∧ w'.cell? ⟨(ad224.add ((x7_1).toNat * 2)).block, (ad224.add ((x7_1).toNat * 2)).off + 1, none⟩ = some (.int .i64 ((rd_T82 l0 x7_1).f1))) (ds := []) zA52 (by kernel_rfl) rfl rfl ⟨(blk_cell BK216.out 0).trans rfl, (blk_cell BK216.out 1).trans rfl, (zk HB.out hw224_0), (zk HB.out hw224_1)⟩ (fun hHeld => ?_); refine with_tabW spec_l02Insert.tab6 spec_l02Insert.bits6 (fun HT_ HW_ => ?_)
    generalize wr.drew = w23 at HO_5 BK216 HB hx224_0 hx224_1 hHeld ⊢
    refine zP 0 (some 15) zA53 ?_
    refine zP 1 (some 16) zA54 ?_
    refine zP 2 (some 17) zA55 ?_
    refine zP 4 (some 19) zA63 ?_
    refine zP 5 (some 20) zA64 ?_
    refine zP 6 (some 21) zA65 ?_
    refine zU4 3 (some 18) zA59 hHeld ?_
    refine zU4 7 (some 22) zA60 hHeld ?_
    refine one_ (i := 8) (N := some 23) zA61 rfl rfl (one_of HT_.out (by kernel_rfl)) (by decide) (fun K hK => ?_)
    refine goes_ Tryz.func93 (by kernel_rfl) rfl #[.agg #[.int .i64 a1_0, .int .i64 a1_1], .agg #[.int .i64 ((rd_T82 l0 x7_1).f0), .int .i64 ((rd_T82 l0 x7_1).f1)]] (by rfl) rfl rfl zm ?_
    with_reducible refine (spec_l02Less.calls a1_0 a1_1 ((rd_T82 l0 x7_1).f0) ((rd_T82 l0 x7_1).f1) false _ A13.out).mono ?_
    rintro e w24 ⟨rfl, hb⟩
    refine ⟨_, rfl, ?_⟩
    have _ := aM (Kd.R_below (mR_ HO_5.out) hb)
    have _ := aM (blk_below (g := gb216) (o := .cells #[.int .i64 a1_0, .int .i64 a1_1] 82 (0, 0)) (mB_ BK216.out) hb)
    have _ := aM (below_step (zs GE216.out) hb)
    clear HO_5
    clear BK216
    clear HB
    rename_i HO_5 BK216 HB
    (try clear hb)
    (try clear hb2)
    (try clear hk)
    (try clear hi)
    refine hK.out _ _ ⟨(blk_cell BK216.out 0).trans rfl, (blk_cell BK216.out 1).trans rfl, (zk HB.out hw224_0), (zk HB.out hw224_1)⟩ (fun hHeld => ?_)
    clear hK K
    refine norm_ (a' := ?_) ?_ ?_
    rotate_left
    ·show Act.put _ (some 23) _ = _
     simp only [Act.put, xA, xB, xC, i64_w, i32_w]
     rfl
    refine zP 9 (some 24) zA62 ?_
    refine done_ (done_of HT_.out (by kernel_rfl)) ?_
    have p233 : 0 ≤ (x7_1 : Int) := of_decide_eq_true za
    have q233 : x7_1 < (l0.length : Int) := of_decide_eq_true za
    obtain ⟨ad233, e233, hx233_0, hx233_1⟩ := at_T82 HR0.out x7_1 p233 q233
    obtain rfl : ad224 = ad233 := (by injection e233)
    replace hx233_0 := zk HB.out hx233_0
    replace hx233_1 := zk HB.out hx233_1
    replace p233 := eq_true p233
    replace q233 := eq_true q233
    try go_wp2_with (first | ((with_reducible refine gate_builtin (b := .append) (xs := #[.tmp 29, .tmp 34]) rfl ?_); at_builtin; refine Kd.R_append k82 (w0 := w) w.heap.size rfl (.tmp 29) (.tmp 34) 28 82 (.agg #[(.int .i64 0), (.int .i64 0)]) 16 rfl Tryz.underlying28 info82 rfl (by decide) (by omega) u5 x5_1 (⟨(rd_T82 l0 x7_1).f0, (rd_T82 l0 x7_1).f1⟩ : S82) [.int .i64 ((rd_T82 l0 x7_1).f0), .int .i64 ((rd_T82 l0 x7_1).f1)] (fun k_ => k_ ≠ gb216) (fun _ => False) rfl rfl ?aP (fun _ hk => hk.elim) ?aF ?aO ?aB ?aS ?aL ?_; (case aP => exact k82_mkM _ _ _ (⟨(rd_T82 l0 x7_1).f0, (rd_T82 l0 x7_1).f1⟩ : S82)); (case aB => exact (zs GE216.out)); (case aF => exact (fun k_ hk => Kd.freshB (g := gb216) (o := .cells #[.int .i64 a1_0, .int .i64 a1_1] 82 (0, 0)) (mB_ BK216.out) k_ hk)); (case aO => exact (mR_ HO_5.out)); (case aS => exact (below_size (zs GE216.out))); (case aL => have := LMc22.out; omega); intro v235 w25 ho hb hg hat; rw [← Ny234.out] at ho; have _ := aM (blk_grown (g := gb216) (o := .cells #[.int .i64 a1_0, .int .i64 a1_1] 82 (0, 0)) (mB_ BK216.out) hg (Kd.R_away HO_5.out (fun _ hk => hk))); have _ := aM (hb); have _ := aM (ho); clear BK216 HB HO_5; rename_i BK216 HB HO236; clear ho hb hg hat))
    go_roundg k1
    case measure => have := HK1.out; omega
    case rel => exact ⟨(y234), (false), (wrap64 (x7_1 + 1)), zr, zr, H', ⟨by have := HK1.out; omega⟩, ⟨mR_ HO236.out⟩, ⟨mB_ BK216.out⟩, ⟨zs GE216.out⟩⟩
   subst c14
   have H1 : (if x5_1.length < 8796093022208 then ((some (x5_1 ++ [(⟨a1_0, a1_1⟩ : S82)] : List (S82))).bind fun y226 => (if y226.length < 8796093022208 then (spec_l02Insert.l0 k1 l0 (y226 ++ [(⟨(rd_T82 l0 x7_1).f0, (rd_T82 l0 x7_1).f1⟩ : S82)]) true (wrap64 (x7_1 + 1)) a1_0 a1_1) else (none))) else (none)) = some r := by rw [if_pos rfl] at H; exact H
   clear H
   have H := H1
   clear H1
   by_cases c15 : x5_1.length < 8796093022208
   rotate_left
   ·rw [if_neg c15] at H
    exact absurd H (by simp)
   rw [if_pos c15] at H
   have LMc15 := aM c15
   clear c15
   obtain ⟨y226, hy226⟩ : ∃ y_ : List (S82), y_ = (x5_1 ++ [(⟨a1_0, a1_1⟩ : S82)]) := ⟨_, rfl⟩
   replace H : (if y226.length < 8796093022208 then (spec_l02Insert.l0 k1 l0 (y226 ++ [(⟨(rd_T82 l0 x7_1).f0, (rd_T82 l0 x7_1).f1⟩ : S82)]) true (wrap64 (x7_1 + 1)) a1_0 a1_1) else (none)) = some r := zy H hy226
   have Ny226 := aM hy226
   clear hy226
   by_cases c16 : y226.length < 8796093022208
   rotate_left
   ·rw [if_neg c16] at H
    exact absurd H (by simp)
   rw [if_pos c16] at H
   have LMc16 := aM c16
   clear c16
   obtain ⟨y230, hy230⟩ : ∃ y_ : List (S82), y_ = (y226 ++ [(⟨(rd_T82 l0 x7_1).f0, (rd_T82 l0 x7_1).f1⟩ : S82)]) := ⟨_, rfl⟩
   replace H : (spec_l02Insert.l0 k1 l0 y230 true (wrap64 (x7_1 + 1)) a1_0 a1_1) = some r := zy H hy230
   have Ny230 := aM hy230
   clear hy230
   have H' := aM H
   clear H
   try go_wp2
   have _ := aM (Kd.R_drew HO_5.out)
   have _ := aM (blk_drew BK216.out)
   have _ := aM (below_drew1 HB.out)
   clear HO_5
   clear BK216
   clear HB
   rename_i HO_5 BK216 HB
   have p224 : 0 ≤ (x7_1 : Int) := of_decide_eq_true za
   have q224 : x7_1 < (l0.length : Int) := of_decide_eq_true za
   obtain ⟨ad224, e224, hx224_0, hx224_1⟩ := at_T82 HR0.out x7_1 p224 q224
   have hw224_1 := hx224_1
   have hw224_0 := hx224_0
   cases e224
   replace hx224_0 := zk HB.out hx224_0
   replace hx224_1 := zk HB.out hx224_1
   replace p224 := eq_true p224
   replace q224 := eq_true q224
   refine start_ (n := 10) (S := fun w' => w'.cell? ⟨gb216, 0, none⟩ = some (.int .i64 a1_0) ∧ w'.cell? ⟨gb216, 1, none⟩ = some (.int .i64 a1_1) ∧ w'.cell? (ad224.add ((x7_1).toNat * 2)) = some (.int .i64 ((rd_T82 l0 x7_1).f0)) ∧ w'.cell? ⟨(ad224.add ((x7_1).toNat * 2)).block, (ad224.add ((x7_1).toNat * 2)).off + 1, none⟩ = some (.int .i64 ((rd_T82 l0 x7_1).f1))) (ds := []) zA52 (by kernel_rfl) rfl rfl ⟨(blk_cell BK216.out 0).trans rfl, (blk_cell BK216.out 1).trans rfl, (zk HB.out hw224_0), (zk HB.out hw224_1)⟩ (fun hHeld => ?_); refine with_tabW spec_l02Insert.tab6 spec_l02Insert.bits6 (fun HT_ HW_ => ?_)
   generalize wr.drew = w17 at HO_5 BK216 HB hx224_0 hx224_1 hHeld ⊢
   refine zP 0 (some 15) zA53 ?_
   refine zP 1 (some 16) zA54 ?_
   refine zP 2 (some 17) zA55 ?_
   refine zP 4 (some 19) zA63 ?_
   refine zP 5 (some 20) zA64 ?_
   refine zP 6 (some 21) zA65 ?_
   refine zU4 3 (some 18) zA59 hHeld ?_
   refine zU4 7 (some 22) zA60 hHeld ?_
   refine one_ (i := 8) (N := some 23) zA61 rfl rfl (one_of HT_.out (by kernel_rfl)) (by decide) (fun K hK => ?_)
   refine goes_ Tryz.func93 (by kernel_rfl) rfl #[.agg #[.int .i64 a1_0, .int .i64 a1_1], .agg #[.int .i64 ((rd_T82 l0 x7_1).f0), .int .i64 ((rd_T82 l0 x7_1).f1)]] (by rfl) rfl rfl zm ?_
   with_reducible refine (spec_l02Less.calls a1_0 a1_1 ((rd_T82 l0 x7_1).f0) ((rd_T82 l0 x7_1).f1) true _ A13.out).mono ?_
   rintro e w18 ⟨rfl, hb⟩
   refine ⟨_, rfl, ?_⟩
   have _ := aM (Kd.R_below (mR_ HO_5.out) hb)
   have _ := aM (blk_below (g := gb216) (o := .cells #[.int .i64 a1_0, .int .i64 a1_1] 82 (0, 0)) (mB_ BK216.out) hb)
   have _ := aM (below_step (zs GE216.out) hb)
   clear HO_5
   clear BK216
   clear HB
   rename_i HO_5 BK216 HB
   (try clear hb)
   (try clear hb2)
   (try clear hk)
   (try clear hi)
   refine hK.out _ _ ⟨(blk_cell BK216.out 0).trans rfl, (blk_cell BK216.out 1).trans rfl, (zk HB.out hw224_0), (zk HB.out hw224_1)⟩ (fun hHeld => ?_)
   clear hK K
   refine norm_ (a' := ?_) ?_ ?_
   rotate_left
   ·show Act.put _ (some 23) _ = _
    simp only [Act.put, xA, xB, xC, i64_w, i32_w]
    rfl
   refine zP 9 (some 24) zA62 ?_
   refine done_ (done_of HT_.out (by kernel_rfl)) ?_
   obtain ⟨hcz19_0, hcz19_1, hfz19_0, hfz19_1⟩ := zQ2 BK216.out
   try go_wp2_with (first | ((with_reducible refine gate_builtin (b := .append) (xs := #[.tmp 25, .tmp 27]) rfl ?_); at_builtin; refine Kd.R_append k82 (w0 := w) w.heap.size rfl (.tmp 25) (.tmp 27) 28 82 (.agg #[(.int .i64 0), (.int .i64 0)]) 16 rfl Tryz.underlying28 info82 rfl (by decide) (by omega) u5 x5_1 (⟨a1_0, a1_1⟩ : S82) [.int .i64 a1_0, .int .i64 a1_1] (fun k_ => k_ ≠ gb216) (fun _ => False) rfl rfl ?aP (fun _ hk => hk.elim) ?aF ?aO ?aB ?aS ?aL ?_; (case aP => exact k82_mkM _ _ _ (⟨a1_0, a1_1⟩ : S82)); (case aB => exact (zs GE216.out)); (case aF => exact (fun k_ hk => Kd.freshB (g := gb216) (o := .cells #[.int .i64 a1_0, .int .i64 a1_1] 82 (0, 0)) (mB_ BK216.out) k_ hk)); (case aO => exact (mR_ HO_5.out)); (case aS => exact (below_size (zs GE216.out))); (case aL => have := LMc15.out; omega); intro v227 w20 ho hb hg hat; rw [← Ny226.out] at ho; have _ := aM (blk_grown (g := gb216) (o := .cells #[.int .i64 a1_0, .int .i64 a1_1] 82 (0, 0)) (mB_ BK216.out) hg (Kd.R_away HO_5.out (fun _ hk => hk))); have _ := aM (hb); have _ := aM (ho); clear BK216 HB HO_5; rename_i BK216 HB HO228; clear ho hb hg hat; have p229 : 0 ≤ (x7_1 : Int) := of_decide_eq_true za; have q229 : x7_1 < (l0.length : Int) := of_decide_eq_true za; obtain ⟨ad229, e229, hx229_0, hx229_1⟩ := at_T82 HR0.out x7_1 p229 q229; obtain rfl : ad224 = ad229 := (by injection e229); replace hx229_0 := zk HB.out hx229_0; replace hx229_1 := zk HB.out hx229_1; replace p229 := eq_true p229; replace q229 := eq_true q229) | ((with_reducible refine gate_builtin (b := .append) (xs := #[.tmp 29, .tmp 34]) rfl ?_); at_builtin; refine Kd.R_append k82 (w0 := w) w.heap.size rfl (.tmp 29) (.tmp 34) 28 82 (.agg #[(.int .i64 0), (.int .i64 0)]) 16 rfl Tryz.underlying28 info82 rfl (by decide) (by omega) v227 y226 (⟨(rd_T82 l0 x7_1).f0, (rd_T82 l0 x7_1).f1⟩ : S82) [.int .i64 ((rd_T82 l0 x7_1).f0), .int .i64 ((rd_T82 l0 x7_1).f1)] (fun k_ => k_ ≠ gb216) (fun _ => False) rfl rfl ?aP (fun _ hk => hk.elim) ?aF ?aO ?aB ?aS ?aL ?_; (case aP => exact k82_mkM _ _ _ (⟨(rd_T82 l0 x7_1).f0, (rd_T82 l0 x7_1).f1⟩ : S82)); (case aB => exact (zs GE216.out)); (case aF => exact (fun k_ hk => Kd.freshB (g := gb216) (o := .cells #[.int .i64 a1_0, .int .i64 a1_1] 82 (0, 0)) (mB_ BK216.out) k_ hk)); (case aO => exact (mR_ HO228.out)); (case aS => exact (below_size (zs GE216.out))); (case aL => have := LMc16.out; omega); intro v231 w21 ho hb hg hat; rw [← Ny230.out] at ho; have _ := aM (blk_grown (g := gb216) (o := .cells #[.int .i64 a1_0, .int .i64 a1_1] 82 (0, 0)) (mB_ BK216.out) hg (Kd.R_away HO228.out (fun _ hk => hk))); have _ := aM (hb); have _ := aM (ho); clear BK216 HB HO228; rename_i BK216 HB HO232; clear ho hb hg hat))
   go_roundg k1
   case measure => have := HK1.out; omega
   case rel => exact ⟨(y230), (true), (wrap64 (x7_1 + 1)), zr, zr, H', ⟨by have := HK1.out; omega⟩, ⟨mR_ HO232.out⟩, ⟨mB_ BK216.out⟩, ⟨zs GE216.out⟩⟩
def spec_l02Sort.l0 : Nat → List (S82) → List (S82) → Int → Option ((List (S82)))
 | 0, _, _, _ => none
 | k + 1, x0, x3, x4 => if x4 < (x0.length : Int) then (if 0 ≤ x4 then ((spec_l02Insert.f k x3 ((rd_T82 x0 x4).f0) ((rd_T82 x0 x4).f1)).bind fun t244 => (spec_l02Sort.l0 k x0 t244 (wrap64 (x4 + 1)))) else (none)) else (some x3)
def spec_l02Sort.f (k : Nat) (l0 : List (S82)) : Option ((List (S82))) := spec_l02Sort.l0 k l0 (([] : List (S82))) 0
theorem spec_l02Sort.calls (k : Nat) (A0 : Option Addr) (c0 : Nat) (l0 : List (S82)) (r : List (S82)) (w : World) (hr0 : Kd.C k82 w A0 l0.length l0) (hc0 : l0.length ≤ c0) (h : spec_l02Sort.f k l0 = some r) :
  Calls Tryz.prog 141 #[.slice A0 l0.length c0] w fun e w' => ∃ v0_ : Value, e = .returned (v0_) ∧ Kd.R k82 82 w' w.heap.size (fun _ => True) v0_ r ∧ Below w.heap.size w w' := by
 have hu82 := Tryz.underlying82
 have HR0 := aM hr0
 have HC0 := aM hc0
 clear hr0 hc0
 have HB := aM (Below.refl w.heap.size w)
 have H : (spec_l02Sort.l0 k l0 (([] : List (S82))) 0) = some r := h
 clear h
 obtain ⟨y240, hy240⟩ : ∃ y_ : List (S82), y_ = (([] : List (S82))) := ⟨_, rfl⟩
 replace H : (spec_l02Sort.l0 k l0 y240 0) = some r := zy H hy240
 have Ny240 := aM hy240
 clear hy240
 have H' := aM H
 clear H
 go_enter Tryz.func141, Tryz.ntmps141
 go_wp2_with (first | ((with_reducible refine gate_dst (N := 5) rfl ?_); refine Kd.R_lit k82 _ 82 ?hg (N := 5) ?hd (xs := ([] : List (S82))) (inner := []) (ok := fun _ => True) (okp := fun _ => True) ?hr ?hp (fun _ hk => hk) trivial (Below.refl _ _) (Nat.le_refl _) (by simp) ?_; (case hd => rfl); (case hg => rfl); (case hr => first | (go_simp; done) | (go_simp; rfl)); (case hp => exact (Reps.none _ _)); intro v241 w2 ho3 hb hg_ hnew_; clear hg_ hnew_; (first | rw [← Ny240.out] at ho3 | (simp only [Int.reduceToNat] at ho3; rw [← Ny240.out] at ho3)); have _ := aM (Kd.R_lower ho3 (below_size zb)); have _ := aM (below_step zb hb); clear HB; rename_i HO242 HB; clear hb ho3))
 go_loopg [3, 4] k (fun kq v3 v4 w' => ∃ (x3_1 : List (S82)) (x4_1 : Int), v4 = .int .i64 x4_1 ∧ Aside0 (spec_l02Sort.l0 kq l0 x3_1 x4_1 = some r) ∧ Aside0 (kq ≤ k) ∧ Aside0 (Kd.R k82 82 w' w.heap.size (fun _ => True) v3 x3_1) ∧ Aside0 (Below w.heap.size w w'))
 case atStart => exact ⟨(y240), (0), zr, H', ⟨Nat.le_refl _⟩, ⟨mR_ HO242.out⟩, ⟨zb⟩⟩
 case round =>
  clear H'
  try clear c1
  try clear p2
  obtain ⟨x3_1, x4_1, rfl, HA, HK1, HO_3, HB⟩ := hrel
  cases gk with
  | zero => exact absurd HA.out (by simp [spec_l02Sort.l0])
  | succ k1 =>
   have H := HA.out
   clear HA
   simp only [spec_l02Sort.l0] at H
   by_cases c4 : x4_1 < (l0.length : Int)
   rotate_left
   ·rw [if_neg c4] at H
    have c4b0 : decide (x4_1 < (l0.length : Int)) = false := decide_eq_false c4
    clear c4
    obtain rfl := Option.some.inj H
    go_wp2
    go_ret
    exact ⟨_, zw, mR_ HO_3.out, zb⟩
   rw [if_pos c4] at H
   have c4b0 : decide (x4_1 < (l0.length : Int)) = true := decide_eq_true c4
   clear c4
   by_cases c5 : 0 ≤ x4_1
   rotate_left
   ·rw [if_neg c5] at H
    exact absurd H (by simp)
   rw [if_pos c5] at H
   have c5b0 : decide (0 ≤ x4_1) = true := decide_eq_true c5
   clear c5
   replace H := Option.bind_eq_some_iff.mp H
   obtain ⟨t244, A60, H⟩ := H
   replace H : (spec_l02Sort.l0 k1 l0 t244 (wrap64 (x4_1 + 1))) = some r := H
   have A6 := aM A60
   clear A60
   have H' := aM H
   clear H
   have p243 : 0 ≤ (x4_1 : Int) := of_decide_eq_true za
   have q243 : x4_1 < (l0.length : Int) := of_decide_eq_true za
   obtain ⟨ad243, e243, hx243_0, hx243_1⟩ := at_T82 HR0.out x4_1 p243 q243
   cases e243
   replace hx243_0 := zk HB.out hx243_0
   replace hx243_1 := zk HB.out hx243_1
   replace p243 := eq_true p243
   replace q243 := eq_true q243
   obtain ⟨Ao7, co7, eo7⟩ := Kd.R_slice HO_3.out
   subst eo7
   go_wp2_with (first | ((with_reducible refine gate_callee (f := 106) rfl ?_); refine goesL_ (some 17) rfl rfl Tryz.func106 (by kernel_rfl) rfl #[.slice Ao7 x3_1.length co7, .agg #[.int .i64 ((rd_T82 l0 x4_1).f0), .int .i64 ((rd_T82 l0 x4_1).f1)]] rfl zm ?_; (with_reducible refine (spec_l02Insert.calls k1 _ _ x3_1 ((rd_T82 l0 x4_1).f0) ((rd_T82 l0 x4_1).f1) t244 _ ?side1 ?side2 A6.out).mono ?_); (case side1 => exact zc HO_3.out); (case side2 => exact (Kd.R_reads' HO_3.out).2.1); rintro e w8 ⟨v245, rfl, ho0, hb⟩; refine ⟨_, rfl, ?_⟩; have _ := aM (Kd.R_elder' (mR_ HO_3.out) (Kd.R_base ho0) hb); have _ := aM (Kd.R_lower (Kd.R_new' ho0 (Kd.R_lt (mR_ HO_3.out))) (below_size zb)); have _ := aM (below_step zb hb); clear HO_3 HB; rename_i HO_3 HO246 HB; (try clear hb); (try clear hb2); (try clear hk); (try clear hi); (try clear ho0)))
   go_roundg k1
   case measure => have := HK1.out; omega
   case rel => exact ⟨(t244), (wrap64 (x4_1 + 1)), zr, H', ⟨by have := HK1.out; omega⟩, ⟨zd0 HO246.out⟩, ⟨zb⟩⟩
mutual
def spec_l03Turn.j0 : Nat → Int → Int → Int → Option (Int × Int)
 | 0, _, _, _ => none
 | k + 1, x1, x248000, x248001 => spec_l03Turn.l0 k (Int.tmod x1 4) x248000 x248001
def spec_l03Turn.l0 : Nat → Int → Int → Int → Option (Int × Int)
 | 0, _, _, _ => none
 | k + 1, x5, x248000, x248001 => if x5 > 0 then (spec_l03Turn.l0 k (wrap64 (x5 - 1)) (wrap64 (-x248001)) x248000) else (some (x248000, x248001))
end
def spec_l03Turn.f (k : Nat) (a0_0 : Int) (a0_1 : Int) (a1 : Int) : Option (Int × Int) := if a1 ≥ 4 then (spec_l03Turn.j0 k a1 (wrap64 (-a0_0)) a0_1) else (spec_l03Turn.j0 k a1 a0_0 a0_1)
theorem spec_l03Turn.calls (k : Nat) (a0_0 : Int) (a0_1 : Int) (a1 : Int) (r1 : Int) (r2 : Int) (w : World) (h : spec_l03Turn.f k a0_0 a0_1 a1 = some (r1, r2)) :
  Calls Tryz.prog 168 #[.agg #[.int .i64 a0_0, .int .i64 a0_1], .int .i64 a1] w fun e w' => e = .returned (.agg #[.int .i64 r1, .int .i64 r2]) ∧ Below w.heap.size w w' := by
 have hu82 := Tryz.underlying82
 have HB := aM (Below.refl w.heap.size w)
 have H : (if a1 ≥ 4 then (spec_l03Turn.j0 k a1 (wrap64 (-a0_0)) a0_1) else (spec_l03Turn.j0 k a1 a0_0 a0_1)) = some (r1, r2) := h
 clear h
 have HC3 := aM H
 clear H
 go_enter Tryz.func168, Tryz.ntmps168
 go_upto_if 7 with (first | ((with_reducible refine gate_dst (N := 2) rfl ?_); refine zx 2 #[.int .i64 a0_0, .int .i64 a0_1] 82 ?_; intro gb247 hg w4 hbox hb; have _ := aM (below_step zb hb); have _ := aM (hbox); have _ := aM ((ze : w.heap.size ≤ gb247)); have _ := aM ((ze : w.heap.size ≤ gb247)); clear HB; rename_i HB BK247 GW247 GE247; clear hb hbox hg) | ((with_reducible refine gate_dst (N := 4) rfl ?_); refine zx 4 #[.int .i64 0, .int .i64 0] 82 ?_; intro gb248 hg w5 hbox hb; have _ := aM (blk_below (g := gb247) (o := .cells #[.int .i64 a0_0, .int .i64 a0_1] 82 (0, 0)) (mB_ BK247.out) hb); have _ := aM (below_step (zs GE247.out) hb); have _ := aM (hbox); have _ := aM ((zf GE247.out : w.heap.size ≤ gb248)); have _ := aM ((zf GE247.out : w.heap.size ≤ gb248)); have _ := aM ((zl BK247.out : gb247 ≠ gb248)); have _ := aM ((zn BK247.out : gb248 ≠ gb247)); clear BK247 HB; rename_i BK247 HB BK248 GW248 GE248 NB247_248 NB248_247; clear hb hbox hg))
 (try simp only [Act.put, xA, xB, xC])
 go_cut [] (fun wc => ∃ (kq : Nat) (x248000_2 : Int) (x248001_2 : Int), Aside0 (spec_l03Turn.j0 kq a1 x248000_2 x248001_2 = some (r1, r2)) ∧ Aside0 (kq ≤ k) ∧ Aside0 (wc.heap[gb247]? = some (.cells #[.int .i64 x248000_2, .int .i64 x248001_2] 82 (0, 0))) ∧ Aside0 (wc.heap[gb248]? = some (.cells #[.int .i64 0, .int .i64 0] 82 (0, 0))) ∧ Aside0 (Below w.heap.size w wc))
 case first =>
  have H := HC3.out
  clear HC3
  by_cases c6 : a1 ≥ 4
  rotate_left
  ·rw [if_neg c6] at H
   have c6b0 : decide (4 ≤ a1) = false := decide_eq_false c6
   clear c6
   (first | rw [c6b0] | (simp only [i64_w, i32_w]; rw [c6b0]) | skip)
   have H' := aM H
   clear H
   go_wp2
   go_meet
   case rel => exact ⟨_, (a0_0), (a0_1), H', ⟨by first | omega | exact Nat.le_refl _⟩, ⟨mB_ BK247.out⟩, ⟨mB_ BK248.out⟩, ⟨zt GE247.out GE248.out⟩⟩
  rw [if_pos c6] at H
  have c6b0 : decide (4 ≤ a1) = true := decide_eq_true c6
  clear c6
  (first | rw [c6b0] | (simp only [i64_w, i32_w]; rw [c6b0]) | skip)
  have H' := aM H
  clear H
  have hnb7 := NB247_248.out
  have hnc7 := NB248_247.out
  obtain ⟨hcz8_0, hcz8_1, hfz8_0, hfz8_1⟩ := zQ2 BK247.out
  go_wp2
  go_meet
  case rel => exact ⟨_, (wrap64 (-a0_0)), (a0_1), H', ⟨by first | omega | exact Nat.le_refl _⟩, ⟨by (with_reducible repeat (first | refine blk_drewN ?_ _ | refine blk_drew ?_ | refine blk_alloc ?_ _)); refine blk_put (cs := #[.int .i64 (wrap64 (-a0_0)), .int .i64 a0_1]) ?_ 1 _ rfl; (with_reducible repeat (first | refine blk_drewN ?_ _ | refine blk_drew ?_ | refine blk_alloc ?_ _)); refine blk_put (cs := #[.int .i64 a0_0, .int .i64 a0_1]) ?_ 0 _ rfl; (with_reducible repeat (first | refine blk_drewN ?_ _ | refine blk_drew ?_ | refine blk_alloc ?_ _)); exact BK247.out⟩, ⟨by (with_reducible repeat (first | refine blk_drewN ?_ _ | refine blk_drew ?_ | refine blk_alloc ?_ _)); refine blk_far ?_ NB248_247.out _; (with_reducible repeat (first | refine blk_drewN ?_ _ | refine blk_drew ?_ | refine blk_alloc ?_ _)); refine blk_far ?_ NB248_247.out _; (with_reducible repeat (first | refine blk_drewN ?_ _ | refine blk_drew ?_ | refine blk_alloc ?_ _)); exact BK248.out⟩, ⟨zt GE247.out GE248.out⟩⟩
 case rest =>
  clear HC3
  try clear c1
  try clear p2
  try clear c6
  try clear c6b0
  try clear p6
  try clear c7
  try clear hcz8_0
  try clear hcz8_1
  try clear hfz8_0
  try clear hfz8_1
  obtain ⟨kq, x248000_2, x248001_2, HA, HJ2, BK247, BK248, HB⟩ := hcut
  cases kq with
  | zero => exact absurd HA.out (by simp [spec_l03Turn.j0])
  | succ kj2 =>
   have H := HA.out
   clear HA
   simp only [spec_l03Turn.j0] at H
   have H' := aM H
   clear H
   go_wp2
   go_loopg [5] kj2 (fun kq v5 w' => ∃ (x5_2 : Int) (x248000_2 : Int) (x248001_2 : Int), v5 = .int .i64 x5_2 ∧ Aside0 (spec_l03Turn.l0 kq x5_2 x248000_2 x248001_2 = some (r1, r2)) ∧ Aside0 (kq ≤ kj2) ∧ Aside0 (w'.heap[gb247]? = some (.cells #[.int .i64 x248000_2, .int .i64 x248001_2] 82 (0, 0))) ∧ Aside0 (w'.heap[gb248]? = some (.cells #[.int .i64 0, .int .i64 0] 82 (0, 0))) ∧ Aside0 (Below w.heap.size w w'))
   case atStart => exact ⟨(Int.tmod a1 4), (x248000_2), (x248001_2), zr, H', ⟨Nat.le_refl _⟩, ⟨mB_ BK247.out⟩, ⟨mB_ BK248.out⟩, ⟨zt GE247.out GE248.out⟩⟩
   case round =>
    clear H'
    try clear c1
    try clear p2
    try clear c6
    try clear c6b0
    try clear p6
    try clear c7
    try clear hcz8_0
    try clear hcz8_1
    try clear hfz8_0
    try clear hfz8_1
    try clear p2
    try clear p6
    obtain ⟨x5_2, x248000_2, x248001_2, rfl, HA, HK2, BK247, BK248, HB⟩ := hrel
    cases gk with
    | zero => exact absurd HA.out (by simp [spec_l03Turn.l0])
    | succ k2 =>
     have H := HA.out
     clear HA
     simp only [spec_l03Turn.l0] at H
     by_cases c9 : x5_2 > 0
     ·rw [if_pos c9] at H
      have c9b0 : decide (0 < x5_2) = true := decide_eq_true c9
      clear c9
      have H' := aM H
      clear H
      have hnb10 := NB247_248.out
      have hnc10 := NB248_247.out
      obtain ⟨hcz11_0, hcz11_1, hfz11_0, hfz11_1⟩ := zQ2 BK247.out
      go_wp2
      go_roundg k2
      case measure => have := HJ2.out; have := HK2.out; omega
      case rel => exact ⟨(wrap64 (x5_2 - 1)), (wrap64 (-x248001_2)), (x248000_2), zr, H', ⟨by have := HJ2.out; have := HK2.out; omega⟩, ⟨by (with_reducible repeat (first | refine blk_drewN ?_ _ | refine blk_drew ?_ | refine blk_alloc ?_ _)); refine blk_put (cs := #[.int .i64 (wrap64 (-x248001_2)), .int .i64 x248001_2]) ?_ 1 _ rfl; (with_reducible repeat (first | refine blk_drewN ?_ _ | refine blk_drew ?_ | refine blk_alloc ?_ _)); refine blk_put (cs := #[.int .i64 x248000_2, .int .i64 x248001_2]) ?_ 0 _ rfl; (with_reducible repeat (first | refine blk_drewN ?_ _ | refine blk_drew ?_ | refine blk_alloc ?_ _)); exact BK247.out⟩, ⟨by (with_reducible repeat (first | refine blk_drewN ?_ _ | refine blk_drew ?_ | refine blk_alloc ?_ _)); refine blk_far ?_ NB248_247.out _; (with_reducible repeat (first | refine blk_drewN ?_ _ | refine blk_drew ?_ | refine blk_alloc ?_ _)); refine blk_far ?_ NB248_247.out _; (with_reducible repeat (first | refine blk_drewN ?_ _ | refine blk_drew ?_ | refine blk_alloc ?_ _)); exact BK248.out⟩, ⟨zt GE247.out GE248.out⟩⟩
     rw [if_neg c9] at H
     have c9b0 : decide (0 < x5_2) = false := decide_eq_false c9
     clear c9
     simp only [Option.some.injEq, Prod.mk.injEq] at H
     obtain ⟨rfl, rfl⟩ := H
     have hnb12 := NB247_248.out
     have hnc12 := NB248_247.out
     obtain ⟨hcz13_0, hcz13_1, hfz13_0, hfz13_1⟩ := zQ2 BK247.out
     obtain ⟨hcz14_0, hcz14_1, hfz14_0, hfz14_1⟩ := zQ2 BK248.out
     go_wp2
     refine bodyPost_ret (results_cell_row rfl _ _ gb248 82 #[.int .i64 x248000_2, .int .i64 x248001_2] (0, 0) _ rfl (by (with_reducible repeat (first | refine blk_drewN ?_ _ | refine blk_drew ?_ | refine blk_alloc ?_ _)); refine blk_put (cs := #[.int .i64 x248000_2, .int .i64 0]) ?_ 1 _ rfl; (with_reducible repeat (first | refine blk_drewN ?_ _ | refine blk_drew ?_ | refine blk_alloc ?_ _)); refine blk_put (cs := #[.int .i64 0, .int .i64 0]) ?_ 0 _ rfl; (with_reducible repeat (first | refine blk_drewN ?_ _ | refine blk_drew ?_ | refine blk_alloc ?_ _)); exact BK248.out) Tryz.underlying82 rfl (by kernel_rfl)) rfl ?_
     exact ⟨zw, zt GE247.out GE248.out⟩
def spec_l03Form.l0 : Nat → List (S82) → Int → List (S82) → Int → Option ((List (S82)))
 | 0, _, _, _, _ => none
 | k + 1, x0, x1, x5, x6 => if x6 < (x0.length : Int) then (if 0 ≤ x6 then ((spec_l03Turn.f k ((rd_T82 x0 x6).f0) ((rd_T82 x0 x6).f1) x1).bind fun bt253 => (if x5.length < 8796093022208 then (spec_l03Form.l0 k x0 x1 (x5 ++ [(⟨bt253.1, bt253.2⟩ : S82)]) (wrap64 (x6 + 1))) else (none))) else (none)) else ((spec_l02Sort.f k x5).bind fun t258 => ((spec_l02Normal.f k t258).bind fun t261 => (some t261)))
def spec_l03Form.f (k : Nat) (l0 : List (S82)) (a1 : Int) : Option ((List (S82))) := spec_l03Form.l0 k l0 a1 (([] : List (S82))) 0
theorem spec_l03Form.calls (k : Nat) (A0 : Option Addr) (c0 : Nat) (l0 : List (S82)) (a1 : Int) (r : List (S82)) (w : World) (hr0 : Kd.C k82 w A0 l0.length l0) (hc0 : l0.length ≤ c0) (h : spec_l03Form.f k l0 a1 = some r) :
  Calls Tryz.prog 148 #[.slice A0 l0.length c0, .int .i64 a1] w fun e w' => ∃ v0_ : Value, e = .returned (v0_) ∧ Kd.R k82 82 w' w.heap.size (fun _ => True) v0_ r ∧ Below w.heap.size w w' := by
 have hu82 := Tryz.underlying82
 have HR0 := aM hr0
 have HC0 := aM hc0
 clear hr0 hc0
 have HB := aM (Below.refl w.heap.size w)
 have H : (spec_l03Form.l0 k l0 a1 (([] : List (S82))) 0) = some r := h
 clear h
 obtain ⟨y249, hy249⟩ : ∃ y_ : List (S82), y_ = (([] : List (S82))) := ⟨_, rfl⟩
 replace H : (spec_l03Form.l0 k l0 a1 y249 0) = some r := zy H hy249
 have Ny249 := aM hy249
 clear hy249
 have H' := aM H
 clear H
 go_enter Tryz.func148, Tryz.ntmps148
 go_wp2_with (first | ((with_reducible refine gate_dst (N := 7) rfl ?_); refine Kd.R_lit k82 _ 82 ?hg (N := 7) ?hd (xs := ([] : List (S82))) (inner := []) (ok := fun _ => True) (okp := fun _ => True) ?hr ?hp (fun _ hk => hk) trivial (Below.refl _ _) (Nat.le_refl _) (by simp) ?_; (case hd => rfl); (case hg => rfl); (case hr => first | (go_simp; done) | (go_simp; rfl)); (case hp => exact (Reps.none _ _)); intro v250 w3 ho4 hb hg_ hnew_; clear hg_ hnew_; (first | rw [← Ny249.out] at ho4 | (simp only [Int.reduceToNat] at ho4; rw [← Ny249.out] at ho4)); have _ := aM (Kd.R_lower ho4 (below_size zb)); have _ := aM (below_step zb hb); clear HB; rename_i HO251 HB; clear hb ho4))
 go_loopg [5, 6] k (fun kq v5 v6 w' => ∃ (x5_1 : List (S82)) (x6_1 : Int), v6 = .int .i64 x6_1 ∧ Aside0 (spec_l03Form.l0 kq l0 a1 x5_1 x6_1 = some r) ∧ Aside0 (kq ≤ k) ∧ Aside0 (Kd.R k82 82 w' w.heap.size (fun _ => True) v5 x5_1) ∧ Aside0 (Below w.heap.size w w'))
 case atStart => exact ⟨(y249), (0), zr, H', ⟨Nat.le_refl _⟩, ⟨mR_ HO251.out⟩, ⟨zb⟩⟩
 case round =>
  clear H'
  try clear c1
  try clear p2
  obtain ⟨x5_1, x6_1, rfl, HA, HK1, HO_5, HB⟩ := hrel
  cases gk with
  | zero => exact absurd HA.out (by simp [spec_l03Form.l0])
  | succ k1 =>
   have H := HA.out
   clear HA
   simp only [spec_l03Form.l0] at H
   by_cases c5 : x6_1 < (l0.length : Int)
   rotate_left
   ·rw [if_neg c5] at H
    have c5b0 : decide (x6_1 < (l0.length : Int)) = false := decide_eq_false c5
    clear c5
    replace H := Option.bind_eq_some_iff.mp H
    obtain ⟨t258, A110, H⟩ := H
    replace H : ((spec_l02Normal.f k1 t258).bind fun t261 => (some t261)) = some r := H
    have A11 := aM A110
    clear A110
    replace H := Option.bind_eq_some_iff.mp H
    obtain ⟨t261, A120, H⟩ := H
    replace H : (some t261) = some r := H
    have A12 := aM A120
    clear A120
    obtain rfl := Option.some.inj H
    obtain ⟨Ao13, co13, eo13⟩ := Kd.R_slice HO_5.out
    subst eo13
    go_wp2_with (first | ((with_reducible refine gate_callee (f := 141) rfl ?_); refine goesL_ (some 24) rfl rfl Tryz.func141 (by kernel_rfl) rfl #[.slice Ao13 x5_1.length co13] rfl zm ?_; (with_reducible refine (spec_l02Sort.calls k1 _ _ x5_1 t258 _ ?side1 ?side2 A11.out).mono ?_); (case side1 => exact zc HO_5.out); (case side2 => exact (Kd.R_reads' HO_5.out).2.1); rintro e w14 ⟨v259, rfl, ho0, hb⟩; refine ⟨_, rfl, ?_⟩; have _ := aM (Kd.R_elder' (mR_ HO_5.out) (Kd.R_base ho0) hb); have _ := aM (Kd.R_lower (Kd.R_new' ho0 (Kd.R_lt (mR_ HO_5.out))) (below_size zb)); have _ := aM (below_step zb hb); clear HO_5 HB; rename_i HO_5 HO260 HB; (try clear hb); (try clear hb2); (try clear hk); (try clear hi); (try clear ho0); obtain ⟨Ao15, co15, eo15⟩ := Kd.R_slice HO260.out; subst eo15) | ((with_reducible refine gate_callee (f := 58) rfl ?_); refine goesL_ (some 25) rfl rfl Tryz.func58 (by kernel_rfl) rfl #[.slice Ao15 t258.length co15] rfl zm ?_; (with_reducible refine (spec_l02Normal.calls k1 _ _ t258 t261 _ ?side1 ?side2 A12.out).mono ?_); (case side1 => exact zc HO260.out); (case side2 => exact (Kd.R_reads' HO260.out).2.1); rintro e w16 ⟨v262, rfl, ho0, hb⟩; refine ⟨_, rfl, ?_⟩; have _ := aM (Kd.R_elder' (mR_ HO_5.out) (Kd.R_base ho0) hb); have _ := aM (Kd.R_elder' (mR_ HO260.out) (Kd.R_base ho0) hb); have _ := aM (Kd.R_lower (Kd.R_new' (Kd.R_new' ho0 (Kd.R_lt (mR_ HO_5.out))) (Kd.R_lt (mR_ HO260.out))) (below_size zb)); have _ := aM (below_step zb hb); clear HO_5 HO260 HB; rename_i HO_5 HO260 HO263 HB; (try clear hb); (try clear hb2); (try clear hk); (try clear hi); (try clear ho0)))
    go_ret
    exact ⟨_, zw, zd0 HO263.out, zb⟩
   rw [if_pos c5] at H
   have c5b0 : decide (x6_1 < (l0.length : Int)) = true := decide_eq_true c5
   clear c5
   by_cases c6 : 0 ≤ x6_1
   rotate_left
   ·rw [if_neg c6] at H
    exact absurd H (by simp)
   rw [if_pos c6] at H
   have c6b0 : decide (0 ≤ x6_1) = true := decide_eq_true c6
   clear c6
   replace H := Option.bind_eq_some_iff.mp H
   obtain ⟨⟨t253, t254⟩, A70, H⟩ := H
   replace H : (if x5_1.length < 8796093022208 then (spec_l03Form.l0 k1 l0 a1 (x5_1 ++ [(⟨t253, t254⟩ : S82)]) (wrap64 (x6_1 + 1))) else (none)) = some r := H
   have A7 := aM A70
   clear A70
   by_cases c8 : x5_1.length < 8796093022208
   rotate_left
   ·rw [if_neg c8] at H
    exact absurd H (by simp)
   rw [if_pos c8] at H
   have LMc8 := aM c8
   clear c8
   obtain ⟨y255, hy255⟩ : ∃ y_ : List (S82), y_ = (x5_1 ++ [(⟨t253, t254⟩ : S82)]) := ⟨_, rfl⟩
   replace H : (spec_l03Form.l0 k1 l0 a1 y255 (wrap64 (x6_1 + 1))) = some r := zy H hy255
   have Ny255 := aM hy255
   clear hy255
   have H' := aM H
   clear H
   have p252 : 0 ≤ (x6_1 : Int) := of_decide_eq_true za
   have q252 : x6_1 < (l0.length : Int) := of_decide_eq_true za
   obtain ⟨ad252, e252, hx252_0, hx252_1⟩ := at_T82 HR0.out x6_1 p252 q252
   cases e252
   replace hx252_0 := zk HB.out hx252_0
   replace hx252_1 := zk HB.out hx252_1
   replace p252 := eq_true p252
   replace q252 := eq_true q252
   go_wp2_with (first | ((with_reducible refine gate_callee (f := 168) rfl ?_); refine goesL_ (some 20) rfl rfl Tryz.func168 (by kernel_rfl) rfl #[.agg #[.int .i64 ((rd_T82 l0 x6_1).f0), .int .i64 ((rd_T82 l0 x6_1).f1)], .int .i64 a1] rfl zm ?_; (with_reducible refine (spec_l03Turn.calls k1 ((rd_T82 l0 x6_1).f0) ((rd_T82 l0 x6_1).f1) a1 t253 t254 _ A7.out).mono ?_); rintro e w9 ⟨rfl, hb⟩; refine ⟨_, rfl, ?_⟩; have _ := aM (Kd.R_below (mR_ HO_5.out) hb); have _ := aM (below_step zb hb); clear HO_5 HB; rename_i HO_5 HB; (try clear hb); (try clear hb2); (try clear hk); (try clear hi)) | ((with_reducible refine gate_builtin (b := .append) (xs := #[.tmp 14, .tmp 21]) rfl ?_); at_builtin; refine Kd.R_append k82 (w0 := w) w.heap.size rfl (.tmp 14) (.tmp 21) 28 82 (.agg #[(.int .i64 0), (.int .i64 0)]) 16 rfl Tryz.underlying28 info82 rfl (by decide) (by omega) u5 x5_1 (⟨t253, t254⟩ : S82) [.int .i64 t253, .int .i64 t254] (fun _ => True) (fun _ => False) rfl rfl ?aP (fun _ hk => hk.elim) ?aF ?aO ?aB ?aS ?aL ?_; (case aP => exact k82_mkM _ _ _ (⟨t253, t254⟩ : S82)); (case aB => exact zb); (case aF => exact (fun _ _ => trivial)); (case aO => exact (mR_ HO_5.out)); (case aS => exact (below_size zb)); (case aL => have := LMc8.out; omega); intro v256 w10 ho hb hg hat; rw [← Ny255.out] at ho; have _ := aM (hb); have _ := aM (ho); clear HB HO_5; rename_i HB HO257; clear ho hb hg hat))
   go_roundg k1
   case measure => have := HK1.out; omega
   case rel => exact ⟨(y255), (wrap64 (x6_1 + 1)), zr, H', ⟨by have := HK1.out; omega⟩, ⟨mR_ HO257.out⟩, ⟨zb⟩⟩
def spec_l03Forms.l0 : Nat → List (S82) → Int → List (List (S82)) → Int → Option ((List (List (S82))))
 | 0, _, _, _, _ => none
 | k + 1, x0, x1, x5, x6 => if x6 < x1 then ((spec_l03Form.f k x0 x6).bind fun t267 => ((spec_l03Add.f k x5 t267).bind fun t270 => (spec_l03Forms.l0 k x0 x1 t270 (wrap64 (x6 + 1))))) else (some x5)
def spec_l03Forms.f (k : Nat) (l0 : List (S82)) (a1 : Int) : Option ((List (List (S82)))) := spec_l03Forms.l0 k l0 a1 (([] : List (List (S82)))) 0
theorem spec_l03Forms.calls (k : Nat) (A0 : Option Addr) (c0 : Nat) (l0 : List (S82)) (a1 : Int) (r : List (List (S82))) (w : World) (hr0 : Kd.C k82 w A0 l0.length l0) (hc0 : l0.length ≤ c0) (h : spec_l03Forms.f k l0 a1 = some r) :
  Calls Tryz.prog 117 #[.slice A0 l0.length c0, .int .i64 a1] w fun e w' => ∃ v0_ : Value, e = .returned (v0_) ∧ Kd.V (Kd.slice 82 k82) 28 w' w.heap.size (fun k_ => (w.heap.size ≤ k_)) v0_ r ∧ Below w.heap.size w w' := by
 have HR0 := aM hr0
 have HC0 := aM hc0
 clear hr0 hc0
 have HB := aM (Below.refl w.heap.size w)
 have H : (spec_l03Forms.l0 k l0 a1 (([] : List (List (S82)))) 0) = some r := h
 clear h
 obtain ⟨y264, hy264⟩ : ∃ y_ : List (List (S82)), y_ = (([] : List (List (S82)))) := ⟨_, rfl⟩
 replace H : (spec_l03Forms.l0 k l0 a1 y264 0) = some r := zy H hy264
 have Ny264 := aM hy264
 clear hy264
 have H' := aM H
 clear H
 go_enter Tryz.func117, Tryz.ntmps117
 go_wp2_with (first | ((with_reducible refine gate_dst (N := 7) rfl ?_); refine Kd.S_lit (Kd.slice 82 k82) _ 28 ?hg (N := 7) ?hd (xs := ([] : List (List (S82)))) (inner := []) (ok := fun _ => True) (okp := fun _ => True) ?hr ?hp (fun _ hk => hk) trivial (Below.refl _ _) (Nat.le_refl _) (by simp) ?_; (case hd => rfl); (case hg => rfl); (case hr => first | (go_simp; done) | (go_simp; rfl)); (case hp => exact (Reps.none _ _)); intro v265 w3 ho4 hb hg_ hnew_; clear hg_ hnew_; (first | rw [← Ny264.out] at ho4 | (simp only [Int.reduceToNat] at ho4; rw [← Ny264.out] at ho4)); have _ := aM (Kd.S_lower (Kd.S_newM (M := fun k_ => (w.heap.size ≤ k_)) ho4 (below_size zb) (fun k_ h_ => h_)) (below_size zb)); have _ := aM (below_step zb hb); clear HB; rename_i HO266 HB; clear hb ho4))
 go_loopg [5, 6] k (fun kq v5 v6 w' => ∃ (x5_1 : List (List (S82))) (x6_1 : Int), v6 = .int .i64 x6_1 ∧ Aside0 (spec_l03Forms.l0 kq l0 a1 x5_1 x6_1 = some r) ∧ Aside0 (kq ≤ k) ∧ Aside0 (Kd.V (Kd.slice 82 k82) 28 w' w.heap.size (fun k_ => (w.heap.size ≤ k_)) v5 x5_1) ∧ Aside0 (Below w.heap.size w w'))
 case atStart => exact ⟨(y264), (0), zr, H', ⟨Nat.le_refl _⟩, ⟨Kd.S_V (zd4 HO266.out)⟩, ⟨zb⟩⟩
 case round =>
  clear H'
  try clear c1
  try clear p2
  obtain ⟨x5_1, x6_1, rfl, HA, HK1, HO_5, HB⟩ := hrel
  cases gk with
  | zero => exact absurd HA.out (by simp [spec_l03Forms.l0])
  | succ k1 =>
   have H := HA.out
   clear HA
   simp only [spec_l03Forms.l0] at H
   by_cases c5 : x6_1 < a1
   rotate_left
   ·rw [if_neg c5] at H
    have c5b0 : decide (x6_1 < a1) = false := decide_eq_false c5
    clear c5
    obtain rfl := Option.some.inj H
    go_wp2
    go_ret
    exact ⟨_, zw, mV_ HO_5.out, zb⟩
   rw [if_pos c5] at H
   have c5b0 : decide (x6_1 < a1) = true := decide_eq_true c5
   clear c5
   replace H := Option.bind_eq_some_iff.mp H
   obtain ⟨t267, A60, H⟩ := H
   replace H : ((spec_l03Add.f k1 x5_1 t267).bind fun t270 => (spec_l03Forms.l0 k1 l0 a1 t270 (wrap64 (x6_1 + 1)))) = some r := H
   have A6 := aM A60
   clear A60
   replace H := Option.bind_eq_some_iff.mp H
   obtain ⟨t270, A70, H⟩ := H
   replace H : (spec_l03Forms.l0 k1 l0 a1 t270 (wrap64 (x6_1 + 1))) = some r := H
   have A7 := aM A70
   clear A70
   have H' := aM H
   clear H
   go_wp2_with (first | ((with_reducible refine gate_callee (f := 148) rfl ?_); refine goesL_ (some 16) rfl rfl Tryz.func148 (by kernel_rfl) rfl #[.slice A0 l0.length c0, .int .i64 x6_1] rfl zm ?_; (with_reducible refine (spec_l03Form.calls k1 _ _ l0 x6_1 t267 _ ?side1 ?side2 A6.out).mono ?_); (case side1 => repeat (first | exact (Kd.C_below HR0.out HB.out) | (with_reducible refine Kd.C_alloc ?_ _) | (with_reducible refine Kd.C_drewN ?_ _) | (with_reducible refine Kd.C_drew ?_))); (case side2 => exact HC0.out); rintro e w8 ⟨v268, rfl, ho0, hb⟩; refine ⟨_, rfl, ?_⟩; have _ := aM (Kd.V_elder' (mV_ HO_5.out) (Kd.R_base ho0) hb); have _ := aM (Kd.R_lower (Kd.R_newM (M := fun k_ => (w.heap.size ≤ k_)) ho0 (below_size zb) (fun k_ h_ => h_)) (below_size zb)); have _ := aM (below_step zb hb); clear HO_5 HB; rename_i HO_5 HO269 HB; (try clear hb); (try clear hb2); (try clear hk); (try clear hi); (try clear ho0); obtain ⟨Ao9, co9, eo9⟩ := Kd.V_slice HO_5.out; subst eo9; obtain ⟨Ao10, co10, eo10⟩ := Kd.R_slice HO269.out; subst eo10) | ((with_reducible refine gate_callee (f := 147) rfl ?_); refine goesL_ (some 17) rfl rfl Tryz.func147 (by kernel_rfl) rfl #[.slice Ao9 x5_1.length co9, .slice Ao10 t267.length co10] rfl zm ?_; (with_reducible refine (spec_l03Add.calls k1 (fun k_ => ((w.heap.size ≤ k_) ∧ some k_ ≠ (.slice Ao10 t267.length co10 : Value).ownBlock)) _ _ x5_1 (fun k_ => some k_ = (.slice Ao10 t267.length co10 : Value).ownBlock) _ _ t267 t270 _ ?side1 ?side2 A7.out).mono ?_); (case side1 => exact HO_5.out); (case side2 => exact Kd.R_V (Kd.R_tight rfl (HO269.out))); rintro e w11 ⟨v271, rfl, ho0, hb⟩; refine ⟨_, rfl, ?_⟩; have _ := aM (Kd.V_below (mV_ HO_5.out) hb); have _ := aM (Kd.R_below (mR_ HO269.out) hb); have _ := aM (Kd.V_lower (Kd.V_mono (ok' := fun k_ => (w.heap.size ≤ k_)) ho0 (fun k_ hk_ => Or.elim hk_ (fun hs_ => Or.elim hs_ (fun hs_ => hs_.1) (fun hs_ => ((HO269.out).1 k_ hs_.symm).1)) (fun hn_ => (Nat.le_trans (below_size zb) hn_)))) (below_size zb)); have _ := aM (below_step zb hb); clear HO_5 HO269 HB; rename_i HO_5 HO269 HO272 HB; (try clear hb); (try clear hb2); (try clear hk); (try clear hi); (try clear ho0)))
   go_roundg k1
   case measure => have := HK1.out; omega
   case rel => exact ⟨(t270), (wrap64 (x6_1 + 1)), zr, H', ⟨by have := HK1.out; omega⟩, ⟨mV_ HO272.out⟩, ⟨zb⟩⟩
def spec_l11Forms.f (k : Nat) (l0_0 : List (S82)) (a0_1 : Int) (a0_2 : Bool) : Option ((List (List (S82)))) := if a0_2 = true then ((spec_l03Forms.f k l0_0 8).bind fun t274 => (some t274)) else ((spec_l03Forms.f k l0_0 4).bind fun t277 => (some t277))
theorem spec_l11Forms.calls (k : Nat) (A0_0 : Option Addr) (c0_0 : Nat) (l0_0 : List (S82)) (a0_1 : Int) (a0_2 : Bool) (r : List (List (S82))) (w : World) (hr0_0 : Kd.C k82 w A0_0 l0_0.length l0_0) (hc0_0 : l0_0.length ≤ c0_0) (h : spec_l11Forms.f k l0_0 a0_1 a0_2 = some r) :
  Calls Tryz.prog 85 #[.agg #[.slice A0_0 l0_0.length c0_0, .int .i64 a0_1, .bool a0_2]] w fun e w' => ∃ v0_ : Value, e = .returned (v0_) ∧ Kd.V (Kd.slice 82 k82) 28 w' w.heap.size (fun k_ => (w.heap.size ≤ k_)) v0_ r ∧ Below w.heap.size w w' := by
 have hu50 := Tryz.underlying50
 have HR0_0 := aM hr0_0
 have HC0_0 := aM hc0_0
 clear hr0_0 hc0_0
 have HB := aM (Below.refl w.heap.size w)
 have H : (if a0_2 = true then ((spec_l03Forms.f k l0_0 8).bind fun t274 => (some t274)) else ((spec_l03Forms.f k l0_0 4).bind fun t277 => (some t277))) = some r := h
 clear h
 by_cases c2 : a0_2 = true
 ·subst c2
  have H1 : ((spec_l03Forms.f k l0_0 8).bind fun t274 => (some t274)) = some r := by rw [if_pos rfl] at H; exact H
  clear H
  have H := H1
  clear H1
  replace H := Option.bind_eq_some_iff.mp H
  obtain ⟨t274, A30, H⟩ := H
  replace H : (some t274) = some r := H
  have A3 := aM A30
  clear A30
  obtain rfl := Option.some.inj H
  go_enter Tryz.func85, Tryz.ntmps85
  go_wp2_with (first | ((with_reducible refine gate_dst (N := 1) rfl ?_); refine zx 1 #[.slice A0_0 l0_0.length c0_0, .int .i64 a0_1, .bool true] 50 ?_; intro gb273 hg w4 hbox hb; have _ := aM (below_step zb hb); have _ := aM (hbox); have _ := aM ((ze : w.heap.size ≤ gb273)); have _ := aM ((ze : w.heap.size ≤ gb273)); clear HB; rename_i HB BK273 GW273 GE273; clear hb hbox hg; obtain ⟨hcz5_0, hcz5_1, hcz5_2, hfz5_0, hfz5_1, hfz5_2⟩ := zQ3 BK273.out) | ((with_reducible refine gate_callee (f := 117) rfl ?_); refine goesL_ (some 7) rfl rfl Tryz.func117 (by kernel_rfl) rfl #[.slice A0_0 l0_0.length c0_0, .int .i64 8] rfl zm ?_; (with_reducible refine (spec_l03Forms.calls k _ _ l0_0 8 t274 _ ?side1 ?side2 A3.out).mono ?_); (case side1 => repeat (first | exact (Kd.C_below HR0_0.out HB.out) | (with_reducible refine Kd.C_alloc ?_ _) | (with_reducible refine Kd.C_drewN ?_ _) | (with_reducible refine Kd.C_drew ?_))); (case side2 => exact HC0_0.out); rintro e w6 ⟨v275, rfl, ho0, hb⟩; refine ⟨_, rfl, ?_⟩; have _ := aM (Kd.V_lower (Kd.V_mono (ok' := fun k_ => (w.heap.size ≤ k_) ∧ k_ ≠ gb273) ho0 (fun k_ hk_ => ⟨(Nat.le_trans (below_size (zs GE273.out)) hk_), (Kd.freshB (g := gb273) (o := .cells #[.slice A0_0 l0_0.length c0_0, .int .i64 a0_1, .bool true] 50 (0, 0)) (mB_ BK273.out) k_ hk_)⟩)) (below_size (zs GE273.out))); have _ := aM (blk_below (g := gb273) (o := .cells #[.slice A0_0 l0_0.length c0_0, .int .i64 a0_1, .bool true] 50 (0, 0)) (mB_ BK273.out) hb); have _ := aM (below_step (zs GE273.out) hb); clear BK273 HB; rename_i HO276 BK273 HB; (try clear hb); (try clear hb2); (try clear hk); (try clear hi); (try clear ho0)))
  go_ret
  exact ⟨_, zw, zd3 HO276.out, zs GE273.out⟩
 replace c2 := Bool.eq_false_iff.mpr c2
 subst c2
 have H1 : ((spec_l03Forms.f k l0_0 4).bind fun t277 => (some t277)) = some r := by rw [if_neg (show ¬ (false = true) by decide)] at H; exact H
 clear H
 have H := H1
 clear H1
 replace H := Option.bind_eq_some_iff.mp H
 obtain ⟨t277, A70, H⟩ := H
 replace H : (some t277) = some r := H
 have A7 := aM A70
 clear A70
 obtain rfl := Option.some.inj H
 go_enter Tryz.func85, Tryz.ntmps85
 go_wp2_with (first | ((with_reducible refine gate_dst (N := 1) rfl ?_); refine zx 1 #[.slice A0_0 l0_0.length c0_0, .int .i64 a0_1, .bool false] 50 ?_; intro gb273 hg w8 hbox hb; have _ := aM (below_step zb hb); have _ := aM (hbox); have _ := aM ((ze : w.heap.size ≤ gb273)); have _ := aM ((ze : w.heap.size ≤ gb273)); clear HB; rename_i HB BK273 GW273 GE273; clear hb hbox hg; obtain ⟨hcz9_0, hcz9_1, hcz9_2, hfz9_0, hfz9_1, hfz9_2⟩ := zQ3 BK273.out) | ((with_reducible refine gate_callee (f := 117) rfl ?_); refine goesL_ (some 10) rfl rfl Tryz.func117 (by kernel_rfl) rfl #[.slice A0_0 l0_0.length c0_0, .int .i64 4] rfl zm ?_; (with_reducible refine (spec_l03Forms.calls k _ _ l0_0 4 t277 _ ?side1 ?side2 A7.out).mono ?_); (case side1 => repeat (first | exact (Kd.C_below HR0_0.out HB.out) | (with_reducible refine Kd.C_alloc ?_ _) | (with_reducible refine Kd.C_drewN ?_ _) | (with_reducible refine Kd.C_drew ?_))); (case side2 => exact HC0_0.out); rintro e w10 ⟨v278, rfl, ho0, hb⟩; refine ⟨_, rfl, ?_⟩; have _ := aM (Kd.V_lower (Kd.V_mono (ok' := fun k_ => (w.heap.size ≤ k_) ∧ k_ ≠ gb273) ho0 (fun k_ hk_ => ⟨(Nat.le_trans (below_size (zs GE273.out)) hk_), (Kd.freshB (g := gb273) (o := .cells #[.slice A0_0 l0_0.length c0_0, .int .i64 a0_1, .bool false] 50 (0, 0)) (mB_ BK273.out) k_ hk_)⟩)) (below_size (zs GE273.out))); have _ := aM (blk_below (g := gb273) (o := .cells #[.slice A0_0 l0_0.length c0_0, .int .i64 a0_1, .bool false] 50 (0, 0)) (mB_ BK273.out) hb); have _ := aM (below_step (zs GE273.out) hb); clear BK273 HB; rename_i HO279 BK273 HB; (try clear hb); (try clear hb2); (try clear hk); (try clear hi); (try clear ho0)))
 go_ret
 exact ⟨_, zw, zd3 HO279.out, zs GE273.out⟩
mutual
def spec_l11Alike.l0 : Nat → List (List (S82)) → List (List (S82)) → Int → Option (Bool)
 | 0, _, _, _ => none
 | k + 1, x5, x6, x7 => if x7 < (x5.length : Int) then (spec_l11Alike.l1 k x5 x6 x7 0) else (some false)
def spec_l11Alike.l1 : Nat → List (List (S82)) → List (List (S82)) → Int → Int → Option (Bool)
 | 0, _, _, _, _ => none
 | k + 1, x5, x6, x7, x8 => if x8 < (x6.length : Int) then (if 0 ≤ x7 then (if x7 < (x5.length : Int) then (if 0 ≤ x8 then ((spec_CompareShapes.f k (rd_L2 x5 x7) (rd_L2 x6 x8)).bind fun t290 => (if t290 = 0 then (some true) else (spec_l11Alike.l1 k x5 x6 x7 (wrap64 (x8 + 1))))) else (none)) else (none)) else (none)) else (spec_l11Alike.l0 k x5 x6 (wrap64 (x7 + 1)))
end
def spec_l11Alike.f (k : Nat) (l0_0 : List (S82)) (a0_1 : Int) (a0_2 : Bool) (l1_0 : List (S82)) (a1_1 : Int) (a1_2 : Bool) : Option (Bool) := (spec_l11Forms.f k l0_0 a0_1 a0_2).bind fun t282 => ((spec_l11Forms.f k l1_0 a1_1 a1_2).bind fun t285 => (spec_l11Alike.l0 k t282 t285 0))
def spec_l11Alike.T8 : Bool × List (List Nat × List Nat) := (true, [([], []), ([], []), ([0, 1], [0, 1]), ([2], [2]), ([], []), ([], []), ([4, 5], [4, 5]), ([6], [6]), ([3, 7], [3, 7]), ([8], [8])])
def spec_l11Alike.B8 : List Nat := [0, 0, 3, 7, 0, 0, 48, 112, 255, 511]
theorem spec_l11Alike.tab8 : rtab .any (opsOf Tryz.f56 8) = spec_l11Alike.T8 := by kernel_rfl
theorem spec_l11Alike.bits8 : waitsOk spec_l11Alike.T8.2 spec_l11Alike.B8 = true := by kernel_rfl
theorem spec_l11Alike.calls (k : Nat) (A0_0 : Option Addr) (c0_0 : Nat) (l0_0 : List (S82)) (a0_1 : Int) (a0_2 : Bool) (A1_0 : Option Addr) (c1_0 : Nat) (l1_0 : List (S82)) (a1_1 : Int) (a1_2 : Bool) (r : Bool) (w : World) (hr0_0 : Kd.C k82 w A0_0 l0_0.length l0_0) (hc0_0 : l0_0.length ≤ c0_0) (hr1_0 : Kd.C k82 w A1_0 l1_0.length l1_0) (hc1_0 : l1_0.length ≤ c1_0) (h : spec_l11Alike.f k l0_0 a0_1 a0_2 l1_0 a1_1 a1_2 = some r) :
  Calls Tryz.prog 56 #[.agg #[.slice A0_0 l0_0.length c0_0, .int .i64 a0_1, .bool a0_2], .agg #[.slice A1_0 l1_0.length c1_0, .int .i64 a1_1, .bool a1_2]] w fun e w' => e = .returned (.bool r) ∧ Below w.heap.size w w' := by
 have hu50 := Tryz.underlying50
 have HR0_0 := aM hr0_0
 have HC0_0 := aM hc0_0
 clear hr0_0 hc0_0
 have HR1_0 := aM hr1_0
 have HC1_0 := aM hc1_0
 clear hr1_0 hc1_0
 have HB := aM (Below.refl w.heap.size w)
 have H : ((spec_l11Forms.f k l0_0 a0_1 a0_2).bind fun t282 => ((spec_l11Forms.f k l1_0 a1_1 a1_2).bind fun t285 => (spec_l11Alike.l0 k t282 t285 0))) = some r := h
 clear h
 replace H := Option.bind_eq_some_iff.mp H
 obtain ⟨t282, A30, H⟩ := H
 replace H : ((spec_l11Forms.f k l1_0 a1_1 a1_2).bind fun t285 => (spec_l11Alike.l0 k t282 t285 0)) = some r := H
 have A3 := aM A30
 clear A30
 replace H := Option.bind_eq_some_iff.mp H
 obtain ⟨t285, A40, H⟩ := H
 replace H : (spec_l11Alike.l0 k t282 t285 0) = some r := H
 have A4 := aM A40
 clear A40
 have H' := aM H
 clear H
 go_enter Tryz.func56, Tryz.ntmps56
 try go_wp2_with (first | ((with_reducible refine gate_dst (N := 2) rfl ?_); refine zx 2 #[.slice A0_0 l0_0.length c0_0, .int .i64 a0_1, .bool a0_2] 50 ?_; intro gb280 hg w5 hbox hb; have _ := aM (below_step zb hb); have _ := aM (hbox); have _ := aM ((ze : w.heap.size ≤ gb280)); have _ := aM ((ze : w.heap.size ≤ gb280)); clear HB; rename_i HB BK280 GW280 GE280; clear hb hbox hg) | ((with_reducible refine gate_dst (N := 3) rfl ?_); refine zx 3 #[.slice A1_0 l1_0.length c1_0, .int .i64 a1_1, .bool a1_2] 50 ?_; intro gb281 hg w6 hbox hb; have _ := aM (blk_below (g := gb280) (o := .cells #[.slice A0_0 l0_0.length c0_0, .int .i64 a0_1, .bool a0_2] 50 (0, 0)) (mB_ BK280.out) hb); have _ := aM (below_step (zs GE280.out) hb); have _ := aM (hbox); have _ := aM ((zf GE280.out : w.heap.size ≤ gb281)); have _ := aM ((zf GE280.out : w.heap.size ≤ gb281)); have _ := aM ((zl BK280.out : gb280 ≠ gb281)); have _ := aM ((zn BK280.out : gb281 ≠ gb280)); clear BK280 HB; rename_i BK280 HB BK281 GW281 GE281 NB280_281 NB281_280; clear hb hbox hg))
 have _ := aM (blk_drew BK280.out)
 have _ := aM (blk_drew BK281.out)
 have _ := aM (below_drew1 HB.out)
 clear BK280
 clear BK281
 clear HB
 rename_i BK280 BK281 HB
 refine start_ (n := 6) (S := fun w' => w'.cell? ⟨gb280, 0, none⟩ = some (.slice A0_0 l0_0.length c0_0) ∧ w'.cell? ⟨gb280, 1, none⟩ = some (.int .i64 a0_1) ∧ w'.cell? ⟨gb280, 2, none⟩ = some (.bool a0_2) ∧ w'.cell? ⟨gb281, 0, none⟩ = some (.slice A1_0 l1_0.length c1_0) ∧ w'.cell? ⟨gb281, 1, none⟩ = some (.int .i64 a1_1) ∧ w'.cell? ⟨gb281, 2, none⟩ = some (.bool a1_2)) (ds := []) #[false, false, false, false, false, false] (by kernel_rfl) rfl rfl ⟨(blk_cell BK280.out 0).trans rfl, (blk_cell BK280.out 1).trans rfl, (blk_cell BK280.out 2).trans rfl, (blk_cell BK281.out 0).trans rfl, (blk_cell BK281.out 1).trans rfl, (blk_cell BK281.out 2).trans rfl⟩ (fun hHeld => ?_)
 generalize w6.drew = w7 at BK280 BK281 HB hHeld ⊢
 refine take_ (i := 0) (N := some 9) (v := ?_) (a' := ?_) #[true, false, false, false, false, false] rfl rfl (by kernel_rfl) (fun _ _ _ h => h) (Or.inl ⟨by rfl, ?_⟩) hHeld ?_ ?_
 rotate_left
 ·rintro w' ⟨s0, s1, s2, s3, s4, s5⟩
  go_simp
  with_reducible rfl
 rotate_left
 ·simp only [Act.put, xA, xB, xC, i64_w, i32_w]
  rfl
 refine take_ (i := 2) (N := some 11) (v := ?_) (a' := ?_) #[true, false, true, false, false, false] rfl rfl (by kernel_rfl) (fun _ _ _ h => h) (Or.inl ⟨by rfl, ?_⟩) hHeld ?_ ?_
 rotate_left
 ·rintro w' ⟨s0, s1, s2, s3, s4, s5⟩
  go_simp
  with_reducible rfl
 rotate_left
 ·simp only [Act.put, xA, xB, xC, i64_w, i32_w]
  rfl
 refine one_ (i := 1) (N := some 10) #[true, true, true, false, false, false] rfl rfl (by kernel_rfl) (by decide) (fun K hK => ?_)
 refine goes_ Tryz.func85 (by kernel_rfl) rfl #[.agg #[.slice A0_0 l0_0.length c0_0, .int .i64 a0_1, .bool a0_2]] (by rfl) rfl rfl zm ?_
 with_reducible refine (spec_l11Forms.calls k _ _ l0_0 a0_1 a0_2 t282 _ ?side1 ?side2 A3.out).mono ?_
 (case side1 => repeat (first | exact (Kd.C_below HR0_0.out HB.out) | (with_reducible refine Kd.C_alloc ?_ _) | (with_reducible refine Kd.C_drewN ?_ _) | (with_reducible refine Kd.C_drew ?_)))
 (case side2 => exact HC0_0.out)
 rintro e w8 ⟨v283, rfl, ho0, hb⟩
 refine ⟨_, rfl, ?_⟩
 have _ := aM (Kd.V_lower (Kd.V_mono (ok' := fun k_ => k_ ≠ gb280 ∧ k_ ≠ gb281) ho0 (fun k_ hk_ => ⟨(Kd.freshB (g := gb280) (o := .cells #[.slice A0_0 l0_0.length c0_0, .int .i64 a0_1, .bool a0_2] 50 (0, 0)) (mB_ BK280.out) k_ hk_), (Kd.freshB (g := gb281) (o := .cells #[.slice A1_0 l1_0.length c1_0, .int .i64 a1_1, .bool a1_2] 50 (0, 0)) (mB_ BK281.out) k_ hk_)⟩)) (below_size (zt GE280.out GE281.out)))
 have _ := aM (blk_below (g := gb280) (o := .cells #[.slice A0_0 l0_0.length c0_0, .int .i64 a0_1, .bool a0_2] 50 (0, 0)) (mB_ BK280.out) hb)
 have _ := aM (blk_below (g := gb281) (o := .cells #[.slice A1_0 l1_0.length c1_0, .int .i64 a1_1, .bool a1_2] 50 (0, 0)) (mB_ BK281.out) hb)
 have _ := aM (below_step (zt GE280.out GE281.out) hb)
 clear BK280
 clear BK281
 clear HB
 rename_i HO284 BK280 BK281 HB
 (try clear hb)
 (try clear hb2)
 (try clear hk)
 (try clear hi)
 (try clear ho0)
 refine hK.out _ _ ⟨(blk_cell BK280.out 0).trans rfl, (blk_cell BK280.out 1).trans rfl, (blk_cell BK280.out 2).trans rfl, (blk_cell BK281.out 0).trans rfl, (blk_cell BK281.out 1).trans rfl, (blk_cell BK281.out 2).trans rfl⟩ (fun hHeld => ?_)
 clear hK K
 refine norm_ (a' := ?_) ?_ ?_
 rotate_left
 ·show Act.put _ (some 10) _ = _
  simp only [Act.put, xA, xB, xC, i64_w, i32_w]
  rfl
 refine one_ (i := 3) (N := some 12) #[true, true, true, true, false, false] rfl rfl (by kernel_rfl) (by decide) (fun K hK => ?_)
 refine goes_ Tryz.func85 (by kernel_rfl) rfl #[.agg #[.slice A1_0 l1_0.length c1_0, .int .i64 a1_1, .bool a1_2]] (by rfl) rfl rfl zm ?_
 with_reducible refine (spec_l11Forms.calls k _ _ l1_0 a1_1 a1_2 t285 _ ?side1 ?side2 A4.out).mono ?_
 (case side1 => repeat (first | exact (Kd.C_below HR1_0.out HB.out) | (with_reducible refine Kd.C_alloc ?_ _) | (with_reducible refine Kd.C_drewN ?_ _) | (with_reducible refine Kd.C_drew ?_)))
 (case side2 => exact HC1_0.out)
 rintro e w9 ⟨v286, rfl, ho0, hb⟩
 refine ⟨_, rfl, ?_⟩
 have _ := aM (Kd.V_below (mV_ HO284.out) hb)
 have _ := aM (Kd.V_lower (Kd.V_mono (ok' := fun k_ => k_ ≠ gb280 ∧ k_ ≠ gb281) ho0 (fun k_ hk_ => ⟨(Kd.freshB (g := gb280) (o := .cells #[.slice A0_0 l0_0.length c0_0, .int .i64 a0_1, .bool a0_2] 50 (0, 0)) (mB_ BK280.out) k_ hk_), (Kd.freshB (g := gb281) (o := .cells #[.slice A1_0 l1_0.length c1_0, .int .i64 a1_1, .bool a1_2] 50 (0, 0)) (mB_ BK281.out) k_ hk_)⟩)) (below_size (zt GE280.out GE281.out)))
 have _ := aM (blk_below (g := gb280) (o := .cells #[.slice A0_0 l0_0.length c0_0, .int .i64 a0_1, .bool a0_2] 50 (0, 0)) (mB_ BK280.out) hb)
 have _ := aM (blk_below (g := gb281) (o := .cells #[.slice A1_0 l1_0.length c1_0, .int .i64 a1_1, .bool a1_2] 50 (0, 0)) (mB_ BK281.out) hb)
 have _ := aM (below_step (zt GE280.out GE281.out) hb)
 clear HO284
 clear BK280
 clear BK281
 clear HB
 rename_i HO284 HO287 BK280 BK281 HB
 (try clear hb)
 (try clear hb2)
 (try clear hk)
 (try clear hi)
 (try clear ho0)
 refine hK.out _ _ ⟨(blk_cell BK280.out 0).trans rfl, (blk_cell BK280.out 1).trans rfl, (blk_cell BK280.out 2).trans rfl, (blk_cell BK281.out 0).trans rfl, (blk_cell BK281.out 1).trans rfl, (blk_cell BK281.out 2).trans rfl⟩ (fun hHeld => ?_)
 clear hK K
 refine norm_ (a' := ?_) ?_ ?_
 rotate_left
 ·show Act.put _ (some 12) _ = _
  simp only [Act.put, xA, xB, xC, i64_w, i32_w]
  rfl
 refine pure_ (i := 4) (N := some 5) (v := ?_) (a' := ?_) #[true, true, true, true, true, false] rfl rfl (by kernel_rfl) (fun _ _ _ h => h) (Or.inl ⟨by rfl, ?_⟩) ?_ ?_
 rotate_left
 ·intro w'
  go_simp
  with_reducible rfl
 rotate_left
 ·simp only [Act.put, xA, xB, xC, i64_w, i32_w]
  rfl
 refine pure_ (i := 5) (N := some 6) (v := ?_) (a' := ?_) #[true, true, true, true, true, true] rfl rfl (by kernel_rfl) (fun _ _ _ h => h) (Or.inl ⟨by rfl, ?_⟩) ?_ ?_
 rotate_left
 ·intro w'
  go_simp
  with_reducible rfl
 rotate_left
 ·simp only [Act.put, xA, xB, xC, i64_w, i32_w]
  rfl
 refine done_ (by kernel_rfl) ?_
 try go_wp2
 go_loopg [7] k (fun kq v7 w' => ∃ (x7_1 : Int), v7 = .int .i64 x7_1 ∧ Aside0 (spec_l11Alike.l0 kq t282 t285 x7_1 = some r) ∧ Aside0 (kq ≤ k) ∧ Aside0 (Kd.V (Kd.slice 82 k82) 28 w' w.heap.size (fun k_ => k_ ≠ gb280 ∧ k_ ≠ gb281) v283 t282) ∧ Aside0 (Kd.V (Kd.slice 82 k82) 28 w' w.heap.size (fun k_ => k_ ≠ gb280 ∧ k_ ≠ gb281) v286 t285) ∧ Aside0 (w'.heap[gb280]? = some (.cells #[(.slice A0_0 l0_0.length c0_0), .int .i64 a0_1, .bool a0_2] 50 (0, 0))) ∧ Aside0 (w'.heap[gb281]? = some (.cells #[(.slice A1_0 l1_0.length c1_0), .int .i64 a1_1, .bool a1_2] 50 (0, 0))) ∧ Aside0 (Below w.heap.size w w'))
 case atStart => exact ⟨(0), zr, H', ⟨Nat.le_refl _⟩, ⟨mV_ HO284.out⟩, ⟨mV_ HO287.out⟩, ⟨mB_ BK280.out⟩, ⟨mB_ BK281.out⟩, ⟨zt GE280.out GE281.out⟩⟩
 case round =>
  clear H'
  try clear c1
  try clear p2
  try clear c5
  try clear c8
  obtain ⟨x7_1, rfl, HA, HK1, HO_5, HO_6, BK280, BK281, HB⟩ := hrel
  cases gk with
  | zero => exact absurd HA.out (by simp [spec_l11Alike.l0])
  | succ k1 =>
   have H := HA.out
   clear HA
   simp only [spec_l11Alike.l0] at H
   by_cases c10 : x7_1 < (t282.length : Int)
   rotate_left
   ·rw [if_neg c10] at H
    have c10b0 : decide (x7_1 < (t282.length : Int)) = false := decide_eq_false c10
    clear c10
    obtain rfl := Option.some.inj H
    obtain ⟨Ao25, co25, eo25⟩ := Kd.V_slice HO_5.out
    subst eo25
    go_wp2
    go_ret
    exact ⟨zw, zt GE280.out GE281.out⟩
   rw [if_pos c10] at H
   have c10b0 : decide (x7_1 < (t282.length : Int)) = true := decide_eq_true c10
   clear c10
   have H' := aM H
   clear H
   obtain ⟨Ao11, co11, eo11⟩ := Kd.V_slice HO_5.out
   subst eo11
   go_wp2
   go_loopg [8] k1 (fun kq v8 w' => ∃ (x8_2 : Int), v8 = .int .i64 x8_2 ∧ Aside0 (spec_l11Alike.l1 kq t282 t285 x7_1 x8_2 = some r) ∧ Aside0 (kq ≤ k1) ∧ Aside0 (Kd.V (Kd.slice 82 k82) 28 w' w.heap.size (fun k_ => k_ ≠ gb280 ∧ k_ ≠ gb281) (.slice Ao11 t282.length co11) t282) ∧ Aside0 (Kd.V (Kd.slice 82 k82) 28 w' w.heap.size (fun k_ => k_ ≠ gb280 ∧ k_ ≠ gb281) v286 t285) ∧ Aside0 (w'.heap[gb280]? = some (.cells #[(.slice A0_0 l0_0.length c0_0), .int .i64 a0_1, .bool a0_2] 50 (0, 0))) ∧ Aside0 (w'.heap[gb281]? = some (.cells #[(.slice A1_0 l1_0.length c1_0), .int .i64 a1_1, .bool a1_2] 50 (0, 0))) ∧ Aside0 (Below w.heap.size w w'))
   case atStart => exact ⟨(0), zr, H', ⟨Nat.le_refl _⟩, ⟨mV_ HO_5.out⟩, ⟨mV_ HO_6.out⟩, ⟨mB_ BK280.out⟩, ⟨mB_ BK281.out⟩, ⟨zt GE280.out GE281.out⟩⟩
   case round =>
    clear H'
    try clear c1
    try clear p2
    try clear c5
    try clear c8
    try clear c10
    try clear c10b0
    try clear p2
    obtain ⟨x8_2, rfl, HA, HK2, HO_5, HO_6, BK280, BK281, HB⟩ := hrel
    cases gk with
    | zero => exact absurd HA.out (by simp [spec_l11Alike.l1])
    | succ k2 =>
     have H := HA.out
     clear HA
     simp only [spec_l11Alike.l1] at H
     by_cases c12 : x8_2 < (t285.length : Int)
     rotate_left
     ·rw [if_neg c12] at H
      have c12b0 : decide (x8_2 < (t285.length : Int)) = false := decide_eq_false c12
      clear c12
      have H' := aM H
      clear H
      obtain ⟨Ao24, co24, eo24⟩ := Kd.V_slice HO_6.out
      subst eo24
      go_wp2
      go_roundg k2
      case measure => have := HK1.out; have := HK2.out; omega
      case rel => exact ⟨(wrap64 (x7_1 + 1)), zr, H', ⟨by have := HK1.out; have := HK2.out; omega⟩, ⟨mV_ HO_5.out⟩, ⟨mV_ HO_6.out⟩, ⟨mB_ BK280.out⟩, ⟨mB_ BK281.out⟩, ⟨zt GE280.out GE281.out⟩⟩
     rw [if_pos c12] at H
     have c12b0 : decide (x8_2 < (t285.length : Int)) = true := decide_eq_true c12
     clear c12
     by_cases c13 : 0 ≤ x7_1
     rotate_left
     ·rw [if_neg c13] at H
      exact absurd H (by simp)
     rw [if_pos c13] at H
     have c13b0 : decide (0 ≤ x7_1) = true := decide_eq_true c13
     clear c13
     by_cases c14 : x7_1 < (t282.length : Int)
     rotate_left
     ·rw [if_neg c14] at H
      exact absurd H (by simp)
     rw [if_pos c14] at H
     have c14b0 : decide (x7_1 < (t282.length : Int)) = true := decide_eq_true c14
     clear c14
     by_cases c15 : 0 ≤ x8_2
     rotate_left
     ·rw [if_neg c15] at H
      exact absurd H (by simp)
     rw [if_pos c15] at H
     have c15b0 : decide (0 ≤ x8_2) = true := decide_eq_true c15
     clear c15
     replace H := Option.bind_eq_some_iff.mp H
     obtain ⟨t290, A160, H⟩ := H
     replace H : (if t290 = 0 then (some true) else (spec_l11Alike.l1 k2 t282 t285 x7_1 (wrap64 (x8_2 + 1)))) = some r := H
     have A16 := aM A160
     clear A160
     by_cases c17 : t290 = 0
     ·rw [if_pos c17] at H
      have c17b0 : (t290 == 0) = true := beq_iff_eq.mpr c17
      have c17b1 : (t290 != 0) = false := bne_eq_false_iff_eq.mpr c17
      clear c17
      obtain rfl := Option.some.inj H
      obtain ⟨Ao18, co18, eo18⟩ := Kd.V_slice HO_6.out
      subst eo18
      try go_wp2
      have _ := aM (Kd.V_drew HO_5.out)
      have _ := aM (Kd.V_drew HO_6.out)
      have _ := aM (blk_drew BK280.out)
      have _ := aM (blk_drew BK281.out)
      have _ := aM (below_drew1 HB.out)
      clear HO_5
      clear HO_6
      clear BK280
      clear BK281
      clear HB
      rename_i HO_5 HO_6 BK280 BK281 HB
      have p288 : 0 ≤ (x7_1 : Int) := of_decide_eq_true za
      have q288 : x7_1 < (t282.length : Int) := of_decide_eq_true za
      obtain ⟨ad288, A288_0, c288_0, e288, hx288_0, hl288_0, hi288_0⟩ := at_L2 (Kd.V_reads' HO_5.out).2.2 x7_1 p288 q288
      cases e288
      obtain ⟨ce288, hce288, hMe288, hcc288⟩ := Kd.V_get HO_5.out [] x7_1 p288 (by first | exact q288 | exact of_decide_eq_true za | (have e_ := (Kd.V_reads' HO_5.out).1; omega))
      obtain ⟨ua288_0, uc288_0, rfl, ul288_0, ge288_0⟩ := Kd.FK_slice_open hMe288
      have hv288_0 := hcc288 0 _ rfl
      rw [Nat.add_zero, show ((Kd.slice 82 k82)).sz = 1 from rfl, Nat.mul_one] at hv288_0
      replace hv288_0 := Option.some.inj (hv288_0.symm.trans hx288_0)
      injection hv288_0 with hva_ hvn_ hvc_
      rw [hva_] at ge288_0
      rw [hvc_] at ul288_0
      have HL288_0 := aM (show Kd.V k82 82 _ w.heap.size _ _ (rd_L2 t282 x7_1) from Kd.V_mk ul288_0 ge288_0)
      clear hva_ hvn_ hvc_ ge288_0 ul288_0
      clear hcc288 hce288
      have HR288_0 := aM hi288_0
      have HC288_0 := aM hl288_0
      clear hi288_0 hl288_0
      replace p288 := eq_true p288
      replace q288 := eq_true q288
      have p289 : 0 ≤ (x8_2 : Int) := of_decide_eq_true za
      have q289 : x8_2 < (t285.length : Int) := of_decide_eq_true za
      obtain ⟨ad289, A289_0, c289_0, e289, hx289_0, hl289_0, hi289_0⟩ := at_L2 (Kd.V_reads' HO_6.out).2.2 x8_2 p289 q289
      cases e289
      obtain ⟨ce289, hce289, hMe289, hcc289⟩ := Kd.V_get HO_6.out [] x8_2 p289 (by first | exact q289 | exact of_decide_eq_true za | (have e_ := (Kd.V_reads' HO_6.out).1; omega))
      obtain ⟨ua289_0, uc289_0, rfl, ul289_0, ge289_0⟩ := Kd.FK_slice_open hMe289
      have hv289_0 := hcc289 0 _ rfl
      rw [Nat.add_zero, show ((Kd.slice 82 k82)).sz = 1 from rfl, Nat.mul_one] at hv289_0
      replace hv289_0 := Option.some.inj (hv289_0.symm.trans hx289_0)
      injection hv289_0 with hva_ hvn_ hvc_
      rw [hva_] at ge289_0
      rw [hvc_] at ul289_0
      have HL289_0 := aM (show Kd.V k82 82 _ w.heap.size _ _ (rd_L2 t285 x8_2) from Kd.V_mk ul289_0 ge289_0)
      clear hva_ hvn_ hvc_ ge289_0 ul289_0
      clear hcc289 hce289
      have HR289_0 := aM hi289_0
      have HC289_0 := aM hl289_0
      clear hi289_0 hl289_0
      replace p289 := eq_true p289
      replace q289 := eq_true q289
      refine start_ (n := 10) (S := fun w' => w'.cell? (ad288.add (x7_1).toNat) = some (.slice A288_0 (rd_L2 t282 x7_1).length c288_0) ∧ w'.cell? (ad289.add (x8_2).toNat) = some (.slice A289_0 (rd_L2 t285 x8_2).length c289_0)) (ds := []) zA52 (by kernel_rfl) rfl rfl ⟨hx288_0, hx289_0⟩ (fun hHeld => ?_); refine with_tabW spec_l11Alike.tab8 spec_l11Alike.bits8 (fun HT_ HW_ => ?_)
      generalize wr.drew = w19 at HO_5 HO_6 BK280 BK281 HB HL288_0 HL289_0 HR288_0 HR289_0 hx288_0 hx289_0 hHeld ⊢
      refine zP 0 (some 25) zA53 ?_
      refine zP 1 (some 26) zA54 ?_
      refine zP 2 (some 27) zA55 ?_
      refine zP 4 (some 29) zA63 ?_
      refine zP 5 (some 30) zA64 ?_
      refine zP 6 (some 31) zA65 ?_
      refine zU2 3 (some 28) zA59 hHeld ?_
      refine zU2 7 (some 32) zA60 hHeld ?_
      refine one_ (i := 8) (N := some 33) zA61 rfl rfl (one_of HT_.out (by kernel_rfl)) (by decide) (fun K hK => ?_)
      refine goes_ Tryz.func86 (by kernel_rfl) rfl #[.slice A288_0 (rd_L2 t282 x7_1).length c288_0, .slice A289_0 (rd_L2 t285 x8_2).length c289_0] (by rfl) rfl rfl zm ?_
      with_reducible refine (spec_CompareShapes.calls k2 _ _ (rd_L2 t282 x7_1) _ _ (rd_L2 t285 x8_2) t290 _ ?side1 ?side2 ?side3 ?side4 A16.out).mono ?_
      (case side1 => repeat (first | exact (mQ_ HR288_0.out) | (with_reducible refine Kd.C_alloc ?_ _) | (with_reducible refine Kd.C_drewN ?_ _) | (with_reducible refine Kd.C_drew ?_)))
      (case side2 => exact HC288_0.out)
      (case side3 => repeat (first | exact (mQ_ HR289_0.out) | (with_reducible refine Kd.C_alloc ?_ _) | (with_reducible refine Kd.C_drewN ?_ _) | (with_reducible refine Kd.C_drew ?_)))
      (case side4 => exact HC289_0.out)
      rintro e w20 ⟨rfl, hb⟩
      have HS0_ := zk hb (hHeld.1)
      have HS1_ := zk hb (hHeld.2)
      refine ⟨_, rfl, ?_⟩
      have _ := aM (Kd.V_below (mV_ HO_5.out) hb)
      have _ := aM (Kd.V_below (mV_ HO_6.out) hb)
      have _ := aM (Kd.V_below (mV_ HL288_0.out) hb)
      have _ := aM (Kd.V_below (mV_ HL289_0.out) hb)
      have _ := aM (blk_below (g := gb280) (o := .cells #[.slice A0_0 l0_0.length c0_0, .int .i64 a0_1, .bool a0_2] 50 (0, 0)) (mB_ BK280.out) hb)
      have _ := aM (blk_below (g := gb281) (o := .cells #[.slice A1_0 l1_0.length c1_0, .int .i64 a1_1, .bool a1_2] 50 (0, 0)) (mB_ BK281.out) hb)
      have _ := aM (Kd.C_below (mQ_ HR288_0.out) hb)
      have _ := aM (Kd.C_below (mQ_ HR289_0.out) hb)
      have _ := aM (below_step (zt GE280.out GE281.out) hb)
      clear HO_5
      clear HO_6
      clear HL288_0
      clear HL289_0
      clear BK280
      clear BK281
      clear HR288_0
      clear HR289_0
      clear HB
      rename_i HO_5 HO_6 HL288_0 HL289_0 BK280 BK281 HR288_0 HR289_0 HB
      (try clear hb)
      (try clear hb2)
      (try clear hk)
      (try clear hi)
      refine hK.out _ _ ⟨HS0_, HS1_⟩ (fun hHeld => ?_)
      clear hK K
      refine norm_ (a' := ?_) ?_ ?_
      rotate_left
      ·show Act.put _ (some 33) _ = _
       simp only [Act.put, xA, xB, xC, i64_w, i32_w]
       rfl
      refine zP 9 (some 34) zA62 ?_
      refine done_ (done_of HT_.out (by kernel_rfl)) ?_
      try go_wp2
      go_ret
      exact ⟨zw, zt GE280.out GE281.out⟩
     rw [if_neg c17] at H
     have c17b0 : (t290 == 0) = false := beq_eq_false_iff_ne.mpr c17
     have c17b1 : (t290 != 0) = true := bne_iff_ne.mpr c17
     have H' := aM H
     clear H
     obtain ⟨Ao21, co21, eo21⟩ := Kd.V_slice HO_6.out
     subst eo21
     try go_wp2
     have _ := aM (Kd.V_drew HO_5.out)
     have _ := aM (Kd.V_drew HO_6.out)
     have _ := aM (blk_drew BK280.out)
     have _ := aM (blk_drew BK281.out)
     have _ := aM (below_drew1 HB.out)
     clear HO_5
     clear HO_6
     clear BK280
     clear BK281
     clear HB
     rename_i HO_5 HO_6 BK280 BK281 HB
     have p288 : 0 ≤ (x7_1 : Int) := of_decide_eq_true za
     have q288 : x7_1 < (t282.length : Int) := of_decide_eq_true za
     obtain ⟨ad288, A288_0, c288_0, e288, hx288_0, hl288_0, hi288_0⟩ := at_L2 (Kd.V_reads' HO_5.out).2.2 x7_1 p288 q288
     cases e288
     obtain ⟨ce288, hce288, hMe288, hcc288⟩ := Kd.V_get HO_5.out [] x7_1 p288 (by first | exact q288 | exact of_decide_eq_true za | (have e_ := (Kd.V_reads' HO_5.out).1; omega))
     obtain ⟨ua288_0, uc288_0, rfl, ul288_0, ge288_0⟩ := Kd.FK_slice_open hMe288
     have hv288_0 := hcc288 0 _ rfl
     rw [Nat.add_zero, show ((Kd.slice 82 k82)).sz = 1 from rfl, Nat.mul_one] at hv288_0
     replace hv288_0 := Option.some.inj (hv288_0.symm.trans hx288_0)
     injection hv288_0 with hva_ hvn_ hvc_
     rw [hva_] at ge288_0
     rw [hvc_] at ul288_0
     have HL288_0 := aM (show Kd.V k82 82 _ w.heap.size _ _ (rd_L2 t282 x7_1) from Kd.V_mk ul288_0 ge288_0)
     clear hva_ hvn_ hvc_ ge288_0 ul288_0
     clear hcc288 hce288
     have HR288_0 := aM hi288_0
     have HC288_0 := aM hl288_0
     clear hi288_0 hl288_0
     replace p288 := eq_true p288
     replace q288 := eq_true q288
     have p289 : 0 ≤ (x8_2 : Int) := of_decide_eq_true za
     have q289 : x8_2 < (t285.length : Int) := of_decide_eq_true za
     obtain ⟨ad289, A289_0, c289_0, e289, hx289_0, hl289_0, hi289_0⟩ := at_L2 (Kd.V_reads' HO_6.out).2.2 x8_2 p289 q289
     cases e289
     obtain ⟨ce289, hce289, hMe289, hcc289⟩ := Kd.V_get HO_6.out [] x8_2 p289 (by first | exact q289 | exact of_decide_eq_true za | (have e_ := (Kd.V_reads' HO_6.out).1; omega))
     obtain ⟨ua289_0, uc289_0, rfl, ul289_0, ge289_0⟩ := Kd.FK_slice_open hMe289
     have hv289_0 := hcc289 0 _ rfl
     rw [Nat.add_zero, show ((Kd.slice 82 k82)).sz = 1 from rfl, Nat.mul_one] at hv289_0
     replace hv289_0 := Option.some.inj (hv289_0.symm.trans hx289_0)
     injection hv289_0 with hva_ hvn_ hvc_
     rw [hva_] at ge289_0
     rw [hvc_] at ul289_0
     have HL289_0 := aM (show Kd.V k82 82 _ w.heap.size _ _ (rd_L2 t285 x8_2) from Kd.V_mk ul289_0 ge289_0)
     clear hva_ hvn_ hvc_ ge289_0 ul289_0
     clear hcc289 hce289
     have HR289_0 := aM hi289_0
     have HC289_0 := aM hl289_0
     clear hi289_0 hl289_0
     replace p289 := eq_true p289
     replace q289 := eq_true q289
     refine start_ (n := 10) (S := fun w' => w'.cell? (ad288.add (x7_1).toNat) = some (.slice A288_0 (rd_L2 t282 x7_1).length c288_0) ∧ w'.cell? (ad289.add (x8_2).toNat) = some (.slice A289_0 (rd_L2 t285 x8_2).length c289_0)) (ds := []) zA52 (by kernel_rfl) rfl rfl ⟨hx288_0, hx289_0⟩ (fun hHeld => ?_); refine with_tabW spec_l11Alike.tab8 spec_l11Alike.bits8 (fun HT_ HW_ => ?_)
     generalize wr.drew = w22 at HO_5 HO_6 BK280 BK281 HB HL288_0 HL289_0 HR288_0 HR289_0 hx288_0 hx289_0 hHeld ⊢
     refine zP 0 (some 25) zA53 ?_
     refine zP 1 (some 26) zA54 ?_
     refine zP 2 (some 27) zA55 ?_
     refine zP 4 (some 29) zA63 ?_
     refine zP 5 (some 30) zA64 ?_
     refine zP 6 (some 31) zA65 ?_
     refine zU2 3 (some 28) zA59 hHeld ?_
     refine zU2 7 (some 32) zA60 hHeld ?_
     refine one_ (i := 8) (N := some 33) zA61 rfl rfl (one_of HT_.out (by kernel_rfl)) (by decide) (fun K hK => ?_)
     refine goes_ Tryz.func86 (by kernel_rfl) rfl #[.slice A288_0 (rd_L2 t282 x7_1).length c288_0, .slice A289_0 (rd_L2 t285 x8_2).length c289_0] (by rfl) rfl rfl zm ?_
     with_reducible refine (spec_CompareShapes.calls k2 _ _ (rd_L2 t282 x7_1) _ _ (rd_L2 t285 x8_2) t290 _ ?side1 ?side2 ?side3 ?side4 A16.out).mono ?_
     (case side1 => repeat (first | exact (mQ_ HR288_0.out) | (with_reducible refine Kd.C_alloc ?_ _) | (with_reducible refine Kd.C_drewN ?_ _) | (with_reducible refine Kd.C_drew ?_)))
     (case side2 => exact HC288_0.out)
     (case side3 => repeat (first | exact (mQ_ HR289_0.out) | (with_reducible refine Kd.C_alloc ?_ _) | (with_reducible refine Kd.C_drewN ?_ _) | (with_reducible refine Kd.C_drew ?_)))
     (case side4 => exact HC289_0.out)
     rintro e w23 ⟨rfl, hb⟩
     have HS0_ := zk hb (hHeld.1)
     have HS1_ := zk hb (hHeld.2)
     refine ⟨_, rfl, ?_⟩
     have _ := aM (Kd.V_below (mV_ HO_5.out) hb)
     have _ := aM (Kd.V_below (mV_ HO_6.out) hb)
     have _ := aM (Kd.V_below (mV_ HL288_0.out) hb)
     have _ := aM (Kd.V_below (mV_ HL289_0.out) hb)
     have _ := aM (blk_below (g := gb280) (o := .cells #[.slice A0_0 l0_0.length c0_0, .int .i64 a0_1, .bool a0_2] 50 (0, 0)) (mB_ BK280.out) hb)
     have _ := aM (blk_below (g := gb281) (o := .cells #[.slice A1_0 l1_0.length c1_0, .int .i64 a1_1, .bool a1_2] 50 (0, 0)) (mB_ BK281.out) hb)
     have _ := aM (Kd.C_below (mQ_ HR288_0.out) hb)
     have _ := aM (Kd.C_below (mQ_ HR289_0.out) hb)
     have _ := aM (below_step (zt GE280.out GE281.out) hb)
     clear HO_5
     clear HO_6
     clear HL288_0
     clear HL289_0
     clear BK280
     clear BK281
     clear HR288_0
     clear HR289_0
     clear HB
     rename_i HO_5 HO_6 HL288_0 HL289_0 BK280 BK281 HR288_0 HR289_0 HB
     (try clear hb)
     (try clear hb2)
     (try clear hk)
     (try clear hi)
     refine hK.out _ _ ⟨HS0_, HS1_⟩ (fun hHeld => ?_)
     clear hK K
     refine norm_ (a' := ?_) ?_ ?_
     rotate_left
     ·show Act.put _ (some 33) _ = _
      simp only [Act.put, xA, xB, xC, i64_w, i32_w]
      rfl
     refine zP 9 (some 34) zA62 ?_
     refine done_ (done_of HT_.out (by kernel_rfl)) ?_
     try go_wp2
     go_roundg k2
     case measure => have := HK1.out; have := HK2.out; omega
     case rel => exact ⟨(wrap64 (x8_2 + 1)), zr, H', ⟨by have := HK1.out; have := HK2.out; omega⟩, ⟨mV_ HO_5.out⟩, ⟨mV_ HO_6.out⟩, ⟨mB_ BK280.out⟩, ⟨mB_ BK281.out⟩, ⟨zt GE280.out GE281.out⟩⟩
mutual
def spec_IsPuzzle.j0 : Nat → Bool → List (S82) → List (S50) → Option (Bool)
 | 0, _, _, _ => none
 | k + 1, x15, x292000, x292001 => if x15 = true then (some false) else (spec_IsPuzzle.l0 k 0 x292000 x292001)
def spec_IsPuzzle.l0 : Nat → Int → List (S82) → List (S50) → Option (Bool)
 | 0, _, _, _ => none
 | k + 1, x3, x292000, x292001 => if x3 < (x292001.length : Int) then (if 0 ≤ x3 then ((spec_IsPiece.f k ((rd_T50 x292001 x3).f0) ((rd_T50 x292001 x3).f1) ((rd_T50 x292001 x3).f2)).bind fun t295 => (if t295 = true then (spec_IsPuzzle.l1 k x3 0 x292000 x292001) else (some false))) else (none)) else (some true)
def spec_IsPuzzle.l1 : Nat → Int → Int → List (S82) → List (S50) → Option (Bool)
 | 0, _, _, _, _ => none
 | k + 1, x3, x4, x292000, x292001 => if x4 < x3 then (if 0 ≤ x3 then (if x3 < (x292001.length : Int) then (if 0 ≤ x4 then (if x4 < (x292001.length : Int) then ((spec_l11Alike.f k ((rd_T50 x292001 x3).f0) ((rd_T50 x292001 x3).f1) ((rd_T50 x292001 x3).f2) ((rd_T50 x292001 x4).f0) ((rd_T50 x292001 x4).f1) ((rd_T50 x292001 x4).f2)).bind fun t298 => (if t298 = true then (some false) else (spec_IsPuzzle.l1 k x3 (wrap64 (x4 + 1)) x292000 x292001))) else (none)) else (none)) else (none)) else (none)) else (spec_IsPuzzle.l0 k (wrap64 (x3 + 1)) x292000 x292001)
end
def spec_IsPuzzle.f (k : Nat) (l0_0 : List (S82)) (l0_1 : List (S50)) : Option (Bool) := (spec_IsRegion.f k l0_0).bind fun t292 => (if t292 = true then ((spec_l01In.f (l0_1.length : Int) 1 12).bind fun t293 => (spec_IsPuzzle.j0 k (!t293) l0_0 l0_1)) else (spec_IsPuzzle.j0 k true l0_0 l0_1))
def spec_IsPuzzle.T11 : Bool × List (List Nat × List Nat) := (true, [([], []), ([0], [0]), ([], []), ([1, 2], [1, 2]), ([3], [3]), ([], []), ([5], [5]), ([], []), ([6, 7], [6, 7]), ([8], [8]), ([4, 9], [4, 9])])
def spec_IsPuzzle.B11 : List Nat := [0, 1, 0, 7, 15, 0, 32, 0, 224, 480, 1023]
theorem spec_IsPuzzle.tab11 : rtab .any (opsOf Tryz.f25 11) = spec_IsPuzzle.T11 := by kernel_rfl
theorem spec_IsPuzzle.bits11 : waitsOk spec_IsPuzzle.T11.2 spec_IsPuzzle.B11 = true := by kernel_rfl
theorem spec_IsPuzzle.calls (k : Nat) (A0_0 : Option Addr) (c0_0 : Nat) (l0_0 : List (S82)) (A0_1 : Option Addr) (c0_1 : Nat) (l0_1 : List (S50)) (r : Bool) (w : World) (hr0_0 : Kd.C k82 w A0_0 l0_0.length l0_0) (hc0_0 : l0_0.length ≤ c0_0) (hr0_1 : Kd.C k50 w A0_1 l0_1.length l0_1) (hc0_1 : l0_1.length ≤ c0_1) (h : spec_IsPuzzle.f k l0_0 l0_1 = some r) :
  Calls Tryz.prog 25 #[.agg #[.slice A0_0 l0_0.length c0_0, .slice A0_1 l0_1.length c0_1]] w fun e w' => e = .returned (.bool r) ∧ Below w.heap.size w w' := by
 have hu31 := Tryz.underlying31
 have hu50 := Tryz.underlying50
 have HR0_0 := aM hr0_0
 have HC0_0 := aM hc0_0
 clear hr0_0 hc0_0
 have HR0_1 := aM hr0_1
 have HC0_1 := aM hc0_1
 clear hr0_1 hc0_1
 have HB := aM (Below.refl w.heap.size w)
 have H : ((spec_IsRegion.f k l0_0).bind fun t292 => (if t292 = true then ((spec_l01In.f (l0_1.length : Int) 1 12).bind fun t293 => (spec_IsPuzzle.j0 k (!t293) l0_0 l0_1)) else (spec_IsPuzzle.j0 k true l0_0 l0_1))) = some r := h
 clear h
 have HC2 := aM H
 clear H
 go_enter Tryz.func25, Tryz.ntmps25
 go_upto_region 1 with (first | ((with_reducible refine gate_dst (N := 1) rfl ?_); (try (refine gate_guard (by rfl) ?_; dsimp only)); refine zx 1 #[.slice A0_0 l0_0.length c0_0, .slice A0_1 l0_1.length c0_1] 31 ?_; intro gb291 hg w3 hbox hb; have _ := aM (below_step zb hb); have _ := aM (hbox); have _ := aM ((ze : w.heap.size ≤ gb291)); have _ := aM ((ze : w.heap.size ≤ gb291)); clear HB; rename_i HB BK291 GW291 GE291; clear hb hbox hg))
 (try simp only [Act.put, xA, xB, xC])
 go_cut [15] (fun v15 wc => ∃ (kq : Nat) (x15_1 : Bool), v15 = .bool x15_1 ∧ Aside0 (spec_IsPuzzle.j0 kq x15_1 l0_0 l0_1 = some r) ∧ Aside0 (kq ≤ k) ∧ Aside0 (wc.heap[gb291]? = some (.cells #[(.slice A0_0 l0_0.length c0_0), (.slice A0_1 l0_1.length c0_1)] 31 (0, 0))) ∧ Aside0 (Below w.heap.size w wc))
 case first =>
  have H := HC2.out
  clear HC2
  replace H := Option.bind_eq_some_iff.mp H
  obtain ⟨t292, A40, H⟩ := H
  replace H : (if t292 = true then ((spec_l01In.f (l0_1.length : Int) 1 12).bind fun t293 => (spec_IsPuzzle.j0 k (!t293) l0_0 l0_1)) else (spec_IsPuzzle.j0 k true l0_0 l0_1)) = some r := H
  have A4 := aM A40
  clear A40
  by_cases c5 : t292 = true
  rotate_left
  ·replace c5 := Bool.eq_false_iff.mpr c5
   subst c5
   have H1 : (spec_IsPuzzle.j0 k true l0_0 l0_1) = some r := by rw [if_neg (show ¬ (false = true) by decide)] at H; exact H
   clear H
   have H := H1
   clear H1
   have H' := aM H
   clear H
   obtain ⟨hcz10_0, hcz10_1, hfz10_0, hfz10_1⟩ := zQ2 BK291.out
   go_wp2_with (first | ((with_reducible refine gate_callee (f := 53) rfl ?_); refine goesL_ (some 7) rfl rfl Tryz.func53 (by kernel_rfl) rfl #[.slice A0_0 l0_0.length c0_0] rfl zm ?_; (with_reducible refine (spec_IsRegion.calls k _ _ l0_0 false _ ?side1 ?side2 A4.out).mono ?_); (case side1 => repeat (first | exact (Kd.C_below HR0_0.out HB.out) | (with_reducible refine Kd.C_alloc ?_ _) | (with_reducible refine Kd.C_drewN ?_ _) | (with_reducible refine Kd.C_drew ?_))); (case side2 => exact HC0_0.out); rintro e w11 ⟨rfl, hb⟩; refine ⟨_, rfl, ?_⟩; have _ := aM (blk_below (g := gb291) (o := .cells #[.slice A0_0 l0_0.length c0_0, .slice A0_1 l0_1.length c0_1] 31 (0, 0)) (mB_ BK291.out) hb); have _ := aM (below_step (zs GE291.out) hb); clear BK291 HB; rename_i BK291 HB; (try clear hb); (try clear hb2); (try clear hk); (try clear hi)))
   go_meet
   case rel => exact ⟨_, (true), zr, H', ⟨by first | omega | exact Nat.le_refl _⟩, ⟨mB_ BK291.out⟩, ⟨zs GE291.out⟩⟩
  subst c5
  have H1 : ((spec_l01In.f (l0_1.length : Int) 1 12).bind fun t293 => (spec_IsPuzzle.j0 k (!t293) l0_0 l0_1)) = some r := by rw [if_pos rfl] at H; exact H
  clear H
  have H := H1
  clear H1
  replace H := Option.bind_eq_some_iff.mp H
  obtain ⟨t293, A60, H⟩ := H
  replace H : (spec_IsPuzzle.j0 k (!t293) l0_0 l0_1) = some r := H
  have A6 := aM A60
  clear A60
  have H' := aM H
  clear H
  obtain ⟨hcz7_0, hcz7_1, hfz7_0, hfz7_1⟩ := zQ2 BK291.out
  go_wp2_with (first | ((with_reducible refine gate_callee (f := 53) rfl ?_); refine goesL_ (some 7) rfl rfl Tryz.func53 (by kernel_rfl) rfl #[.slice A0_0 l0_0.length c0_0] rfl zm ?_; (with_reducible refine (spec_IsRegion.calls k _ _ l0_0 true _ ?side1 ?side2 A4.out).mono ?_); (case side1 => repeat (first | exact (Kd.C_below HR0_0.out HB.out) | (with_reducible refine Kd.C_alloc ?_ _) | (with_reducible refine Kd.C_drewN ?_ _) | (with_reducible refine Kd.C_drew ?_))); (case side2 => exact HC0_0.out); rintro e w8 ⟨rfl, hb⟩; refine ⟨_, rfl, ?_⟩; have _ := aM (blk_below (g := gb291) (o := .cells #[.slice A0_0 l0_0.length c0_0, .slice A0_1 l0_1.length c0_1] 31 (0, 0)) (mB_ BK291.out) hb); have _ := aM (below_step (zs GE291.out) hb); clear BK291 HB; rename_i BK291 HB; (try clear hb); (try clear hb2); (try clear hk); (try clear hi); obtain ⟨hcz9_0, hcz9_1, hfz9_0, hfz9_1⟩ := zQ2 BK291.out) | (go_at_call 54; (with_reducible refine (spec_l01In.calls (l0_1.length : Int) 1 12 t293 _ A6.out).mono ?_); rintro e w' ⟨rfl, ⟨nd, rfl⟩⟩))
  go_meet
  case rel => exact ⟨_, (!t293), zr, H', ⟨by first | omega | exact Nat.le_refl _⟩, ⟨mB_ BK291.out⟩, ⟨zs GE291.out⟩⟩
 case rest =>
  clear HC2
  try clear c2
  try clear p2
  try clear c5
  try clear hcz10_0
  try clear hcz10_1
  try clear hcz7_0
  try clear hcz7_1
  try clear hcz9_0
  try clear hcz9_1
  try clear hfz10_0
  try clear hfz10_1
  try clear hfz7_0
  try clear hfz7_1
  try clear hfz9_0
  try clear hfz9_1
  obtain ⟨kq, x15_1, rfl, HA, HJ1, BK291, HB⟩ := hcut
  cases kq with
  | zero => exact absurd HA.out (by simp [spec_IsPuzzle.j0])
  | succ kj1 =>
   have H := HA.out
   clear HA
   simp only [spec_IsPuzzle.j0] at H
   by_cases c12 : x15_1 = true
   ·subst c12
    have H1 : (some false) = some r := by rw [if_pos rfl] at H; exact H
    clear H
    have H := H1
    clear H1
    obtain rfl := Option.some.inj H
    go_wp2
    go_ret
    exact ⟨zw, zs GE291.out⟩
   replace c12 := Bool.eq_false_iff.mpr c12
   subst c12
   have H1 : (spec_IsPuzzle.l0 kj1 0 l0_0 l0_1) = some r := by rw [if_neg (show ¬ (false = true) by decide)] at H; exact H
   clear H
   have H := H1
   clear H1
   have H' := aM H
   clear H
   go_wp2
   go_loopg [3] kj1 (fun kq v3 w' => ∃ (x3_2 : Int), v3 = .int .i64 x3_2 ∧ Aside0 (spec_IsPuzzle.l0 kq x3_2 l0_0 l0_1 = some r) ∧ Aside0 (kq ≤ kj1) ∧ Aside0 (w'.heap[gb291]? = some (.cells #[(.slice A0_0 l0_0.length c0_0), (.slice A0_1 l0_1.length c0_1)] 31 (0, 0))) ∧ Aside0 (Below w.heap.size w w'))
   case atStart => exact ⟨(0), zr, H', ⟨Nat.le_refl _⟩, ⟨mB_ BK291.out⟩, ⟨zs GE291.out⟩⟩
   case round =>
    clear H'
    try clear c1
    try clear c2
    try clear p2
    try clear c5
    try clear c12
    try clear hcz10_0
    try clear hcz10_1
    try clear hcz7_0
    try clear hcz7_1
    try clear hcz9_0
    try clear hcz9_1
    try clear hfz10_0
    try clear hfz10_1
    try clear hfz7_0
    try clear hfz7_1
    try clear hfz9_0
    try clear hfz9_1
    try clear p2
    obtain ⟨x3_2, rfl, HA, HK2, BK291, HB⟩ := hrel
    cases gk with
    | zero => exact absurd HA.out (by simp [spec_IsPuzzle.l0])
    | succ k2 =>
     have H := HA.out
     clear HA
     simp only [spec_IsPuzzle.l0] at H
     by_cases c13 : x3_2 < (l0_1.length : Int)
     rotate_left
     ·rw [if_neg c13] at H
      have c13b0 : decide (x3_2 < (l0_1.length : Int)) = false := decide_eq_false c13
      clear c13
      obtain rfl := Option.some.inj H
      obtain ⟨hcz32_0, hcz32_1, hfz32_0, hfz32_1⟩ := zQ2 BK291.out
      go_wp2
      go_ret
      exact ⟨zw, zs GE291.out⟩
     rw [if_pos c13] at H
     have c13b0 : decide (x3_2 < (l0_1.length : Int)) = true := decide_eq_true c13
     clear c13
     by_cases c14 : 0 ≤ x3_2
     rotate_left
     ·rw [if_neg c14] at H
      exact absurd H (by simp)
     rw [if_pos c14] at H
     have c14b0 : decide (0 ≤ x3_2) = true := decide_eq_true c14
     clear c14
     replace H := Option.bind_eq_some_iff.mp H
     obtain ⟨t295, A150, H⟩ := H
     replace H : (if t295 = true then (spec_IsPuzzle.l1 k2 x3_2 0 l0_0 l0_1) else (some false)) = some r := H
     have A15 := aM A150
     clear A150
     by_cases c16 : t295 = true
     rotate_left
     ·replace c16 := Bool.eq_false_iff.mpr c16
      subst c16
      have H1 : (some false) = some r := by rw [if_neg (show ¬ (false = true) by decide)] at H; exact H
      clear H
      have H := H1
      clear H1
      obtain rfl := Option.some.inj H
      obtain ⟨hcz30_0, hcz30_1, hfz30_0, hfz30_1⟩ := zQ2 BK291.out
      have p294 : 0 ≤ (x3_2 : Int) := of_decide_eq_true za
      have q294 : x3_2 < (l0_1.length : Int) := of_decide_eq_true za
      obtain ⟨ad294, A294_0, c294_0, e294, hx294_0, hx294_1, hx294_2, hl294_0, hi294_0⟩ := at_T50 HR0_1.out x3_2 p294 q294
      cases e294
      replace hx294_0 := zk HB.out hx294_0
      replace hx294_1 := zk HB.out hx294_1
      replace hx294_2 := zk HB.out hx294_2
      have HR294_0 := aM hi294_0
      have HC294_0 := aM hl294_0
      clear hi294_0 hl294_0
      replace p294 := eq_true p294
      replace q294 := eq_true q294
      go_wp2_with (first | ((with_reducible refine gate_callee (f := 55) rfl ?_); refine goesL_ (some 28) rfl rfl Tryz.func55 (by kernel_rfl) rfl #[.agg #[.slice A294_0 ((rd_T50 l0_1 x3_2).f0).length c294_0, .int .i64 ((rd_T50 l0_1 x3_2).f1), .bool ((rd_T50 l0_1 x3_2).f2)]] rfl zm ?_; (with_reducible refine (spec_IsPiece.calls k2 _ _ ((rd_T50 l0_1 x3_2).f0) ((rd_T50 l0_1 x3_2).f1) ((rd_T50 l0_1 x3_2).f2) false _ ?side1 ?side2 A15.out).mono ?_); (case side1 => repeat (first | exact (Kd.C_below HR294_0.out HB.out) | (with_reducible refine Kd.C_alloc ?_ _) | (with_reducible refine Kd.C_drewN ?_ _) | (with_reducible refine Kd.C_drew ?_))); (case side2 => exact HC294_0.out); rintro e w31 ⟨rfl, hb⟩; refine ⟨_, rfl, ?_⟩; have _ := aM (blk_below (g := gb291) (o := .cells #[.slice A0_0 l0_0.length c0_0, .slice (some ad294) l0_1.length c0_1] 31 (0, 0)) (mB_ BK291.out) hb); have _ := aM (below_step (zs GE291.out) hb); clear BK291 HB; rename_i BK291 HB; (try clear hb); (try clear hb2); (try clear hk); (try clear hi)))
      go_ret
      exact ⟨zw, zs GE291.out⟩
     subst c16
     have H1 : (spec_IsPuzzle.l1 k2 x3_2 0 l0_0 l0_1) = some r := by rw [if_pos rfl] at H; exact H
     clear H
     have H := H1
     clear H1
     have H' := aM H
     clear H
     obtain ⟨hcz17_0, hcz17_1, hfz17_0, hfz17_1⟩ := zQ2 BK291.out
     have p294 : 0 ≤ (x3_2 : Int) := of_decide_eq_true za
     have q294 : x3_2 < (l0_1.length : Int) := of_decide_eq_true za
     obtain ⟨ad294, A294_0, c294_0, e294, hx294_0, hx294_1, hx294_2, hl294_0, hi294_0⟩ := at_T50 HR0_1.out x3_2 p294 q294
     cases e294
     replace hx294_0 := zk HB.out hx294_0
     replace hx294_1 := zk HB.out hx294_1
     replace hx294_2 := zk HB.out hx294_2
     have HR294_0 := aM hi294_0
     have HC294_0 := aM hl294_0
     clear hi294_0 hl294_0
     replace p294 := eq_true p294
     replace q294 := eq_true q294
     go_wp2_with (first | ((with_reducible refine gate_callee (f := 55) rfl ?_); refine goesL_ (some 28) rfl rfl Tryz.func55 (by kernel_rfl) rfl #[.agg #[.slice A294_0 ((rd_T50 l0_1 x3_2).f0).length c294_0, .int .i64 ((rd_T50 l0_1 x3_2).f1), .bool ((rd_T50 l0_1 x3_2).f2)]] rfl zm ?_; (with_reducible refine (spec_IsPiece.calls k2 _ _ ((rd_T50 l0_1 x3_2).f0) ((rd_T50 l0_1 x3_2).f1) ((rd_T50 l0_1 x3_2).f2) true _ ?side1 ?side2 A15.out).mono ?_); (case side1 => repeat (first | exact (Kd.C_below HR294_0.out HB.out) | (with_reducible refine Kd.C_alloc ?_ _) | (with_reducible refine Kd.C_drewN ?_ _) | (with_reducible refine Kd.C_drew ?_))); (case side2 => exact HC294_0.out); rintro e w18 ⟨rfl, hb⟩; refine ⟨_, rfl, ?_⟩; have _ := aM (blk_below (g := gb291) (o := .cells #[.slice A0_0 l0_0.length c0_0, .slice (some ad294) l0_1.length c0_1] 31 (0, 0)) (mB_ BK291.out) hb); have _ := aM (below_step (zs GE291.out) hb); clear BK291 HB; rename_i BK291 HB; (try clear hb); (try clear hb2); (try clear hk); (try clear hi)))
     go_loopg [4] k2 (fun kq v4 w' => ∃ (x4_3 : Int), v4 = .int .i64 x4_3 ∧ Aside0 (spec_IsPuzzle.l1 kq x3_2 x4_3 l0_0 l0_1 = some r) ∧ Aside0 (kq ≤ k2) ∧ Aside0 (w'.heap[gb291]? = some (.cells #[(.slice A0_0 l0_0.length c0_0), (.slice (some ad294) l0_1.length c0_1)] 31 (0, 0))) ∧ Aside0 (Below w.heap.size w w'))
     case atStart => exact ⟨(0), zr, H', ⟨Nat.le_refl _⟩, ⟨mB_ BK291.out⟩, ⟨zs GE291.out⟩⟩
     case round =>
      clear H'
      try clear c1
      try clear c2
      try clear p2
      try clear q2
      try clear hx2
      try clear c5
      try clear c12
      try clear c13
      try clear c13b0
      try clear c14
      try clear c14b0
      try clear c16
      try clear hcz10_0
      try clear hcz10_1
      try clear hcz17_0
      try clear hcz17_1
      try clear hcz7_0
      try clear hcz7_1
      try clear hcz9_0
      try clear hcz9_1
      try clear hfz10_0
      try clear hfz10_1
      try clear hfz17_0
      try clear hfz17_1
      try clear hfz7_0
      try clear hfz7_1
      try clear hfz9_0
      try clear hfz9_1
      try clear hx294_0
      try clear hx294_1
      try clear hx294_2
      try clear p2
      try clear p294
      try clear q294
      obtain ⟨x4_3, rfl, HA, HK3, BK291, HB⟩ := hrel
      cases gk with
      | zero => exact absurd HA.out (by simp [spec_IsPuzzle.l1])
      | succ k3 =>
       have H := HA.out
       clear HA
       simp only [spec_IsPuzzle.l1] at H
       by_cases c19 : x4_3 < x3_2
       rotate_left
       ·rw [if_neg c19] at H
        have c19b0 : decide (x4_3 < x3_2) = false := decide_eq_false c19
        clear c19
        have H' := aM H
        clear H
        go_wp2
        go_roundg k3
        case measure => have := HJ1.out; have := HK2.out; have := HK3.out; omega
        case rel => exact ⟨(wrap64 (x3_2 + 1)), zr, H', ⟨by have := HJ1.out; have := HK2.out; have := HK3.out; omega⟩, ⟨mB_ BK291.out⟩, ⟨zs GE291.out⟩⟩
       rw [if_pos c19] at H
       have c19b0 : decide (x4_3 < x3_2) = true := decide_eq_true c19
       clear c19
       by_cases c20 : 0 ≤ x3_2
       rotate_left
       ·rw [if_neg c20] at H
        exact absurd H (by simp)
       rw [if_pos c20] at H
       have c20b0 : decide (0 ≤ x3_2) = true := decide_eq_true c20
       clear c20
       by_cases c21 : x3_2 < (l0_1.length : Int)
       rotate_left
       ·rw [if_neg c21] at H
        exact absurd H (by simp)
       rw [if_pos c21] at H
       have c21b0 : decide (x3_2 < (l0_1.length : Int)) = true := decide_eq_true c21
       clear c21
       by_cases c22 : 0 ≤ x4_3
       rotate_left
       ·rw [if_neg c22] at H
        exact absurd H (by simp)
       rw [if_pos c22] at H
       have c22b0 : decide (0 ≤ x4_3) = true := decide_eq_true c22
       clear c22
       by_cases c23 : x4_3 < (l0_1.length : Int)
       rotate_left
       ·rw [if_neg c23] at H
        exact absurd H (by simp)
       rw [if_pos c23] at H
       have c23b0 : decide (x4_3 < (l0_1.length : Int)) = true := decide_eq_true c23
       clear c23
       replace H := Option.bind_eq_some_iff.mp H
       obtain ⟨t298, A240, H⟩ := H
       replace H : (if t298 = true then (some false) else (spec_IsPuzzle.l1 k3 x3_2 (wrap64 (x4_3 + 1)) l0_0 l0_1)) = some r := H
       have A24 := aM A240
       clear A240
       by_cases c25 : t298 = true
       ·subst c25
        have H1 : (some false) = some r := by rw [if_pos rfl] at H; exact H
        clear H
        have H := H1
        clear H1
        obtain rfl := Option.some.inj H
        try go_wp2
        have _ := aM (blk_drew BK291.out)
        have _ := aM (below_drew1 HB.out)
        clear BK291
        clear HB
        rename_i BK291 HB
        have p296 : 0 ≤ (x3_2 : Int) := of_decide_eq_true za
        have q296 : x3_2 < (l0_1.length : Int) := of_decide_eq_true za
        obtain ⟨ad296, A296_0, c296_0, e296, hx296_0, hx296_1, hx296_2, hl296_0, hi296_0⟩ := at_T50 HR0_1.out x3_2 p296 q296
        have hw296_2 := hx296_2
        have hw296_1 := hx296_1
        have hw296_0 := hx296_0
        obtain rfl : ad294 = ad296 := (by injection e296)
        replace hx296_0 := zk HB.out hx296_0
        replace hx296_1 := zk HB.out hx296_1
        replace hx296_2 := zk HB.out hx296_2
        have HR296_0 := aM hi296_0
        have HC296_0 := aM hl296_0
        clear hi296_0 hl296_0
        replace p296 := eq_true p296
        replace q296 := eq_true q296
        have p297 : 0 ≤ (x4_3 : Int) := of_decide_eq_true za
        have q297 : x4_3 < (l0_1.length : Int) := of_decide_eq_true za
        obtain ⟨ad297, A297_0, c297_0, e297, hx297_0, hx297_1, hx297_2, hl297_0, hi297_0⟩ := at_T50 HR0_1.out x4_3 p297 q297
        have hw297_2 := hx297_2
        have hw297_1 := hx297_1
        have hw297_0 := hx297_0
        obtain rfl : ad294 = ad297 := (by injection e297)
        replace hx297_0 := zk HB.out hx297_0
        replace hx297_1 := zk HB.out hx297_1
        replace hx297_2 := zk HB.out hx297_2
        have HR297_0 := aM hi297_0
        have HC297_0 := aM hl297_0
        clear hi297_0 hl297_0
        replace p297 := eq_true p297
        replace q297 := eq_true q297
        refine start_ (n := 11) (S := fun w' => w'.cell? ⟨gb291, 0, none⟩ = some (.slice A0_0 l0_0.length c0_0) ∧ w'.cell? ⟨gb291, 1, none⟩ = some (.slice (some ad294) l0_1.length c0_1) ∧ w'.cell? (ad294.add ((x3_2).toNat * 3)) = some (.slice A296_0 ((rd_T50 l0_1 x3_2).f0).length c296_0) ∧ w'.cell? ⟨(ad294.add ((x3_2).toNat * 3)).block, (ad294.add ((x3_2).toNat * 3)).off + 1, none⟩ = some (.int .i64 ((rd_T50 l0_1 x3_2).f1)) ∧ w'.cell? ⟨(ad294.add ((x3_2).toNat * 3)).block, (ad294.add ((x3_2).toNat * 3)).off + 2, none⟩ = some (.bool ((rd_T50 l0_1 x3_2).f2)) ∧ w'.cell? (ad294.add ((x4_3).toNat * 3)) = some (.slice A297_0 ((rd_T50 l0_1 x4_3).f0).length c297_0) ∧ w'.cell? ⟨(ad294.add ((x4_3).toNat * 3)).block, (ad294.add ((x4_3).toNat * 3)).off + 1, none⟩ = some (.int .i64 ((rd_T50 l0_1 x4_3).f1)) ∧ w'.cell? ⟨(ad294.add ((x4_3).toNat * 3)).block, (ad294.add ((x4_3).toNat * 3)).off + 2, none⟩ = some (.bool ((rd_T50 l0_1 x4_3).f2))) (ds := []) zA66 (by kernel_rfl) rfl rfl ⟨(blk_cell BK291.out 0).trans rfl, (blk_cell BK291.out 1).trans rfl, (zk HB.out hw296_0), (zk HB.out hw296_1), (zk HB.out hw296_2), (zk HB.out hw297_0), (zk HB.out hw297_1), (zk HB.out hw297_2)⟩ (fun hHeld => ?_); refine with_tabW spec_IsPuzzle.tab11 spec_IsPuzzle.bits11 (fun HT_ HW_ => ?_)
        generalize wr.drew = w26 at BK291 HB HR296_0 HR297_0 hx296_0 hx296_1 hx296_2 hx297_0 hx297_1 hx297_2 hHeld ⊢
        refine zP 0 (some 35) zA67 ?_
        refine zP 2 (some 37) zA68 ?_
        refine zP 5 (some 40) zA69 ?_
        refine zP 7 (some 42) zA70 ?_
        refine zU8 1 (some 36) zA71 hHeld ?_
        refine zP 3 (some 38) zA72 ?_
        refine zU8 4 (some 39) zA73 hHeld ?_
        refine zU8 6 (some 41) zA74 hHeld ?_
        refine zP 8 (some 43) zA75 ?_
        refine zU8 9 (some 44) zA76 hHeld ?_
        refine one_ (i := 10) (N := some 45) zA77 rfl rfl (one_of HT_.out (by kernel_rfl)) (by decide) (fun K hK => ?_)
        refine goes_ Tryz.func56 (by kernel_rfl) rfl #[.agg #[.slice A296_0 ((rd_T50 l0_1 x3_2).f0).length c296_0, .int .i64 ((rd_T50 l0_1 x3_2).f1), .bool ((rd_T50 l0_1 x3_2).f2)], .agg #[.slice A297_0 ((rd_T50 l0_1 x4_3).f0).length c297_0, .int .i64 ((rd_T50 l0_1 x4_3).f1), .bool ((rd_T50 l0_1 x4_3).f2)]] (by rfl) rfl rfl zm ?_
        with_reducible refine (spec_l11Alike.calls k3 _ _ ((rd_T50 l0_1 x3_2).f0) ((rd_T50 l0_1 x3_2).f1) ((rd_T50 l0_1 x3_2).f2) _ _ ((rd_T50 l0_1 x4_3).f0) ((rd_T50 l0_1 x4_3).f1) ((rd_T50 l0_1 x4_3).f2) true _ ?side1 ?side2 ?side3 ?side4 A24.out).mono ?_
        (case side1 => repeat (first | exact (Kd.C_below HR296_0.out HB.out) | (with_reducible refine Kd.C_alloc ?_ _) | (with_reducible refine Kd.C_drewN ?_ _) | (with_reducible refine Kd.C_drew ?_)))
        (case side2 => exact HC296_0.out)
        (case side3 => repeat (first | exact (Kd.C_below HR297_0.out HB.out) | (with_reducible refine Kd.C_alloc ?_ _) | (with_reducible refine Kd.C_drewN ?_ _) | (with_reducible refine Kd.C_drew ?_)))
        (case side4 => exact HC297_0.out)
        rintro e w27 ⟨rfl, hb⟩
        refine ⟨_, rfl, ?_⟩
        have _ := aM (blk_below (g := gb291) (o := .cells #[.slice A0_0 l0_0.length c0_0, .slice (some ad294) l0_1.length c0_1] 31 (0, 0)) (mB_ BK291.out) hb)
        have _ := aM (below_step (zs GE291.out) hb)
        clear BK291
        clear HB
        rename_i BK291 HB
        (try clear hb)
        (try clear hb2)
        (try clear hk)
        (try clear hi)
        refine hK.out _ _ ⟨(blk_cell BK291.out 0).trans rfl, (blk_cell BK291.out 1).trans rfl, (zk HB.out hw296_0), (zk HB.out hw296_1), (zk HB.out hw296_2), (zk HB.out hw297_0), (zk HB.out hw297_1), (zk HB.out hw297_2)⟩ (fun hHeld => ?_)
        clear hK K
        refine norm_ (a' := ?_) ?_ ?_
        rotate_left
        ·show Act.put _ (some 45) _ = _
         simp only [Act.put, xA, xB, xC, i64_w, i32_w]
         rfl
        refine done_ (done_of HT_.out (by kernel_rfl)) ?_
        try go_wp2
        go_ret
        exact ⟨zw, zs GE291.out⟩
       replace c25 := Bool.eq_false_iff.mpr c25
       subst c25
       have H1 : (spec_IsPuzzle.l1 k3 x3_2 (wrap64 (x4_3 + 1)) l0_0 l0_1) = some r := by rw [if_neg (show ¬ (false = true) by decide)] at H; exact H
       clear H
       have H := H1
       clear H1
       have H' := aM H
       clear H
       try go_wp2
       have _ := aM (blk_drew BK291.out)
       have _ := aM (below_drew1 HB.out)
       clear BK291
       clear HB
       rename_i BK291 HB
       have p296 : 0 ≤ (x3_2 : Int) := of_decide_eq_true za
       have q296 : x3_2 < (l0_1.length : Int) := of_decide_eq_true za
       obtain ⟨ad296, A296_0, c296_0, e296, hx296_0, hx296_1, hx296_2, hl296_0, hi296_0⟩ := at_T50 HR0_1.out x3_2 p296 q296
       have hw296_2 := hx296_2
       have hw296_1 := hx296_1
       have hw296_0 := hx296_0
       obtain rfl : ad294 = ad296 := (by injection e296)
       replace hx296_0 := zk HB.out hx296_0
       replace hx296_1 := zk HB.out hx296_1
       replace hx296_2 := zk HB.out hx296_2
       have HR296_0 := aM hi296_0
       have HC296_0 := aM hl296_0
       clear hi296_0 hl296_0
       replace p296 := eq_true p296
       replace q296 := eq_true q296
       have p297 : 0 ≤ (x4_3 : Int) := of_decide_eq_true za
       have q297 : x4_3 < (l0_1.length : Int) := of_decide_eq_true za
       obtain ⟨ad297, A297_0, c297_0, e297, hx297_0, hx297_1, hx297_2, hl297_0, hi297_0⟩ := at_T50 HR0_1.out x4_3 p297 q297
       have hw297_2 := hx297_2
       have hw297_1 := hx297_1
       have hw297_0 := hx297_0
       obtain rfl : ad294 = ad297 := (by injection e297)
       replace hx297_0 := zk HB.out hx297_0
       replace hx297_1 := zk HB.out hx297_1
       replace hx297_2 := zk HB.out hx297_2
       have HR297_0 := aM hi297_0
       have HC297_0 := aM hl297_0
       clear hi297_0 hl297_0
       replace p297 := eq_true p297
       replace q297 := eq_true q297
       refine start_ (n := 11) (S := fun w' => w'.cell? ⟨gb291, 0, none⟩ = some (.slice A0_0 l0_0.length c0_0) ∧ w'.cell? ⟨gb291, 1, none⟩ = some (.slice (some ad294) l0_1.length c0_1) ∧ w'.cell? (ad294.add ((x3_2).toNat * 3)) = some (.slice A296_0 ((rd_T50 l0_1 x3_2).f0).length c296_0) ∧ w'.cell? ⟨(ad294.add ((x3_2).toNat * 3)).block, (ad294.add ((x3_2).toNat * 3)).off + 1, none⟩ = some (.int .i64 ((rd_T50 l0_1 x3_2).f1)) ∧ w'.cell? ⟨(ad294.add ((x3_2).toNat * 3)).block, (ad294.add ((x3_2).toNat * 3)).off + 2, none⟩ = some (.bool ((rd_T50 l0_1 x3_2).f2)) ∧ w'.cell? (ad294.add ((x4_3).toNat * 3)) = some (.slice A297_0 ((rd_T50 l0_1 x4_3).f0).length c297_0) ∧ w'.cell? ⟨(ad294.add ((x4_3).toNat * 3)).block, (ad294.add ((x4_3).toNat * 3)).off + 1, none⟩ = some (.int .i64 ((rd_T50 l0_1 x4_3).f1)) ∧ w'.cell? ⟨(ad294.add ((x4_3).toNat * 3)).block, (ad294.add ((x4_3).toNat * 3)).off + 2, none⟩ = some (.bool ((rd_T50 l0_1 x4_3).f2))) (ds := []) zA66 (by kernel_rfl) rfl rfl ⟨(blk_cell BK291.out 0).trans rfl, (blk_cell BK291.out 1).trans rfl, (zk HB.out hw296_0), (zk HB.out hw296_1), (zk HB.out hw296_2), (zk HB.out hw297_0), (zk HB.out hw297_1), (zk HB.out hw297_2)⟩ (fun hHeld => ?_); refine with_tabW spec_IsPuzzle.tab11 spec_IsPuzzle.bits11 (fun HT_ HW_ => ?_)
       generalize wr.drew = w28 at BK291 HB HR296_0 HR297_0 hx296_0 hx296_1 hx296_2 hx297_0 hx297_1 hx297_2 hHeld ⊢
       refine zP 0 (some 35) zA67 ?_
       refine zP 2 (some 37) zA68 ?_
       refine zP 5 (some 40) zA69 ?_
       refine zP 7 (some 42) zA70 ?_
       refine zU8 1 (some 36) zA71 hHeld ?_
       refine zP 3 (some 38) zA72 ?_
       refine zU8 4 (some 39) zA73 hHeld ?_
       refine zU8 6 (some 41) zA74 hHeld ?_
       refine zP 8 (some 43) zA75 ?_
       refine zU8 9 (some 44) zA76 hHeld ?_
       refine one_ (i := 10) (N := some 45) zA77 rfl rfl (one_of HT_.out (by kernel_rfl)) (by decide) (fun K hK => ?_)
       refine goes_ Tryz.func56 (by kernel_rfl) rfl #[.agg #[.slice A296_0 ((rd_T50 l0_1 x3_2).f0).length c296_0, .int .i64 ((rd_T50 l0_1 x3_2).f1), .bool ((rd_T50 l0_1 x3_2).f2)], .agg #[.slice A297_0 ((rd_T50 l0_1 x4_3).f0).length c297_0, .int .i64 ((rd_T50 l0_1 x4_3).f1), .bool ((rd_T50 l0_1 x4_3).f2)]] (by rfl) rfl rfl zm ?_
       with_reducible refine (spec_l11Alike.calls k3 _ _ ((rd_T50 l0_1 x3_2).f0) ((rd_T50 l0_1 x3_2).f1) ((rd_T50 l0_1 x3_2).f2) _ _ ((rd_T50 l0_1 x4_3).f0) ((rd_T50 l0_1 x4_3).f1) ((rd_T50 l0_1 x4_3).f2) false _ ?side1 ?side2 ?side3 ?side4 A24.out).mono ?_
       (case side1 => repeat (first | exact (Kd.C_below HR296_0.out HB.out) | (with_reducible refine Kd.C_alloc ?_ _) | (with_reducible refine Kd.C_drewN ?_ _) | (with_reducible refine Kd.C_drew ?_)))
       (case side2 => exact HC296_0.out)
       (case side3 => repeat (first | exact (Kd.C_below HR297_0.out HB.out) | (with_reducible refine Kd.C_alloc ?_ _) | (with_reducible refine Kd.C_drewN ?_ _) | (with_reducible refine Kd.C_drew ?_)))
       (case side4 => exact HC297_0.out)
       rintro e w29 ⟨rfl, hb⟩
       refine ⟨_, rfl, ?_⟩
       have _ := aM (blk_below (g := gb291) (o := .cells #[.slice A0_0 l0_0.length c0_0, .slice (some ad294) l0_1.length c0_1] 31 (0, 0)) (mB_ BK291.out) hb)
       have _ := aM (below_step (zs GE291.out) hb)
       clear BK291
       clear HB
       rename_i BK291 HB
       (try clear hb)
       (try clear hb2)
       (try clear hk)
       (try clear hi)
       refine hK.out _ _ ⟨(blk_cell BK291.out 0).trans rfl, (blk_cell BK291.out 1).trans rfl, (zk HB.out hw296_0), (zk HB.out hw296_1), (zk HB.out hw296_2), (zk HB.out hw297_0), (zk HB.out hw297_1), (zk HB.out hw297_2)⟩ (fun hHeld => ?_)
       clear hK K
       refine norm_ (a' := ?_) ?_ ?_
       rotate_left
       ·show Act.put _ (some 45) _ = _
        simp only [Act.put, xA, xB, xC, i64_w, i32_w]
        rfl
       refine done_ (done_of HT_.out (by kernel_rfl)) ?_
       try go_wp2
       go_roundg k3
       case measure => have := HJ1.out; have := HK2.out; have := HK3.out; omega
       case rel => exact ⟨(wrap64 (x4_3 + 1)), zr, H', ⟨by have := HJ1.out; have := HK2.out; have := HK3.out; omega⟩, ⟨mB_ BK291.out⟩, ⟨zs GE291.out⟩⟩
mutual
def spec_l04Text.l0 : Nat → Int → Int → List (S82) → List Int → Int → Option (ByteArray)
 | 0, _, _, _, _, _ => none
 | k + 1, x3, x4, x5, x6, x7 => if x7 < x4 then (if x7 > 0 then (if x6.length < 140737488355328 then (spec_l04Text.j1 k x3 x4 x5 (x6 ++ [47]) x7) else (none)) else (spec_l04Text.j1 k x3 x4 x5 x6 x7)) else (some (strOfNums x6))
def spec_l04Text.j1 : Nat → Int → Int → List (S82) → List Int → Int → Option (ByteArray)
 | 0, _, _, _, _, _ => none
 | k + 1, x3, x4, x5, x6, x7 => spec_l04Text.l1 k x3 x4 x5 x6 x7 0
def spec_l04Text.l1 : Nat → Int → Int → List (S82) → List Int → Int → Int → Option (ByteArray)
 | 0, _, _, _, _, _, _ => none
 | k + 1, x3, x4, x5, x6, x7, x8 => if x8 < x3 then ((spec_l02Index.f k x5 x8 x7).bind fun t310 => (if t310 ≥ 0 then (if x6.length < 140737488355328 then (spec_l04Text.l1 k x3 x4 x5 (x6 ++ [35]) x7 (wrap64 (x8 + 1))) else (none)) else (if x6.length < 140737488355328 then (spec_l04Text.l1 k x3 x4 x5 (x6 ++ [46]) x7 (wrap64 (x8 + 1))) else (none)))) else (spec_l04Text.l0 k x3 x4 x5 x6 (wrap64 (x7 + 1)))
end
def spec_l04Text.f (k : Nat) (l0 : List (S82)) : Option (ByteArray) := (spec_l04Size.f k l0).bind fun bt299 => ((spec_l02Normal.f k l0).bind fun t301 => (spec_l04Text.l0 k bt299.1 bt299.2 t301 (([] : List Int)) 0))
theorem spec_l04Text.calls (k : Nat) (A0 : Option Addr) (c0 : Nat) (l0 : List (S82)) (r : ByteArray) (w : World) (hr0 : Kd.C k82 w A0 l0.length l0) (hc0 : l0.length ≤ c0) (h : spec_l04Text.f k l0 = some r) :
  Calls Tryz.prog 26 #[.slice A0 l0.length c0] w fun e w' => e = .returned (.string r) ∧ Below w.heap.size w w' := by
 have hu82 := Tryz.underlying82
 have HR0 := aM hr0
 have HC0 := aM hc0
 clear hr0 hc0
 have HB := aM (Below.refl w.heap.size w)
 have H : ((spec_l04Size.f k l0).bind fun bt299 => ((spec_l02Normal.f k l0).bind fun t301 => (spec_l04Text.l0 k bt299.1 bt299.2 t301 (([] : List Int)) 0))) = some r := h
 clear h
 replace H := Option.bind_eq_some_iff.mp H
 obtain ⟨⟨t299, t300⟩, A20, H⟩ := H
 replace H : ((spec_l02Normal.f k l0).bind fun t301 => (spec_l04Text.l0 k t299 t300 t301 (([] : List Int)) 0)) = some r := H
 have A2 := aM A20
 clear A20
 replace H := Option.bind_eq_some_iff.mp H
 obtain ⟨t301, A30, H⟩ := H
 replace H : (spec_l04Text.l0 k t299 t300 t301 (([] : List Int)) 0) = some r := H
 have A3 := aM A30
 clear A30
 obtain ⟨y304, hy304⟩ : ∃ y_ : List Int, y_ = (([] : List Int)) := ⟨_, rfl⟩
 replace H : (spec_l04Text.l0 k t299 t300 t301 y304 0) = some r := zy H hy304
 have Ny304 := aM hy304
 clear hy304
 have H' := aM H
 clear H
 go_enter Tryz.func26, Tryz.ntmps26
 go_wp2_with (first | ((with_reducible refine gate_callee (f := 57) rfl ?_); refine goesL_ (some 11) rfl rfl Tryz.func57 (by kernel_rfl) rfl #[.slice A0 l0.length c0] rfl zm ?_; (with_reducible refine (spec_l04Size.calls k _ _ l0 t299 t300 _ ?side1 ?side2 A2.out).mono ?_); (case side1 => repeat (first | exact HR0.out | (with_reducible refine Kd.C_alloc ?_ _) | (with_reducible refine Kd.C_drewN ?_ _) | (with_reducible refine Kd.C_drew ?_))); (case side2 => exact HC0.out); rintro e w4 ⟨rfl, hb⟩; refine ⟨_, rfl, ?_⟩; have _ := aM (below_step zb hb); clear HB; rename_i HB; (try clear hb); (try clear hb2); (try clear hk); (try clear hi)) | ((with_reducible refine gate_callee (f := 58) rfl ?_); refine goesL_ (some 15) rfl rfl Tryz.func58 (by kernel_rfl) rfl #[.slice A0 l0.length c0] rfl zm ?_; (with_reducible refine (spec_l02Normal.calls k _ _ l0 t301 _ ?side1 ?side2 A3.out).mono ?_); (case side1 => repeat (first | exact (Kd.C_below HR0.out HB.out) | (with_reducible refine Kd.C_alloc ?_ _) | (with_reducible refine Kd.C_drewN ?_ _) | (with_reducible refine Kd.C_drew ?_))); (case side2 => exact HC0.out); rintro e w5 ⟨v302, rfl, ho0, hb⟩; refine ⟨_, rfl, ?_⟩; have _ := aM (Kd.R_lower ho0 (below_size zb)); have _ := aM (below_step zb hb); clear HB; rename_i HO303 HB; (try clear hb); (try clear hb2); (try clear hk); (try clear hi); (try clear ho0)) | ((with_reducible refine gate_dst (N := 16) rfl ?_); refine Kd.R_lit (Kd.int .u8) _ 5 ?hg (N := 16) ?hd (xs := ([] : List Int)) (inner := []) (ok := fun _ => True) (okp := fun _ => True) ?hr ?hp (fun _ hk => hk) trivial (Below.refl _ _) (Nat.le_refl _) (by simp) ?_; (case hd => rfl); (case hg => rfl); (case hr => first | (go_simp; done) | (go_simp; rfl)); (case hp => exact (Reps.none _ _)); intro v305 w6 ho7 hb hg_ hnew_; clear hg_ hnew_; (first | rw [← Ny304.out] at ho7 | (simp only [Int.reduceToNat] at ho7; rw [← Ny304.out] at ho7)); have _ := aM (Kd.R_below (mR_ HO303.out) hb); have _ := aM (Kd.R_lower ho7 (below_size zb)); have _ := aM (below_step zb hb); clear HO303 HB; rename_i HO303 HO306 HB; clear hb ho7))
 go_loopg [6, 7] k (fun kq v6 v7 w' => ∃ (x6_1 : List Int) (x7_1 : Int), v7 = .int .i64 x7_1 ∧ Aside0 (spec_l04Text.l0 kq t299 t300 t301 x6_1 x7_1 = some r) ∧ Aside0 (kq ≤ k) ∧ Aside0 (Kd.R k82 82 w' w.heap.size (fun _ => True) v302 t301) ∧ Aside0 (Kd.R (Kd.int .u8) 5 w' w.heap.size (fun _ => True) v6 x6_1) ∧ Aside0 (Below w.heap.size w w'))
 case atStart => exact ⟨(y304), (0), zr, H', ⟨Nat.le_refl _⟩, ⟨mR_ HO303.out⟩, ⟨mR_ HO306.out⟩, ⟨zb⟩⟩
 case round =>
  clear H'
  try clear c2
  try clear p2
  try clear c5
  obtain ⟨x6_1, x7_1, rfl, HA, HK1, HO_5, HO_6, HB⟩ := hrel
  cases gk with
  | zero => exact absurd HA.out (by simp [spec_l04Text.l0])
  | succ k1 =>
   have H := HA.out
   clear HA
   simp only [spec_l04Text.l0] at H
   by_cases c8 : x7_1 < t300
   rotate_left
   ·rw [if_neg c8] at H
    have c8b0 : decide (x7_1 < t300) = false := decide_eq_false c8
    clear c8
    obtain rfl := Option.some.inj H
    have hcv24 := own_string (P := Tryz.prog) Tryz.underlying39 Tryz.underlying5 Tryz.underlying9 (Kd.own_of_R HO_6.out)
    go_wp2
    go_ret
    exact ⟨zw, zb⟩
   rw [if_pos c8] at H
   have c8b0 : decide (x7_1 < t300) = true := decide_eq_true c8
   clear c8
   have HC9 := aM H
   clear H
   go_upto_if 23 with (fail)
   go_cut [6] (fun v6 wc => ∃ (kq : Nat) (x6_8 : List Int), Aside0 (spec_l04Text.j1 kq t299 t300 t301 x6_8 x7_1 = some r) ∧ Aside0 (kq ≤ k1) ∧ Aside0 (Kd.R k82 82 wc w.heap.size (fun _ => True) v302 t301) ∧ Aside0 (Kd.R (Kd.int .u8) 5 wc w.heap.size (fun _ => True) v6 x6_8) ∧ Aside0 (Below w.heap.size w wc))
   case first =>
    have H := HC9.out
    clear HC9
    by_cases c10 : x7_1 > 0
    rotate_left
    ·rw [if_neg c10] at H
     have c10b0 : decide (0 < x7_1) = false := decide_eq_false c10
     clear c10
     (first | rw [c10b0] | (simp only [i64_w, i32_w]; rw [c10b0]) | skip)
     have H' := aM H
     clear H
     go_wp2
     go_meet
     case rel => exact ⟨_, (x6_1), H', ⟨by have := HK1.out; first | omega | exact Nat.le_refl _⟩, ⟨mR_ HO_5.out⟩, ⟨mR_ HO_6.out⟩, ⟨zb⟩⟩
    rw [if_pos c10] at H
    have c10b0 : decide (0 < x7_1) = true := decide_eq_true c10
    clear c10
    (first | rw [c10b0] | (simp only [i64_w, i32_w]; rw [c10b0]) | skip)
    by_cases c11 : x6_1.length < 140737488355328
    rotate_left
    ·rw [if_neg c11] at H
     exact absurd H (by simp)
    rw [if_pos c11] at H
    have LMc11 := aM c11
    clear c11
    obtain ⟨y307, hy307⟩ : ∃ y_ : List Int, y_ = (x6_1 ++ [47]) := ⟨_, rfl⟩
    replace H : (spec_l04Text.j1 k1 t299 t300 t301 y307 x7_1) = some r := zy H hy307
    have Ny307 := aM hy307
    clear hy307
    have H' := aM H
    clear H
    go_wp2_with (first | ((with_reducible refine gate_builtin (b := .append) (xs := #[.tmp 24, .tmp 25]) rfl ?_); at_builtin; refine Kd.R_append (Kd.int .u8) (w0 := w) w.heap.size rfl (.tmp 24) (.tmp 25) 39 5 (.int .u8 0) 1 rfl Tryz.underlying39 info5 rfl (by decide) (by omega) u6 x6_1 47 [.int .u8 47] (fun _ => True) (fun _ => False) rfl rfl ?aP (fun _ hk => hk.elim) ?aF ?aO ?aB ?aS ?aL ?_; (case aP => exact rfl); (case aB => exact zb); (case aF => exact (fun _ _ => trivial)); (case aO => exact (mR_ HO_6.out)); (case aS => exact (below_size zb)); (case aL => have := LMc11.out; omega); intro v308 w12 ho hb hg hat; rw [← Ny307.out] at ho; have _ := aM (Kd.R_over' (mR_ HO_5.out) (Kd.R_typed (mR_ HO_6.out)) (by decide) hg); have _ := aM (hb); have _ := aM (ho); clear HO_5 HB HO_6; rename_i HO_5 HB HO309; clear ho hb hg hat))
    go_meet
    case rel => exact ⟨_, (y307), H', ⟨by have := HK1.out; first | omega | exact Nat.le_refl _⟩, ⟨mR_ HO_5.out⟩, ⟨mR_ HO309.out⟩, ⟨zb⟩⟩
   case rest =>
    clear HC9
    try clear c1
    try clear c2
    try clear p2
    try clear c5
    try clear c8
    try clear c8b0
    try clear c10
    try clear c10b0
    try clear c11
    try clear p2
    obtain ⟨kq, x6_8, HA, HJ8, HO_5, HO_6, HB⟩ := hcut
    cases kq with
    | zero => exact absurd HA.out (by simp [spec_l04Text.j1])
    | succ kj8 =>
     have H := HA.out
     clear HA
     simp only [spec_l04Text.j1] at H
     have H' := aM H
     clear H
     go_wp2
     go_loopg [6, 8] kj8 (fun kq v6 v8 w' => ∃ (x6_3 : List Int) (x8_3 : Int), v8 = .int .i64 x8_3 ∧ Aside0 (spec_l04Text.l1 kq t299 t300 t301 x6_3 x7_1 x8_3 = some r) ∧ Aside0 (kq ≤ kj8) ∧ Aside0 (Kd.R k82 82 w' w.heap.size (fun _ => True) v302 t301) ∧ Aside0 (Kd.R (Kd.int .u8) 5 w' w.heap.size (fun _ => True) v6 x6_3) ∧ Aside0 (Below w.heap.size w w'))
     case atStart => exact ⟨(x6_8), (0), zr, H', ⟨Nat.le_refl _⟩, ⟨mR_ HO_5.out⟩, ⟨mR_ HO_6.out⟩, ⟨zb⟩⟩
     case round =>
      clear H'
      try clear c1
      try clear c2
      try clear p2
      try clear c5
      try clear c8
      try clear c8b0
      try clear c10
      try clear c10b0
      try clear c11
      try clear p2
      obtain ⟨x6_3, x8_3, rfl, HA, HK3, HO_5, HO_6, HB⟩ := hrel
      cases gk with
      | zero => exact absurd HA.out (by simp [spec_l04Text.l1])
      | succ k3 =>
       have H := HA.out
       clear HA
       simp only [spec_l04Text.l1] at H
       by_cases c13 : x8_3 < t299
       rotate_left
       ·rw [if_neg c13] at H
        have c13b0 : decide (x8_3 < t299) = false := decide_eq_false c13
        clear c13
        have H' := aM H
        clear H
        go_wp2
        go_roundg k3
        case measure => have := HK1.out; have := HJ8.out; have := HK3.out; omega
        case rel => exact ⟨(x6_3), (wrap64 (x7_1 + 1)), zr, H', ⟨by have := HK1.out; have := HJ8.out; have := HK3.out; omega⟩, ⟨mR_ HO_5.out⟩, ⟨mR_ HO_6.out⟩, ⟨zb⟩⟩
       rw [if_pos c13] at H
       have c13b0 : decide (x8_3 < t299) = true := decide_eq_true c13
       clear c13
       replace H := Option.bind_eq_some_iff.mp H
       obtain ⟨t310, A140, H⟩ := H
       replace H : (if t310 ≥ 0 then (if x6_3.length < 140737488355328 then (spec_l04Text.l1 k3 t299 t300 t301 (x6_3 ++ [35]) x7_1 (wrap64 (x8_3 + 1))) else (none)) else (if x6_3.length < 140737488355328 then (spec_l04Text.l1 k3 t299 t300 t301 (x6_3 ++ [46]) x7_1 (wrap64 (x8_3 + 1))) else (none))) = some r := H
       have A14 := aM A140
       clear A140
       by_cases c15 : t310 ≥ 0
       ·rw [if_pos c15] at H
        have c15b0 : decide (0 ≤ t310) = true := decide_eq_true c15
        clear c15
        by_cases c16 : x6_3.length < 140737488355328
        rotate_left
        ·rw [if_neg c16] at H
         exact absurd H (by simp)
        rw [if_pos c16] at H
        have LMc16 := aM c16
        clear c16
        obtain ⟨y311, hy311⟩ : ∃ y_ : List Int, y_ = (x6_3 ++ [35]) := ⟨_, rfl⟩
        replace H : (spec_l04Text.l1 k3 t299 t300 t301 y311 x7_1 (wrap64 (x8_3 + 1))) = some r := zy H hy311
        have Ny311 := aM hy311
        clear hy311
        have H' := aM H
        clear H
        obtain ⟨Ao17, co17, eo17⟩ := Kd.R_slice HO_5.out
        subst eo17
        go_wp2_with (first | ((with_reducible refine gate_callee (f := 59) rfl ?_); refine goesL_ (some 36) rfl rfl Tryz.func59 (by kernel_rfl) rfl #[.slice Ao17 t301.length co17, .agg #[.int .i64 x8_3, .int .i64 x7_1]] rfl zm ?_; (with_reducible refine (spec_l02Index.calls k3 _ _ t301 x8_3 x7_1 t310 _ ?side1 ?side2 A14.out).mono ?_); (case side1 => exact zc HO_5.out); (case side2 => exact (Kd.R_reads' HO_5.out).2.1); rintro e w18 ⟨rfl, hb⟩; refine ⟨_, rfl, ?_⟩; have _ := aM (Kd.R_below (mR_ HO_5.out) hb); have _ := aM (Kd.R_below (mR_ HO_6.out) hb); have _ := aM (below_step zb hb); clear HO_5 HO_6 HB; rename_i HO_5 HO_6 HB; (try clear hb); (try clear hb2); (try clear hk); (try clear hi)) | ((with_reducible refine gate_builtin (b := .append) (xs := #[.tmp 38, .tmp 39]) rfl ?_); at_builtin; refine Kd.R_append (Kd.int .u8) (w0 := w) w.heap.size rfl (.tmp 38) (.tmp 39) 39 5 (.int .u8 0) 1 rfl Tryz.underlying39 info5 rfl (by decide) (by omega) u6 x6_3 35 [.int .u8 35] (fun _ => True) (fun _ => False) rfl rfl ?aP (fun _ hk => hk.elim) ?aF ?aO ?aB ?aS ?aL ?_; (case aP => exact rfl); (case aB => exact zb); (case aF => exact (fun _ _ => trivial)); (case aO => exact (mR_ HO_6.out)); (case aS => exact (below_size zb)); (case aL => have := LMc16.out; omega); intro v312 w19 ho hb hg hat; rw [← Ny311.out] at ho; have _ := aM (Kd.R_over' (mR_ HO_5.out) (Kd.R_typed (mR_ HO_6.out)) (by decide) hg); have _ := aM (hb); have _ := aM (ho); clear HO_5 HB HO_6; rename_i HO_5 HB HO313; clear ho hb hg hat))
        go_roundg k3
        case measure => have := HK1.out; have := HJ8.out; have := HK3.out; omega
        case rel => exact ⟨(y311), (wrap64 (x8_3 + 1)), zr, H', ⟨by have := HK1.out; have := HJ8.out; have := HK3.out; omega⟩, ⟨mR_ HO_5.out⟩, ⟨mR_ HO313.out⟩, ⟨zb⟩⟩
       rw [if_neg c15] at H
       have c15b0 : decide (0 ≤ t310) = false := decide_eq_false c15
       clear c15
       by_cases c20 : x6_3.length < 140737488355328
       rotate_left
       ·rw [if_neg c20] at H
        exact absurd H (by simp)
       rw [if_pos c20] at H
       have LMc20 := aM c20
       clear c20
       obtain ⟨y314, hy314⟩ : ∃ y_ : List Int, y_ = (x6_3 ++ [46]) := ⟨_, rfl⟩
       replace H : (spec_l04Text.l1 k3 t299 t300 t301 y314 x7_1 (wrap64 (x8_3 + 1))) = some r := zy H hy314
       have Ny314 := aM hy314
       clear hy314
       have H' := aM H
       clear H
       obtain ⟨Ao21, co21, eo21⟩ := Kd.R_slice HO_5.out
       subst eo21
       go_wp2_with (first | ((with_reducible refine gate_callee (f := 59) rfl ?_); refine goesL_ (some 36) rfl rfl Tryz.func59 (by kernel_rfl) rfl #[.slice Ao21 t301.length co21, .agg #[.int .i64 x8_3, .int .i64 x7_1]] rfl zm ?_; (with_reducible refine (spec_l02Index.calls k3 _ _ t301 x8_3 x7_1 t310 _ ?side1 ?side2 A14.out).mono ?_); (case side1 => exact zc HO_5.out); (case side2 => exact (Kd.R_reads' HO_5.out).2.1); rintro e w22 ⟨rfl, hb⟩; refine ⟨_, rfl, ?_⟩; have _ := aM (Kd.R_below (mR_ HO_5.out) hb); have _ := aM (Kd.R_below (mR_ HO_6.out) hb); have _ := aM (below_step zb hb); clear HO_5 HO_6 HB; rename_i HO_5 HO_6 HB; (try clear hb); (try clear hb2); (try clear hk); (try clear hi)) | ((with_reducible refine gate_builtin (b := .append) (xs := #[.tmp 41, .tmp 42]) rfl ?_); at_builtin; refine Kd.R_append (Kd.int .u8) (w0 := w) w.heap.size rfl (.tmp 41) (.tmp 42) 39 5 (.int .u8 0) 1 rfl Tryz.underlying39 info5 rfl (by decide) (by omega) u6 x6_3 46 [.int .u8 46] (fun _ => True) (fun _ => False) rfl rfl ?aP (fun _ hk => hk.elim) ?aF ?aO ?aB ?aS ?aL ?_; (case aP => exact rfl); (case aB => exact zb); (case aF => exact (fun _ _ => trivial)); (case aO => exact (mR_ HO_6.out)); (case aS => exact (below_size zb)); (case aL => have := LMc20.out; omega); intro v315 w23 ho hb hg hat; rw [← Ny314.out] at ho; have _ := aM (Kd.R_over' (mR_ HO_5.out) (Kd.R_typed (mR_ HO_6.out)) (by decide) hg); have _ := aM (hb); have _ := aM (ho); clear HO_5 HB HO_6; rename_i HO_5 HB HO316; clear ho hb hg hat))
       go_roundg k3
       case measure => have := HK1.out; have := HJ8.out; have := HK3.out; omega
       case rel => exact ⟨(y314), (wrap64 (x8_3 + 1)), zr, H', ⟨by have := HK1.out; have := HJ8.out; have := HK3.out; omega⟩, ⟨mR_ HO_5.out⟩, ⟨mR_ HO316.out⟩, ⟨zb⟩⟩
def spec_l01Dec.f : Nat → Int → Option (ByteArray)
 | 0, _ => none
 | k + 1, a0 => if a0 < 10 then (some (strOfNums (([(wrap64 (48 + a0)) % 256] : List Int)))) else ((spec_l01Dec.f k (wrap64 (Int.tdiv a0 10))).bind fun t320 => ((some (([(wrap64 (48 + (Int.tmod a0 10))) % 256] : List Int) : List Int)).bind fun y321 => (if t320.size + (strOfNums y321).size ≤ 9223372036854775807 then (some (t320 ++ (strOfNums y321))) else (none))))
def spec_l01Dec.T3 : Bool × List (List Nat × List Nat) := (true, [([], []), ([0], [0]), ([1], [1]), ([], []), ([3], [3]), ([4], [4]), ([5], [5]), ([6], [6]), ([7], [7]), ([2, 8], [2, 8]), ([9, 2, 0, 1, 2, 3, 4, 5, 6, 7, 8, 9], [9])])
def spec_l01Dec.B3 : List Nat := [0, 1, 3, 0, 8, 24, 56, 120, 248, 511, 1023]
theorem spec_l01Dec.tab3 : rtab .any (opsOf Tryz.f27 3) = spec_l01Dec.T3 := by kernel_rfl
theorem spec_l01Dec.bits3 : waitsOk spec_l01Dec.T3.2 spec_l01Dec.B3 = true := by kernel_rfl
theorem spec_l01Dec.calls (k : Nat) : ∀ (a0 : Int) (r : ByteArray) (w : World) (h : spec_l01Dec.f k a0 = some r),
  Calls Tryz.prog 27 #[.int .i64 a0] w fun e w' => e = .returned (.string r) ∧ Below w.heap.size w w' := by
 induction k using Nat.strongRecOn with
 | _ k ih =>
 intro a0 r w h
 cases k with
 | zero => exact absurd h (by simp [spec_l01Dec.f])
 | succ k =>
 simp only [spec_l01Dec.f] at h
 have HB := aM (Below.refl w.heap.size w)
 have H : (if a0 < 10 then (some (strOfNums (([(wrap64 (48 + a0)) % 256] : List Int)))) else ((spec_l01Dec.f k (wrap64 (Int.tdiv a0 10))).bind fun t320 => ((some (([(wrap64 (48 + (Int.tmod a0 10))) % 256] : List Int) : List Int)).bind fun y321 => (if t320.size + (strOfNums y321).size ≤ 9223372036854775807 then (some (t320 ++ (strOfNums y321))) else (none))))) = some r := h
 clear h
 by_cases c2 : a0 < 10
 ·rw [if_pos c2] at H
  have c2b0 : decide (a0 < 10) = true := decide_eq_true c2
  clear c2
  obtain ⟨y317, hy317⟩ : ∃ y_ : List Int, y_ = (([(wrap64 (48 + a0)) % 256] : List Int)) := ⟨_, rfl⟩
  replace H : (some (strOfNums y317)) = some r := zy H hy317
  have Ny317 := aM hy317
  clear hy317
  obtain rfl := Option.some.inj H
  go_enter Tryz.func27, Tryz.ntmps27
  go_wp2_with (first | ((with_reducible refine gate_dst (N := 8) rfl ?_); refine Kd.R_lit (Kd.int .u8) _ 5 ?hg (N := 8) ?hd (xs := ([(wrap64 (48 + a0)) % 256] : List Int)) (inner := [.int .u8 ((wrap64 (48 + a0)) % 256)]) (ok := fun _ => True) (okp := fun _ => True) ?hr ?hp (fun _ hk => hk) trivial (Below.refl _ _) (Nat.le_refl _) (by simp) ?_; (case hd => rfl); (case hg => rfl); (case hr => first | (go_simp; done) | (go_simp; rfl)); (case hp => exact (Reps.one (show Kd.M (Kd.int .u8) _ _ _ ((wrap64 (48 + a0)) % 256) [.int .u8 ((wrap64 (48 + a0)) % 256)] from rfl) (Reps.none _ _))); intro v318 w3 ho4 hb hg_ hnew_; clear hg_ hnew_; (first | rw [← Ny317.out] at ho4 | (simp only [Int.reduceToNat] at ho4; rw [← Ny317.out] at ho4)); have _ := aM (Kd.R_lower ho4 (below_size zb)); have _ := aM (below_step zb hb); clear HB; rename_i HO319 HB; clear hb ho4; have hcv5 := own_string (P := Tryz.prog) Tryz.underlying39 Tryz.underlying5 Tryz.underlying9 (Kd.own_of_R HO319.out)))
  go_ret
  exact ⟨zw, zb⟩
 rw [if_neg c2] at H
 have c2b0 : decide (a0 < 10) = false := decide_eq_false c2
 clear c2
 replace H := Option.bind_eq_some_iff.mp H
 obtain ⟨t320, A60, H⟩ := H
 replace H : ((some (([(wrap64 (48 + (Int.tmod a0 10))) % 256] : List Int) : List Int)).bind fun y321 => (if t320.size + (strOfNums y321).size ≤ 9223372036854775807 then (some (t320 ++ (strOfNums y321))) else (none))) = some r := H
 have A6 := aM A60
 clear A60
 obtain ⟨y321, hy321⟩ : ∃ y_ : List Int, y_ = (([(wrap64 (48 + (Int.tmod a0 10))) % 256] : List Int)) := ⟨_, rfl⟩
 replace H : (if t320.size + (strOfNums y321).size ≤ 9223372036854775807 then (some (t320 ++ (strOfNums y321))) else (none)) = some r := zy H hy321
 have Ny321 := aM hy321
 clear hy321
 by_cases c7 : t320.size + (strOfNums y321).size ≤ 9223372036854775807
 rotate_left
 ·rw [if_neg c7] at H
  exact absurd H (by simp)
 rw [if_pos c7] at H
 have c7b0 := eq_true c7
 have c7b1 : decide (t320.size + (strOfNums y321).size ≤ 9223372036854775807) = true := decide_eq_true c7
 try have c7b2 : (9223372036854775807 < t320.size + (strOfNums y321).size) = False := eq_false (Nat.not_lt.2 c7)
 obtain rfl := Option.some.inj H
 go_enter Tryz.func27, Tryz.ntmps27
 try go_wp2
 have _ := aM (below_drew1 HB.out)
 clear HB
 rename_i HB
 refine start_ (n := 11) (S := fun w' => True) (ds := []) zA66 (by kernel_rfl) rfl rfl trivial (fun hHeld => ?_); refine with_tabW spec_l01Dec.tab3 spec_l01Dec.bits3 (fun HT_ HW_ => ?_)
 generalize w.drew = w8 at HB hHeld ⊢
 refine zP 0 (some 10) zA67 ?_
 refine zP 1 (some 11) zA78 ?_
 refine zP 3 (some 13) zA79 ?_
 refine zP 4 (some 14) zA80 ?_
 refine zP 5 (some 15) zA81 ?_
 refine zP 6 (some 16) zA82 ?_
 refine join_ (σ := Value) 2 zA75 (fun s_ => [(12, .string t320), (17, s_), (18, .string (strOfNums y321))]) (fun s_ w' => (Kd.R (Kd.int .u8) 5 w' w.heap.size (fun _ => True) s_ y321) ∧ (Below w.heap.size w w')) ?_ ?_
 rotate_left
 ·intro hCont
  refine two_ (i := 2) (j := 7) (Ni := some 12) (Nj := some 17) zA83 zA84 rfl rfl rfl rfl (two_of HT_.out (by kernel_rfl)) (by decide) (by decide) (fun K hK => ?_) (fun K hK => ?_)
  ·skip
   refine goes_ Tryz.func27 (by kernel_rfl) rfl #[.int .i64 (wrap64 (Int.tdiv a0 10))] (by rfl) rfl rfl zm ?_
   with_reducible refine (ih k (by omega) (wrap64 (Int.tdiv a0 10)) t320 _ A6.out).mono ?_
   rintro e w9 ⟨rfl, hb⟩
   refine ⟨_, rfl, ?_⟩
   have _ := aM (below_step zb hb)
   clear HB
   rename_i HB
   (try clear hb)
   (try clear hb2)
   (try clear hk)
   (try clear hi)
   refine hK.out _ _ trivial (fun hHeld => ?_)
   clear hK K
   refine norm_ (a' := ?_) ?_ ?_
   rotate_left
   ·show Act.put _ (some 12) _ = _
    simp only [Act.put, xA, xB, xC, i64_w, i32_w]
    rfl
   refine one_ (i := 7) (N := some 17) zA74 rfl rfl (one_of HT_.out (by kernel_rfl)) (by decide) (fun K hK => ?_)
   refine Kd.R_lit_step (Kd.int .u8) _ 5 ?hg (N := 17) ?hd (xs := ([(wrap64 (48 + (Int.tmod a0 10))) % 256] : List Int)) (inner := [.int .u8 ((wrap64 (48 + (Int.tmod a0 10))) % 256)]) (ok := fun _ => True) (okp := fun _ => True) ?hr ?hp (fun _ hk => hk) trivial (Below.refl _ _) (Nat.le_refl _) (by simp) ?_; (case hd => rfl); (case hg => rfl); (case hr => first | (go_simp; done) | (go_simp; rfl)); (case hp => exact (Reps.one (show Kd.M (Kd.int .u8) _ _ _ ((wrap64 (48 + (Int.tmod a0 10))) % 256) [.int .u8 ((wrap64 (48 + (Int.tmod a0 10))) % 256)] from rfl) (Reps.none _ _)))
   intro v322 w10 ho11 hb hg_ hnew_
   clear hg_ hnew_
   (first | rw [← Ny321.out] at ho11 | (simp only [Int.reduceToNat] at ho11; rw [← Ny321.out] at ho11))
   have _ := aM (Kd.R_lower ho11 (below_size zb))
   have _ := aM (below_step zb hb)
   clear HB
   rename_i HO323 HB
   clear hb ho11
   refine hK.out _ _ trivial (fun hHeld => ?_)
   clear hK K
   refine norm_ (a' := ?_) ?_ ?_
   rotate_left
   ·show Act.put _ (some 17) _ = _
    simp only [Act.put, xA, xB, xC, i64_w, i32_w]
    rfl
   refine one_ (i := 8) (N := some 18) zA75 rfl rfl (one_of HT_.out (by kernel_rfl)) (by decide) (fun K hK => ?_)
   have hcv12 := own_string (P := Tryz.prog) Tryz.underlying39 Tryz.underlying5 Tryz.underlying9 (Kd.own_of_R HO323.out)
   refine value_ (w1 := ?_) (v := ?_) (by rfl) rfl ?_ ?_
   rotate_left 2
   ·go_simp
    constructor
    ·rfl
    ·rfl
   clear hcv12
   refine hK.out _ _ trivial (fun hHeld => ?_)
   clear hK K
   refine norm_ (a' := ?_) ?_ ?_
   rotate_left
   ·show Act.put _ (some 18) _ = _
    simp only [Act.put, xA, xB, xC, i64_w, i32_w]
    rfl
   exact norm_ (by simp only [putAll, Act.put, xA, xB, xC]) (hCont (v322) _ ⟨(mR_ HO323.out), zb⟩)
  ·skip
   refine Kd.R_lit_step (Kd.int .u8) _ 5 ?hg (N := 17) ?hd (xs := ([(wrap64 (48 + (Int.tmod a0 10))) % 256] : List Int)) (inner := [.int .u8 ((wrap64 (48 + (Int.tmod a0 10))) % 256)]) (ok := fun _ => True) (okp := fun _ => True) ?hr ?hp (fun _ hk => hk) trivial (Below.refl _ _) (Nat.le_refl _) (by simp) ?_; (case hd => rfl); (case hg => rfl); (case hr => first | (go_simp; done) | (go_simp; rfl)); (case hp => exact (Reps.one (show Kd.M (Kd.int .u8) _ _ _ ((wrap64 (48 + (Int.tmod a0 10))) % 256) [.int .u8 ((wrap64 (48 + (Int.tmod a0 10))) % 256)] from rfl) (Reps.none _ _)))
   intro v322 w9 ho10 hb hg_ hnew_
   clear hg_ hnew_
   (first | rw [← Ny321.out] at ho10 | (simp only [Int.reduceToNat] at ho10; rw [← Ny321.out] at ho10))
   have _ := aM (Kd.R_lower ho10 (below_size zb))
   have _ := aM (below_step zb hb)
   clear HB
   rename_i HO323 HB
   clear hb ho10
   refine hK.out _ _ trivial (fun hHeld => ?_)
   clear hK K
   refine norm_ (a' := ?_) ?_ ?_
   rotate_left
   ·show Act.put _ (some 17) _ = _
    simp only [Act.put, xA, xB, xC, i64_w, i32_w]
    rfl
   refine two_ (i := 2) (j := 8) (Ni := some 12) (Nj := some 18) zA74 zA85 rfl rfl rfl rfl (two_of HT_.out (by kernel_rfl)) (by decide) (by decide) (fun K hK => ?_) (fun K hK => ?_)
   ·skip
    refine goes_ Tryz.func27 (by kernel_rfl) rfl #[.int .i64 (wrap64 (Int.tdiv a0 10))] (by rfl) rfl rfl zm ?_
    with_reducible refine (ih k (by omega) (wrap64 (Int.tdiv a0 10)) t320 _ A6.out).mono ?_
    rintro e w11 ⟨rfl, hb⟩
    refine ⟨_, rfl, ?_⟩
    have _ := aM (Kd.R_below (mR_ HO323.out) hb)
    have _ := aM (below_step zb hb)
    clear HO323
    clear HB
    rename_i HO323 HB
    (try clear hb)
    (try clear hb2)
    (try clear hk)
    (try clear hi)
    refine hK.out _ _ trivial (fun hHeld => ?_)
    clear hK K
    refine norm_ (a' := ?_) ?_ ?_
    rotate_left
    ·show Act.put _ (some 12) _ = _
     simp only [Act.put, xA, xB, xC, i64_w, i32_w]
     rfl
    refine one_ (i := 8) (N := some 18) zA75 rfl rfl (one_of HT_.out (by kernel_rfl)) (by decide) (fun K hK => ?_)
    have hcv12 := own_string (P := Tryz.prog) Tryz.underlying39 Tryz.underlying5 Tryz.underlying9 (Kd.own_of_R HO323.out)
    refine value_ (w1 := ?_) (v := ?_) (by rfl) rfl ?_ ?_
    rotate_left 2
    ·go_simp
     constructor
     ·rfl
     ·rfl
    clear hcv12
    refine hK.out _ _ trivial (fun hHeld => ?_)
    clear hK K
    refine norm_ (a' := ?_) ?_ ?_
    rotate_left
    ·show Act.put _ (some 18) _ = _
     simp only [Act.put, xA, xB, xC, i64_w, i32_w]
     rfl
    exact norm_ (by simp only [putAll, Act.put, xA, xB, xC]) (hCont (v322) _ ⟨(mR_ HO323.out), zb⟩)
   ·skip
    have hcv11 := own_string (P := Tryz.prog) Tryz.underlying39 Tryz.underlying5 Tryz.underlying9 (Kd.own_of_R HO323.out)
    refine value_ (w1 := ?_) (v := ?_) (by rfl) rfl ?_ ?_
    rotate_left 2
    ·go_simp
     constructor
     ·rfl
     ·rfl
    clear hcv11
    refine hK.out _ _ trivial (fun hHeld => ?_)
    clear hK K
    refine norm_ (a' := ?_) ?_ ?_
    rotate_left
    ·show Act.put _ (some 18) _ = _
     simp only [Act.put, xA, xB, xC, i64_w, i32_w]
     rfl
    refine one_ (i := 2) (N := some 12) zA75 rfl rfl (one_of HT_.out (by kernel_rfl)) (by decide) (fun K hK => ?_)
    refine goes_ Tryz.func27 (by kernel_rfl) rfl #[.int .i64 (wrap64 (Int.tdiv a0 10))] (by rfl) rfl rfl zm ?_
    with_reducible refine (ih k (by omega) (wrap64 (Int.tdiv a0 10)) t320 _ A6.out).mono ?_
    rintro e w12 ⟨rfl, hb⟩
    refine ⟨_, rfl, ?_⟩
    have _ := aM (Kd.R_below (mR_ HO323.out) hb)
    have _ := aM (below_step zb hb)
    clear HO323
    clear HB
    rename_i HO323 HB
    (try clear hb)
    (try clear hb2)
    (try clear hk)
    (try clear hi)
    refine hK.out _ _ trivial (fun hHeld => ?_)
    clear hK K
    refine norm_ (a' := ?_) ?_ ?_
    rotate_left
    ·show Act.put _ (some 12) _ = _
     simp only [Act.put, xA, xB, xC, i64_w, i32_w]
     rfl
    exact norm_ (by simp only [putAll, Act.put, xA, xB, xC]) (hCont (v322) _ ⟨(mR_ HO323.out), zb⟩)
 rintro v322 w13 ⟨h0_, h1_⟩
 have _ : Aside0 (Kd.R (Kd.int .u8) 5 w13 w.heap.size (fun _ => True) v322 y321) := ⟨h0_⟩
 have _ : Aside0 (Below w.heap.size w w13) := ⟨h1_⟩
 clear HB
 clear h0_ h1_
 rename_i HO323 HB
 have hHeld := trivial
 refine norm_ (a' := ?_) ?_ ?_
 rotate_left
 ·simp only [putAll, Act.put, xA, xB, xC]
  rfl
 refine zP 9 (some 19) zA76 ?_
 refine zP 10 (some 2) zA77 ?_
 refine done_ (done_of HT_.out (by kernel_rfl)) ?_
 try go_wp2
 go_ret
 exact ⟨zw, zb⟩
end Go.Proofs.YtipafadbhmngnaaGreatDoor.F
end
section
namespace Go.Proofs.YtipafadbhmngnaaGreatDoor.F
open Go.RowKit Go.Proofs.YtipafadbhmngnaaGreatDoorW.PrintWords Go.Proofs.YtipafadbhmngnaaGreatDoorW.PrintLast Go.Proofs.YtipafadbhmngnaaGreatDoorW.PrintMore
attribute [local go_sem] max2_int min2_int max_two min_two max_three min_three max_four min_four
set_option linter.unusedVariables false
set_option linter.unusedSimpArgs false
def spec_PuzzleText.l0 : Nat → ByteArray → Int → List (S82) → List (S50) → Option (ByteArray)
 | 0, _, _, _, _ => none
 | k + 1, x3, x4, x325000, x325001 => if x4 < (x325001.length : Int) then (if 0 ≤ x4 then (if (rd_T50 x325001 x4).f2 = true then (if x3.size + 1 ≤ 9223372036854775807 then ((spec_l01Dec.f k ((rd_T50 x325001 x4).f1)).bind fun t329 => (if (x3 ++ (⟨#[32]⟩ : ByteArray)).size + t329.size ≤ 9223372036854775807 then (if ((x3 ++ (⟨#[32]⟩ : ByteArray)) ++ t329).size + 1 ≤ 9223372036854775807 then ((spec_l04Text.f k ((rd_T50 x325001 x4).f0)).bind fun t331 => (if (((x3 ++ (⟨#[32]⟩ : ByteArray)) ++ t329) ++ (⟨#[42]⟩ : ByteArray)).size + t331.size ≤ 9223372036854775807 then (spec_PuzzleText.l0 k ((((x3 ++ (⟨#[32]⟩ : ByteArray)) ++ t329) ++ (⟨#[42]⟩ : ByteArray)) ++ t331) (wrap64 (x4 + 1)) x325000 x325001) else (none))) else (none)) else (none))) else (none)) else (if x3.size + 1 ≤ 9223372036854775807 then ((spec_l01Dec.f k ((rd_T50 x325001 x4).f1)).bind fun t333 => (if (x3 ++ (⟨#[32]⟩ : ByteArray)).size + t333.size ≤ 9223372036854775807 then (if ((x3 ++ (⟨#[32]⟩ : ByteArray)) ++ t333).size + 1 ≤ 9223372036854775807 then ((spec_l04Text.f k ((rd_T50 x325001 x4).f0)).bind fun t335 => (if (((x3 ++ (⟨#[32]⟩ : ByteArray)) ++ t333) ++ (⟨#[43]⟩ : ByteArray)).size + t335.size ≤ 9223372036854775807 then (spec_PuzzleText.l0 k ((((x3 ++ (⟨#[32]⟩ : ByteArray)) ++ t333) ++ (⟨#[43]⟩ : ByteArray)) ++ t335) (wrap64 (x4 + 1)) x325000 x325001) else (none))) else (none)) else (none))) else (none))) else (none)) else (some x3)
def spec_PuzzleText.f (k : Nat) (l0_0 : List (S82)) (l0_1 : List (S50)) : Option (ByteArray) := (spec_IsPuzzle.f k l0_0 l0_1).bind fun t325 => (if t325 = true then ((spec_l04Text.f k l0_0).bind fun t326 => (spec_PuzzleText.l0 k t326 0 l0_0 l0_1)) else (some (⟨#[]⟩ : ByteArray)))
def spec_PuzzleText.T10 : Bool × List (List Nat × List Nat) := (true, [([], []), ([0], [0]), ([], []), ([2], [2]), ([], []), ([3, 4], [3, 4]), ([5], [5]), ([6], [6]), ([7], [7]), ([1, 8], [1, 8]), ([], []), ([9, 10], [9, 10]), ([], []), ([12], [12]), ([], []), ([13, 14], [13, 14]), ([15], [15]), ([16], [16]), ([17, 8], [17]), ([11, 18], [11, 18]), ([19, 18, 0, 1, 2, 3, 4, 5, 6, 7, 8, 9, 10, 11, 12, 13, 14, 15, 16, 17, 18, 19], [0, 19])])
def spec_PuzzleText.B10 : List Nat := [0, 1, 0, 4, 0, 28, 60, 124, 252, 511, 0, 2047, 0, 4096, 0, 28672, 61440, 126976, 258556, 524287, 1048575]
theorem spec_PuzzleText.tab10 : rtab .any (opsOf Tryz.f7 10) = spec_PuzzleText.T10 := by kernel_rfl
theorem spec_PuzzleText.bits10 : waitsOk spec_PuzzleText.T10.2 spec_PuzzleText.B10 = true := by kernel_rfl
end Go.Proofs.YtipafadbhmngnaaGreatDoor.F
end
