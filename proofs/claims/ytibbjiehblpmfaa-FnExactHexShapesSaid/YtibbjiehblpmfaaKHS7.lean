/- The row of FnExactHexShapes, with what it needs: text 8 of 11. -/
import Derived.Test.YtibbjiehblpmfaaKHS6
set_option maxHeartbeats 8000000
set_option maxRecDepth 100000
section
namespace Go.Proofs.Ytibbjiehblpmfaa.F
open Go.RowKit Go.Proofs.YtibbjiehblpmfaaW.PrintWords Go.Proofs.YtibbjiehblpmfaaW.PrintLast Go.Proofs.YtibbjiehblpmfaaW.PrintMore
attribute [local go_sem] max2_int min2_int max_two min_two max_three min_three max_four min_four
set_option linter.unusedVariables false
set_option linter.unusedSimpArgs false
theorem impl_grown__impl_hexAround_impl_normal.calls (k : Nat) (A0 : Option Addr) (c0 : Nat) (l0 : List (S43))   (r : List (List (S43))) (w : World) (hr0 : Kd.C k43 w A0 l0.length l0) (hc0 : l0.length ≤ c0) (h : impl_grown__impl_hexAround_impl_normal.f k l0 = some r) :
  Calls Try.prog 49 #[.slice A0 l0.length c0, .func (.func 35) #[] #[], .func (.func 36) #[] #[]] w fun e w' => ∃ v0_ : Value, e = .returned (v0_) ∧ Kd.N (own w.heap.size 43 k43) 36 w' w.heap.size (fun k_ => (w.heap.size ≤ k_)) v0_ r ∧ Below w.heap.size w w' := by
 have hu43 := Try.underlying43
 have HR0 := aM hr0
 have HC0 := aM hc0
 clear hr0 hc0
 have HB := aM (Below.refl w.heap.size w)
 have H : ((impl_beside__impl_hexAround.f k l0).bind fun t370 => (impl_grown__impl_hexAround_impl_normal.l0 k l0 (([] : List (List (S43)))) t370 (t370.length : Int) 0)) = some r := h
 clear h
 obtain ⟨y367, hy367⟩ : ∃ y_ : List (List (S43)), y_ = (([] : List (List (S43)))) := ⟨_, rfl⟩
 replace H : ((impl_beside__impl_hexAround.f k l0).bind fun t370 => (impl_grown__impl_hexAround_impl_normal.l0 k l0 y367 t370 (t370.length : Int) 0)) = some r := zy H hy367
 have Ny367 := aM hy367
 clear hy367
 replace H := Option.bind_eq_some_iff.mp H
 obtain ⟨t370, A40, H⟩ := H
 replace H : (impl_grown__impl_hexAround_impl_normal.l0 k l0 y367 t370 (t370.length : Int) 0) = some r := H
 have A4 := aM A40
 clear A40
 have H' := aM H
 clear H
 go_enter Try.func49, Try.ntmps49
 go_wp2_with (first | ((with_reducible refine gate_dst (N := 10) rfl ?_); refine Kd.N_lit (own w.heap.size 43 k43) _ 36 ?hg (N' := 10) ?hd (xs := ([] : List (List (S43)))) (inner := []) (ok := (fun k_ => (w.heap.size ≤ k_))) (okp := (fun k_ => (w.heap.size ≤ k_))) ?hr ?hp (fun _ hk => hk) ((show ∀ k_, w.heap.size ≤ k_ → (fun k_ => (w.heap.size ≤ k_)) k_ from fun k_ hk => (Nat.le_trans (below_size zb) hk)) _ (Nat.le_refl _)) (Below.refl _ _) (Nat.le_refl _) (by simp) ?_; (case hd => rfl); (case hg => rfl); (case hr => first | (go_simp; done) | (go_simp; rfl)); (case hp => exact (Reps.none _ _)); intro v368 w5 ho6 hb hg_ hnew_; clear hg_ hnew_; (first | rw [← Ny367.out] at ho6 | (simp only [Int.reduceToNat] at ho6; rw [← Ny367.out] at ho6)); have n0_ := aM (Kd.N_lower ho6 (below_size zb)); have n1_ := aM (below_step zb hb); clear HB; have HO369 := n0_; have HB := n1_; clear n0_ n1_; clear hb ho6) | ((with_reducible refine gate_callee (f := 62) rfl ?_); refine goesL_ (some 13) rfl rfl Try.func62 (by kernel_rfl) rfl #[.slice A0 l0.length c0, .func (.func 35) #[] #[]] rfl zm ?_; (with_reducible refine (impl_beside__impl_hexAround.calls k _ _ l0  t370 _ ?side1 ?side2 A4.out).mono ?_); (case side1 => repeat (first | exact (Kd.C_below HR0.out HB.out) | (with_reducible refine Kd.C_alloc ?_ _) | (with_reducible refine Kd.C_drewN ?_ _) | (with_reducible refine Kd.C_drew ?_))); (case side2 => exact HC0.out); rintro e w7 ⟨v371, rfl, ho0, hb⟩; refine ⟨_, rfl, ?_⟩; have n0_ := aM (Kd.N_elder' (mN_ HO369.out) (Kd.R_base ho0) hb); have n1_ := aM (Kd.R_lower (Kd.R_newM (M := fun k_ => (w.heap.size ≤ k_)) ho0 (below_size zb) (fun k_ h_ => h_)) (below_size zb)); have n2_ := aM (below_step zb hb); clear HO369 HB; have HO369 := n0_; have HO372 := n1_; have HB := n2_; clear n0_ n1_ n2_; (try clear hb); (try clear hb2); (try clear hk); (try clear hi); (try clear ho0); obtain ⟨Ao8, co8, eo8⟩ := Kd.R_slice HO372.out; subst eo8))
 go_loopg [7, 15] k (fun kq v7 v15 w' => ∃ (x7_1 : List (List (S43))) (x15_1 : Int), v15 = .int .i64 x15_1 ∧ Aside0 (impl_grown__impl_hexAround_impl_normal.l0 kq l0 x7_1 t370 (t370.length : Int) x15_1 = some r) ∧ Aside0 (kq ≤ k) ∧ Aside0 (Kd.N (own w.heap.size 43 k43) 36 w' w.heap.size (fun k_ => (w.heap.size ≤ k_) ∧ some k_ ≠ ((.slice Ao8 t370.length co8) : Value).ownBlock) v7 x7_1) ∧ Aside0 (Kd.R k43 43 w' w.heap.size (fun k_ => (w.heap.size ≤ k_)) (.slice Ao8 t370.length co8) t370) ∧ Aside0 (Below w.heap.size w w'))
 case atStart => exact ⟨(y367), (0), zr, H', ⟨Nat.le_refl _⟩, ⟨mN_ HO369.out⟩, ⟨zd7 HO372.out⟩, ⟨zb⟩⟩
 case round =>
  clear H'
  try clear p2
  try clear c7
  obtain ⟨x7_1, x15_1, rfl, HA, HK1, HO_7, HO_13, HB⟩ := hrel
  cases gk with
  | zero => exact absurd HA.out (by simp [impl_grown__impl_hexAround_impl_normal.l0])
  | succ k1 =>
   have H := HA.out
   clear HA
   simp only [impl_grown__impl_hexAround_impl_normal.l0] at H
   by_cases c9 : x15_1 < (t370.length : Int)
   rotate_left
   ·rw [if_neg c9] at H
    have c9b0 : decide (x15_1 < (t370.length : Int)) = false := decide_eq_false c9
    clear c9
    replace H := Option.bind_eq_some_iff.mp H
    obtain ⟨t396, A370, H⟩ := H
    replace H : (some t396) = some r := H
    have A37 := aM A370
    clear A370
    obtain rfl := Option.some.inj H
    obtain ⟨Ao38, co38, eo38⟩ := Kd.N_slice HO_7.out
    subst eo38
    go_wp2_with (first | ((with_reducible refine gate_callee (f := 50) rfl ?_); refine goesL_ (some 32) rfl rfl Try.func50 (by kernel_rfl) rfl #[.slice Ao38 x7_1.length co38] rfl zm ?_; (with_reducible refine (impl_tidyShapes.callsO w.heap.size (fun k_ => ((w.heap.size ≤ k_) ∧ some k_ ≠ (.slice Ao8 t370.length co8 : Value).ownBlock)) (.slice Ao38 x7_1.length co38) x7_1 t396 w _ ?side1 ?side2 A37.out).mono ?_); (case side1 => repeat (first | (with_reducible first | exact HB.out | apply below_alloc | apply pw_below_drewN | apply below_drew1) | exact HB.out)); (case side2 => exact HO_7.out); rintro e w39 ⟨v397, rfl, ho0, hb, hkp, hob⟩; refine ⟨_, rfl, ?_⟩; have n0_ := aM (Kd.R_mono (ok' := fun k_ => (w.heap.size ≤ k_)) (Kd.R_keptB ((Kd.R_apart' HO_13.out (Kd.N_typed HO_7.out) (by decide))) hkp (fun k_ hk_ hs_ => (hk_.2) hs_)) (fun k_ hk_ => hk_.1.1)); have n1_ := aM (Kd.N_lower (Kd.N_mono (ok' := fun k_ => (w.heap.size ≤ k_) ∧ some k_ ≠ (.slice Ao8 t370.length co8 : Value).ownBlock) ho0 (fun k_ hk_ => ⟨Or.elim hk_ (fun hs_ => hs_.1) (fun hn_ => (Nat.le_trans (below_size zb) hn_)), Or.elim hk_ (fun hs_ => hs_.2) (fun hn_ => (Kd.fresh' (Kd.R_lt (mR_ HO_13.out)) k_ hn_))⟩)) (Nat.le_refl _)); have n2_ := aM (hb); clear HO_13 HB HO_7; have HO_13 := n0_; have HO398 := n1_; have HB := n2_; clear n0_ n1_ n2_; (try clear hb); (try clear hkp); (try clear hob); (try clear ho0)))
    go_ret
    exact ⟨_, zw, zd5 HO398.out, zb⟩
   rw [if_pos c9] at H
   have c9b0 : decide (x15_1 < (t370.length : Int)) = true := decide_eq_true c9
   clear c9
   by_cases c10 : 0 ≤ x15_1
   rotate_left
   ·rw [if_neg c10] at H
    exact absurd H (by simp)
   rw [if_pos c10] at H
   have c10b0 : decide (0 ≤ x15_1) = true := decide_eq_true c10
   clear c10
   by_cases c11 : x15_1 < (t370.length : Int)
   rotate_left
   ·rw [if_neg c11] at H
    exact absurd H (by simp)
   rw [if_pos c11] at H
   have c11b0 : decide (x15_1 < (t370.length : Int)) = true := decide_eq_true c11
   clear c11
   replace H := Option.bind_eq_some_iff.mp H
   obtain ⟨t375, A120, H⟩ := H
   replace H : ((some (([(⟨(rd_T43 t370 x15_1).f0, (rd_T43 t370 x15_1).f1⟩ : S43)] : List (S43)) : List (S43))).bind fun y378 => (if t375.length + y378.length < 8796093022208 then ((impl_sorted.f (t375 ++ y378)).bind fun t384 => ((impl_normal.f k1 t384).bind fun t387 => ((some (([t387] : List (List (S43))) : List (List (S43)))).bind fun y390 => (if x7_1.length + y390.length < 5864062014805 then (impl_grown__impl_hexAround_impl_normal.l0 k1 l0 (x7_1 ++ y390) t370 (t370.length : Int) (wrap64 (x15_1 + 1))) else (none))))) else (none))) = some r := H
   have A12 := aM A120
   clear A120
   obtain ⟨y378, hy378⟩ : ∃ y_ : List (S43), y_ = (([(⟨(rd_T43 t370 x15_1).f0, (rd_T43 t370 x15_1).f1⟩ : S43)] : List (S43))) := ⟨_, rfl⟩
   replace H : (if t375.length + y378.length < 8796093022208 then ((impl_sorted.f (t375 ++ y378)).bind fun t384 => ((impl_normal.f k1 t384).bind fun t387 => ((some (([t387] : List (List (S43))) : List (List (S43)))).bind fun y390 => (if x7_1.length + y390.length < 5864062014805 then (impl_grown__impl_hexAround_impl_normal.l0 k1 l0 (x7_1 ++ y390) t370 (t370.length : Int) (wrap64 (x15_1 + 1))) else (none))))) else (none)) = some r := zy H hy378
   have Ny378 := aM hy378
   clear hy378
   by_cases c13 : t375.length + y378.length < 8796093022208
   rotate_left
   ·rw [if_neg c13] at H
    exact absurd H (by simp)
   rw [if_pos c13] at H
   have LMc13 := aM c13
   clear c13
   obtain ⟨y381, hy381⟩ : ∃ y_ : List (S43), y_ = (t375 ++ y378) := ⟨_, rfl⟩
   replace H : ((impl_sorted.f y381).bind fun t384 => ((impl_normal.f k1 t384).bind fun t387 => ((some (([t387] : List (List (S43))) : List (List (S43)))).bind fun y390 => (if x7_1.length + y390.length < 5864062014805 then (impl_grown__impl_hexAround_impl_normal.l0 k1 l0 (x7_1 ++ y390) t370 (t370.length : Int) (wrap64 (x15_1 + 1))) else (none))))) = some r := zy H hy381
   have Ny381 := aM hy381
   clear hy381
   replace H := Option.bind_eq_some_iff.mp H
   obtain ⟨t384, A140, H⟩ := H
   replace H : ((impl_normal.f k1 t384).bind fun t387 => ((some (([t387] : List (List (S43))) : List (List (S43)))).bind fun y390 => (if x7_1.length + y390.length < 5864062014805 then (impl_grown__impl_hexAround_impl_normal.l0 k1 l0 (x7_1 ++ y390) t370 (t370.length : Int) (wrap64 (x15_1 + 1))) else (none)))) = some r := H
   have A14 := aM A140
   clear A140
   replace H := Option.bind_eq_some_iff.mp H
   obtain ⟨t387, A150, H⟩ := H
   replace H : ((some (([t387] : List (List (S43))) : List (List (S43)))).bind fun y390 => (if x7_1.length + y390.length < 5864062014805 then (impl_grown__impl_hexAround_impl_normal.l0 k1 l0 (x7_1 ++ y390) t370 (t370.length : Int) (wrap64 (x15_1 + 1))) else (none))) = some r := H
   have A15 := aM A150
   clear A150
   obtain ⟨y390, hy390⟩ : ∃ y_ : List (List (S43)), y_ = (([t387] : List (List (S43)))) := ⟨_, rfl⟩
   replace H : (if x7_1.length + y390.length < 5864062014805 then (impl_grown__impl_hexAround_impl_normal.l0 k1 l0 (x7_1 ++ y390) t370 (t370.length : Int) (wrap64 (x15_1 + 1))) else (none)) = some r := zy H hy390
   have Ny390 := aM hy390
   clear hy390
   by_cases c16 : x7_1.length + y390.length < 5864062014805
   rotate_left
   ·rw [if_neg c16] at H
    exact absurd H (by simp)
   rw [if_pos c16] at H
   have LMc16 := aM c16
   clear c16
   obtain ⟨y393, hy393⟩ : ∃ y_ : List (List (S43)), y_ = (x7_1 ++ y390) := ⟨_, rfl⟩
   replace H : (impl_grown__impl_hexAround_impl_normal.l0 k1 l0 y393 t370 (t370.length : Int) (wrap64 (x15_1 + 1))) = some r := zy H hy393
   have Ny393 := aM hy393
   clear hy393
   have H' := aM H
   clear H
   have p373 : 0 ≤ (x15_1 : Int) := of_decide_eq_true za
   have q373 : x15_1 < (t370.length : Int) := of_decide_eq_true za
   obtain ⟨ad373, e373, hx373_0, hx373_1⟩ := at_T43 (Kd.R_reads' HO_13.out).2.2 x15_1 p373 q373
   cases e373
   replace p373 := eq_true p373
   replace q373 := eq_true q373
   try go_wp2_with (first | ((with_reducible refine gate_dst (N := 9) rfl ?_); refine zx 9 #[.int .i64 0, .int .i64 0] 43 ?_; intro gb374 hg w17 hbox hb; have n0_ := aM (Kd.N_below (Kd.N_elderB (mN_ HO_7.out) gb374 (Nat.le_of_eq hg.symm)) hb); have n1_ := aM (Kd.R_below (Kd.R_elderB (mR_ HO_13.out) gb374 (Nat.le_of_eq hg.symm)) hb); have n2_ := aM (below_step zb hb); have n3_ := aM (hbox); have n4_ := aM ((ze : w.heap.size ≤ gb374)); have n5_ := aM ((ze : w.heap.size ≤ gb374)); clear HO_7 HO_13 HB; have HO_7 := n0_; have HO_13 := n1_; have HB := n2_; have BK374 := n3_; have GW374 := n4_; have GE374 := n5_; clear n0_ n1_ n2_ n3_ n4_ n5_ hb hbox hg; have hcz18_0 : w17.cell? ⟨gb374, 0, none⟩ = some (.int .i64 0) := (blk_cell BK374.out 0).trans rfl; have hcz18_1 : w17.cell? ⟨gb374, 1, none⟩ = some (.int .i64 0) := (blk_cell BK374.out 1).trans rfl; have hfz18_0 := blk_frozen BK374.out 0; have hfz18_1 := blk_frozen BK374.out 1; obtain ⟨Ao19, co19, eo19⟩ := Kd.N_slice HO_7.out; subst eo19))
   have n0_ : Aside0 (Kd.N (own w.heap.size 43 k43) 36 ((w17.setCell ⟨gb374, 0, none⟩ (.int .i64 ((rd_T43 t370 x15_1).f0))).setCell ⟨gb374, 1, none⟩ (.int .i64 ((rd_T43 t370 x15_1).f1))) w.heap.size (fun k_ => (w.heap.size ≤ k_) ∧ some k_ ≠ (.slice (some ad373) t370.length co8 : Value).ownBlock ∧ k_ ≠ gb374) (.slice Ao19 x7_1.length co19) x7_1) := ⟨by (with_reducible repeat (first | apply Kd.N_alloc | apply Kd.N_drewN | apply Kd.N_drew)); exact Kd.N_mono (Kd.N_far (p := ⟨gb374, 1, none⟩) (Kd.N_far (p := ⟨gb374, 0, none⟩) (Kd.N_mono HO_7.out (fun k_ hk => (⟨hk, hk.2⟩ : _ ∧ k_ ≠ gb374))) (fun _ hk => hk.2) (.int .i64 ((rd_T43 t370 x15_1).f0))) (fun _ hk => hk.2) (.int .i64 ((rd_T43 t370 x15_1).f1))) (fun _ hk => ⟨hk.1.1.1, ⟨hk.1.1.2, hk.1.2⟩⟩)⟩
   have n1_ : Aside0 (Kd.R k43 43 ((w17.setCell ⟨gb374, 0, none⟩ (.int .i64 ((rd_T43 t370 x15_1).f0))).setCell ⟨gb374, 1, none⟩ (.int .i64 ((rd_T43 t370 x15_1).f1))) w.heap.size (fun k_ => (w.heap.size ≤ k_) ∧ k_ ≠ gb374) (.slice (some ad373) t370.length co8) t370) := ⟨by (with_reducible repeat (first | apply Kd.R_alloc | apply Kd.R_drewN | apply Kd.R_drew)); exact Kd.R_mono (Kd.R_far (p := ⟨gb374, 1, none⟩) (Kd.R_far (p := ⟨gb374, 0, none⟩) (Kd.R_mono HO_13.out (fun k_ hk => (⟨hk, hk.2⟩ : _ ∧ k_ ≠ gb374))) (fun _ hk => hk.2) (.int .i64 ((rd_T43 t370 x15_1).f0))) (fun _ hk => hk.2) (.int .i64 ((rd_T43 t370 x15_1).f1))) (fun _ hk => ⟨hk.1.1, hk.1.2⟩)⟩
   have n2_ : Aside0 (((w17.setCell ⟨gb374, 0, none⟩ (.int .i64 ((rd_T43 t370 x15_1).f0))).setCell ⟨gb374, 1, none⟩ (.int .i64 ((rd_T43 t370 x15_1).f1))).heap[gb374]? = some (.cells #[.int .i64 ((rd_T43 t370 x15_1).f0), .int .i64 ((rd_T43 t370 x15_1).f1)] 43 (0, 0))) := ⟨by (with_reducible repeat (first | refine blk_drewN ?_ _ | refine blk_drew ?_ | refine blk_alloc ?_ _)); refine blk_put (cs := #[.int .i64 ((rd_T43 t370 x15_1).f0), .int .i64 0]) ?_ 1 _ rfl; (with_reducible repeat (first | refine blk_drewN ?_ _ | refine blk_drew ?_ | refine blk_alloc ?_ _)); refine blk_put (cs := #[.int .i64 0, .int .i64 0]) ?_ 0 _ rfl; (with_reducible repeat (first | refine blk_drewN ?_ _ | refine blk_drew ?_ | refine blk_alloc ?_ _)); exact BK374.out⟩
   have n3_ : Aside0 (Below w.heap.size w ((w17.setCell ⟨gb374, 0, none⟩ (.int .i64 ((rd_T43 t370 x15_1).f0))).setCell ⟨gb374, 1, none⟩ (.int .i64 ((rd_T43 t370 x15_1).f1)))) := ⟨zs GE374.out⟩
   (try clear HO_7)
   (try clear HO_13)
   (try clear BK374)
   (try clear HB)
   generalize ((w17.setCell ⟨gb374, 0, none⟩ (.int .i64 ((rd_T43 t370 x15_1).f0))).setCell ⟨gb374, 1, none⟩ (.int .i64 ((rd_T43 t370 x15_1).f1))) = w20 at n0_ n1_ n2_ n3_ ⊢
   have HO_7 := n0_
   have HO_13 := n1_
   have BK374 := n2_
   have HB := n3_
   clear n0_ n1_ n2_ n3_
   have n0_ := aM (Kd.N_drew HO_7.out)
   have n1_ := aM (Kd.R_drew HO_13.out)
   have n2_ := aM (blk_drew BK374.out)
   have n3_ := aM (below_drew1 HB.out)
   clear HO_7
   clear HO_13
   clear BK374
   clear HB
   have HO_7 := n0_
   have HO_13 := n1_
   have BK374 := n2_
   have HB := n3_
   clear n0_ n1_ n2_ n3_
   refine start_ (n := 12) (S := fun w' => w'.cell? ⟨gb374, 0, none⟩ = some (.int .i64 ((rd_T43 t370 x15_1).f0)) ∧ w'.cell? ⟨gb374, 1, none⟩ = some (.int .i64 ((rd_T43 t370 x15_1).f1))) (ds := []) zA81 (by kernel_rfl) rfl rfl ⟨(blk_cell BK374.out 0).trans rfl, (blk_cell BK374.out 1).trans rfl⟩ (fun hHeld => ?_); refine with_tabW impl_grown__impl_hexAround_impl_normal.tab5 impl_grown__impl_hexAround_impl_normal.bits5 (fun HT_ HW_ => ?_)
   generalize w20.drew = w21 at HO_7 HO_13 BK374 HB hHeld ⊢
   refine zp 0 (some 19) ?_ zA82 rfl rfl (Or.inl ⟨by rfl, ?_⟩) ?_ ?_ ?_
   rotate_left
   ·intro w'
    go_simp
    with_reducible rfl
   rotate_left
   ·simp only [Act.put, xA, xB, xC, i64_w, i32_w]
    rfl
   refine zp 1 (some 20) ?_ zA83 rfl rfl (Or.inl ⟨by rfl, ?_⟩) ?_ ?_ ?_
   rotate_left
   ·intro w'
    go_simp
    with_reducible rfl
   rotate_left
   ·simp only [Act.put, xA, xB, xC, i64_w, i32_w]
    rfl
   refine zp 2 (some 21) ?_ zA84 rfl rfl (Or.inl ⟨by rfl, ?_⟩) ?_ ?_ ?_
   rotate_left
   ·intro w'
    go_simp
    with_reducible rfl
   rotate_left
   ·simp only [Act.put, xA, xB, xC, i64_w, i32_w]
    rfl
   refine zu 4 (some 23) ?_ zA85 rfl rfl (Or.inl ⟨by rfl, ?_⟩) hHeld ?_ ?_ ?_
   rotate_left
   ·rintro w' ⟨s0, s1⟩
    go_simp
    with_reducible rfl
   rotate_left
   ·simp only [Act.put, xA, xB, xC, i64_w, i32_w]
    rfl
   refine join_ (σ := Value × Value) 6 zA86 (fun s_ => [(22, s_.1), (24, s_.2)]) (fun s_ w' => (w'.cell? ⟨gb374, 0, none⟩ = some (.int .i64 ((rd_T43 t370 x15_1).f0)) ∧ w'.cell? ⟨gb374, 1, none⟩ = some (.int .i64 ((rd_T43 t370 x15_1).f1))) ∧ (Kd.R k43 43 w' w.heap.size (fun k_ => (w.heap.size ≤ k_) ∧ some k_ ≠ (s_.2 : Value).ownBlock ∧ some k_ ≠ (.slice (some ad373) t370.length co8 : Value).ownBlock ∧ k_ ≠ gb374) s_.1 t375) ∧ (Kd.R k43 43 w' w.heap.size (fun k_ => (w.heap.size ≤ k_) ∧ some k_ ≠ (s_.1 : Value).ownBlock ∧ some k_ ≠ (.slice (some ad373) t370.length co8 : Value).ownBlock ∧ k_ ≠ gb374) s_.2 y378) ∧ (Kd.R k43 43 w' w.heap.size (fun k_ => (w.heap.size ≤ k_) ∧ some k_ ≠ (s_.1 : Value).ownBlock ∧ some k_ ≠ (s_.2 : Value).ownBlock ∧ k_ ≠ gb374) (.slice (some ad373) t370.length co8) t370) ∧ (Kd.N (own w.heap.size 43 k43) 36 w' w.heap.size (fun k_ => (w.heap.size ≤ k_) ∧ some k_ ≠ (s_.1 : Value).ownBlock ∧ some k_ ≠ (s_.2 : Value).ownBlock ∧ some k_ ≠ (.slice (some ad373) t370.length co8 : Value).ownBlock ∧ k_ ≠ gb374) (.slice Ao19 x7_1.length co19) x7_1) ∧ (w'.heap[gb374]? = some (.cells #[.int .i64 ((rd_T43 t370 x15_1).f0), .int .i64 ((rd_T43 t370 x15_1).f1)] 43 (0, 0))) ∧ (Below w.heap.size w w')) ?_ ?_
   rotate_left
   ·intro hCont
    refine two_ (i := 3) (j := 5) (Ni := some 22) (Nj := some 24) zA87 zA88 rfl rfl rfl rfl (two_of HT_.out (by kernel_rfl)) (by decide) (by decide) (fun K hK => ?_) (fun K hK => ?_)
    ·skip
     first | refine goesV_ Try.func63 (by kernel_rfl) rfl #[.slice A0 l0.length c0] (by rfl) rfl _ rfl rfl zm ?_ | refine goes_ Try.func63 (by kernel_rfl) rfl #[.slice A0 l0.length c0] (by rfl) rfl rfl zm ?_
     with_reducible refine (impl_Cell_63.calls _ _ l0 t375 _ ?side1 ?side2 A12.out).mono ?_
     (case side1 => repeat (first | exact (Kd.C_below HR0.out HB.out) | (with_reducible refine Kd.C_alloc ?_ _) | (with_reducible refine Kd.C_drewN ?_ _) | (with_reducible refine Kd.C_drew ?_)))
     (case side2 => exact HC0.out)
     rintro e w22 ⟨v376, rfl, ho0, hb⟩
     refine ⟨_, rfl, ?_⟩
     have n0_ := aM (Kd.N_elder' (mN_ HO_7.out) (Kd.R_base ho0) hb)
     have n1_ := aM (Kd.R_elder' (mR_ HO_13.out) (Kd.R_base ho0) hb)
     have n2_ := aM (Kd.R_lower (Kd.R_newB (Kd.R_new' (Kd.R_newM (M := fun k_ => (w.heap.size ≤ k_)) ho0 (below_size (zs GE374.out)) (fun k_ h_ => h_)) (Kd.R_lt (mR_ HO_13.out))) (g := gb374) (o := .cells #[.int .i64 ((rd_T43 t370 x15_1).f0), .int .i64 ((rd_T43 t370 x15_1).f1)] 43 (0, 0)) (mB_ BK374.out)) (below_size (zs GE374.out)))
     have n3_ := aM (blk_below (g := gb374) (o := .cells #[.int .i64 ((rd_T43 t370 x15_1).f0), .int .i64 ((rd_T43 t370 x15_1).f1)] 43 (0, 0)) (mB_ BK374.out) hb)
     have n4_ := aM (below_step (zs GE374.out) hb)
     clear HO_7
     clear HO_13
     clear BK374
     clear HB
     have HO_7 := n0_
     have HO_13 := n1_
     have HO377 := n2_
     have BK374 := n3_
     have HB := n4_
     clear n0_ n1_ n2_ n3_ n4_
     (try clear hb)
     (try clear hb2)
     (try clear hk)
     (try clear hi)
     (try clear ho0)
     refine hK.out _ _ ⟨(blk_cell BK374.out 0).trans rfl, (blk_cell BK374.out 1).trans rfl⟩ (fun hHeld => ?_)
     clear hK K
     refine norm_ (a' := ?_) ?_ ?_
     rotate_left
     ·show Act.put _ (some 22) _ = _
      simp only [Act.put, xA, xB, xC, i64_w, i32_w]
      rfl
     refine one_ (i := 5) (N := some 24) zA86 rfl rfl (one_of HT_.out (by kernel_rfl)) (by decide) (fun K hK => ?_)
     refine Kd.R_lit_step k43 _ 43 ?hg (N := 24) ?hd (xs := ([(⟨(rd_T43 t370 x15_1).f0, (rd_T43 t370 x15_1).f1⟩ : S43)] : List (S43))) (inner := [.int .i64 ((rd_T43 t370 x15_1).f0), .int .i64 ((rd_T43 t370 x15_1).f1)]) (ok := fun _ => True) (okp := fun _ => True) ?hr ?hp (fun _ hk => hk) trivial (Below.refl _ _) (Nat.le_refl _) (by simp) ?_; (case hd => rfl); (case hg => rfl); (case hr => first | (go_simp; done) | (go_simp; rfl)); (case hp => exact (Reps.c2 (show Kd.M k43 _ _ _ (⟨(rd_T43 t370 x15_1).f0, (rd_T43 t370 x15_1).f1⟩ : S43) [.int .i64 ((rd_T43 t370 x15_1).f0), .int .i64 ((rd_T43 t370 x15_1).f1)] from (k43_mkM _ _ _ (⟨(rd_T43 t370 x15_1).f0, (rd_T43 t370 x15_1).f1⟩ : S43) )) (Reps.none _ _)))
     intro v379 w23 ho24 hb hg_ hnew_
     clear hg_ hnew_
     (first | rw [← Ny378.out] at ho24 | (simp only [Int.reduceToNat] at ho24; rw [← Ny378.out] at ho24))
     have n0_ := aM (Kd.N_elder' (mN_ HO_7.out) (Kd.R_base ho24) hb)
     have n1_ := aM (Kd.R_elder' (mR_ HO_13.out) (Kd.R_base ho24) hb)
     have n2_ := aM (Kd.R_elder' (mR_ HO377.out) (Kd.R_base ho24) hb)
     have n3_ := aM (Kd.R_lower (Kd.R_newB (Kd.R_new' (Kd.R_new' (Kd.R_newM (M := fun k_ => (w.heap.size ≤ k_)) ho24 (below_size (zs GE374.out)) (fun k_ h_ => h_)) (Kd.R_lt (mR_ HO_13.out))) (Kd.R_lt (mR_ HO377.out))) (g := gb374) (o := .cells #[.int .i64 ((rd_T43 t370 x15_1).f0), .int .i64 ((rd_T43 t370 x15_1).f1)] 43 (0, 0)) (mB_ BK374.out)) (below_size (zs GE374.out)))
     have n4_ := aM (blk_below (g := gb374) (o := .cells #[.int .i64 ((rd_T43 t370 x15_1).f0), .int .i64 ((rd_T43 t370 x15_1).f1)] 43 (0, 0)) (mB_ BK374.out) hb)
     have n5_ := aM (below_step (zs GE374.out) hb)
     clear HO_7
     clear HO_13
     clear HO377
     clear BK374
     clear HB
     have HO_7 := n0_
     have HO_13 := n1_
     have HO377 := n2_
     have HO380 := n3_
     have BK374 := n4_
     have HB := n5_
     clear n0_ n1_ n2_ n3_ n4_ n5_
     clear hb ho24
     refine hK.out _ _ ⟨(blk_cell BK374.out 0).trans rfl, (blk_cell BK374.out 1).trans rfl⟩ (fun hHeld => ?_)
     clear hK K
     refine norm_ (a' := ?_) ?_ ?_
     rotate_left
     ·show Act.put _ (some 24) _ = _
      simp only [Act.put, xA, xB, xC, i64_w, i32_w]
      rfl
     exact norm_ (by simp only [putAll, Act.put, xA, xB, xC]) (hCont (v376, v379) _ ⟨hHeld, (zd18 HO377.out), (zd19 HO380.out), (zd20 HO_13.out), (zd25 HO_7.out), (mB_ BK374.out), (zs GE374.out)⟩)
    ·skip
     refine Kd.R_lit_step k43 _ 43 ?hg (N := 24) ?hd (xs := ([(⟨(rd_T43 t370 x15_1).f0, (rd_T43 t370 x15_1).f1⟩ : S43)] : List (S43))) (inner := [.int .i64 ((rd_T43 t370 x15_1).f0), .int .i64 ((rd_T43 t370 x15_1).f1)]) (ok := fun _ => True) (okp := fun _ => True) ?hr ?hp (fun _ hk => hk) trivial (Below.refl _ _) (Nat.le_refl _) (by simp) ?_; (case hd => rfl); (case hg => rfl); (case hr => first | (go_simp; done) | (go_simp; rfl)); (case hp => exact (Reps.c2 (show Kd.M k43 _ _ _ (⟨(rd_T43 t370 x15_1).f0, (rd_T43 t370 x15_1).f1⟩ : S43) [.int .i64 ((rd_T43 t370 x15_1).f0), .int .i64 ((rd_T43 t370 x15_1).f1)] from (k43_mkM _ _ _ (⟨(rd_T43 t370 x15_1).f0, (rd_T43 t370 x15_1).f1⟩ : S43) )) (Reps.none _ _)))
     intro v379 w22 ho23 hb hg_ hnew_
     clear hg_ hnew_
     (first | rw [← Ny378.out] at ho23 | (simp only [Int.reduceToNat] at ho23; rw [← Ny378.out] at ho23))
     have n0_ := aM (Kd.N_elder' (mN_ HO_7.out) (Kd.R_base ho23) hb)
     have n1_ := aM (Kd.R_elder' (mR_ HO_13.out) (Kd.R_base ho23) hb)
     have n2_ := aM (Kd.R_lower (Kd.R_newB (Kd.R_new' (Kd.R_newM (M := fun k_ => (w.heap.size ≤ k_)) ho23 (below_size (zs GE374.out)) (fun k_ h_ => h_)) (Kd.R_lt (mR_ HO_13.out))) (g := gb374) (o := .cells #[.int .i64 ((rd_T43 t370 x15_1).f0), .int .i64 ((rd_T43 t370 x15_1).f1)] 43 (0, 0)) (mB_ BK374.out)) (below_size (zs GE374.out)))
     have n3_ := aM (blk_below (g := gb374) (o := .cells #[.int .i64 ((rd_T43 t370 x15_1).f0), .int .i64 ((rd_T43 t370 x15_1).f1)] 43 (0, 0)) (mB_ BK374.out) hb)
     have n4_ := aM (below_step (zs GE374.out) hb)
     clear HO_7
     clear HO_13
     clear BK374
     clear HB
     have HO_7 := n0_
     have HO_13 := n1_
     have HO380 := n2_
     have BK374 := n3_
     have HB := n4_
     clear n0_ n1_ n2_ n3_ n4_
     clear hb ho23
     refine hK.out _ _ ⟨(blk_cell BK374.out 0).trans rfl, (blk_cell BK374.out 1).trans rfl⟩ (fun hHeld => ?_)
     clear hK K
     refine norm_ (a' := ?_) ?_ ?_
     rotate_left
     ·show Act.put _ (some 24) _ = _
      simp only [Act.put, xA, xB, xC, i64_w, i32_w]
      rfl
     refine one_ (i := 3) (N := some 22) zA86 rfl rfl (one_of HT_.out (by kernel_rfl)) (by decide) (fun K hK => ?_)
     first | refine goesV_ Try.func63 (by kernel_rfl) rfl #[.slice A0 l0.length c0] (by rfl) rfl _ rfl rfl zm ?_ | refine goes_ Try.func63 (by kernel_rfl) rfl #[.slice A0 l0.length c0] (by rfl) rfl rfl zm ?_
     with_reducible refine (impl_Cell_63.calls _ _ l0 t375 _ ?side1 ?side2 A12.out).mono ?_
     (case side1 => repeat (first | exact (Kd.C_below HR0.out HB.out) | (with_reducible refine Kd.C_alloc ?_ _) | (with_reducible refine Kd.C_drewN ?_ _) | (with_reducible refine Kd.C_drew ?_)))
     (case side2 => exact HC0.out)
     rintro e w24 ⟨v376, rfl, ho0, hb⟩
     refine ⟨_, rfl, ?_⟩
     have n0_ := aM (Kd.N_elder' (mN_ HO_7.out) (Kd.R_base ho0) hb)
     have n1_ := aM (Kd.R_elder' (mR_ HO_13.out) (Kd.R_base ho0) hb)
     have n2_ := aM (Kd.R_elder' (mR_ HO380.out) (Kd.R_base ho0) hb)
     have n3_ := aM (Kd.R_lower (Kd.R_newB (Kd.R_new' (Kd.R_new' (Kd.R_newM (M := fun k_ => (w.heap.size ≤ k_)) ho0 (below_size (zs GE374.out)) (fun k_ h_ => h_)) (Kd.R_lt (mR_ HO_13.out))) (Kd.R_lt (mR_ HO380.out))) (g := gb374) (o := .cells #[.int .i64 ((rd_T43 t370 x15_1).f0), .int .i64 ((rd_T43 t370 x15_1).f1)] 43 (0, 0)) (mB_ BK374.out)) (below_size (zs GE374.out)))
     have n4_ := aM (blk_below (g := gb374) (o := .cells #[.int .i64 ((rd_T43 t370 x15_1).f0), .int .i64 ((rd_T43 t370 x15_1).f1)] 43 (0, 0)) (mB_ BK374.out) hb)
     have n5_ := aM (below_step (zs GE374.out) hb)
     clear HO_7
     clear HO_13
     clear HO380
     clear BK374
     clear HB
     have HO_7 := n0_
     have HO_13 := n1_
     have HO380 := n2_
     have HO377 := n3_
     have BK374 := n4_
     have HB := n5_
     clear n0_ n1_ n2_ n3_ n4_ n5_
     (try clear hb)
     (try clear hb2)
     (try clear hk)
     (try clear hi)
     (try clear ho0)
     refine hK.out _ _ ⟨(blk_cell BK374.out 0).trans rfl, (blk_cell BK374.out 1).trans rfl⟩ (fun hHeld => ?_)
     clear hK K
     refine norm_ (a' := ?_) ?_ ?_
     rotate_left
     ·show Act.put _ (some 22) _ = _
      simp only [Act.put, xA, xB, xC, i64_w, i32_w]
      rfl
     exact norm_ (by simp only [putAll, Act.put, xA, xB, xC]) (hCont (v376, v379) _ ⟨hHeld, (zd19 HO377.out), (zd18 HO380.out), (zd21 HO_13.out), (zd26 HO_7.out), (mB_ BK374.out), (zs GE374.out)⟩)
   rintro ⟨v376, v379⟩ w25 ⟨hS_, h0_, h1_, h2_, h3_, h4_, h5_⟩
   have n0_ : Aside0 (Kd.R k43 43 w25 w.heap.size (fun k_ => (w.heap.size ≤ k_) ∧ some k_ ≠ (v379 : Value).ownBlock ∧ some k_ ≠ (.slice (some ad373) t370.length co8 : Value).ownBlock ∧ k_ ≠ gb374) v376 t375) := ⟨h0_⟩
   have n1_ : Aside0 (Kd.R k43 43 w25 w.heap.size (fun k_ => (w.heap.size ≤ k_) ∧ some k_ ≠ (v376 : Value).ownBlock ∧ some k_ ≠ (.slice (some ad373) t370.length co8 : Value).ownBlock ∧ k_ ≠ gb374) v379 y378) := ⟨h1_⟩
   have n2_ : Aside0 (Kd.R k43 43 w25 w.heap.size (fun k_ => (w.heap.size ≤ k_) ∧ some k_ ≠ (v376 : Value).ownBlock ∧ some k_ ≠ (v379 : Value).ownBlock ∧ k_ ≠ gb374) (.slice (some ad373) t370.length co8) t370) := ⟨h2_⟩
   have n3_ : Aside0 (Kd.N (own w.heap.size 43 k43) 36 w25 w.heap.size (fun k_ => (w.heap.size ≤ k_) ∧ some k_ ≠ (v376 : Value).ownBlock ∧ some k_ ≠ (v379 : Value).ownBlock ∧ some k_ ≠ (.slice (some ad373) t370.length co8 : Value).ownBlock ∧ k_ ≠ gb374) (.slice Ao19 x7_1.length co19) x7_1) := ⟨h3_⟩
   have n4_ : Aside0 (w25.heap[gb374]? = some (.cells #[.int .i64 ((rd_T43 t370 x15_1).f0), .int .i64 ((rd_T43 t370 x15_1).f1)] 43 (0, 0))) := ⟨h4_⟩
   have n5_ : Aside0 (Below w.heap.size w w25) := ⟨h5_⟩
   clear HO_7
   clear HO_13
   clear BK374
   clear HB
   clear h0_ h1_ h2_ h3_ h4_ h5_
   have HO377 := n0_
   have HO380 := n1_
   have HO_13 := n2_
   have HO_7 := n3_
   have BK374 := n4_
   have HB := n5_
   clear n0_ n1_ n2_ n3_ n4_ n5_
   have hHeld : w25.cell? ⟨gb374, 0, none⟩ = some (.int .i64 ((rd_T43 t370 x15_1).f0)) ∧ w25.cell? ⟨gb374, 1, none⟩ = some (.int .i64 ((rd_T43 t370 x15_1).f1)) := hS_
   obtain ⟨Ao27, co27, eo27⟩ := Kd.R_slice HO380.out
   (first | subst eo27 | (injection eo27 with f1_ f2_ f3_; have f4_ := f1_.symm; have f5_ := f3_.symm; clear f1_ f2_ f3_; subst f4_; subst f5_))
   refine norm_ (a' := ?_) ?_ ?_
   rotate_left
   ·simp only [putAll, Act.put, xA, xB, xC]
    rfl
   refine one_ (i := 6) (N := some 25) zA89 rfl rfl (one_of HT_.out (by kernel_rfl)) (by decide) (fun K hK => ?_)
   refine Kd.R_append_rows_step k43 (w0 := w) w.heap.size (by rfl) (.tmp 22) (.tmp 24) 36 43 (.agg #[(.int .i64 0), (.int .i64 0)]) 16 rfl Try.underlying36 info43 rfl (by decide) (by omega) v376 t375 y378 _ _ _ (fun k_ => (w.heap.size ≤ k_) ∧ some k_ ≠ (.slice (some ad373) t370.length co8 : Value).ownBlock ∧ some k_ ≠ (.slice Ao27 y378.length co27 : Value).ownBlock ∧ k_ ≠ gb374) (fun _ => False) rfl rfl ?aO ?aR (fun _ _ h => h) (fun _ h => h.elim) ?aF ?aB ?aS ?aL ?_
   (case aR => exact zc HO380.out)
   (case aB => exact (zs GE374.out))
   (case aF => exact (fun k_ hk => ⟨(Nat.le_trans (below_size (zs GE374.out)) hk), Kd.fresh' (Kd.R_lt (mR_ HO_13.out)) k_ hk, Kd.fresh' (Kd.R_lt (mR_ HO380.out)) k_ hk, Kd.freshB (g := gb374) (o := .cells #[.int .i64 ((rd_T43 t370 x15_1).f0), .int .i64 ((rd_T43 t370 x15_1).f1)] 43 (0, 0)) (mB_ BK374.out) k_ hk⟩))
   (case aO => exact (zd22 HO377.out))
   (case aS => exact (below_size (zs GE374.out)))
   (case aL => have := LMc13.out; omega)
   intro v382 w26 ho hb hg hat
   rw [← Ny381.out] at ho
   have n0_ := aM (Kd.N_afterv (ok := (fun k_ => (w.heap.size ≤ k_) ∧ some k_ ≠ (.slice (some ad373) t370.length co8 : Value).ownBlock ∧ some k_ ≠ (.slice Ao27 y378.length co27 : Value).ownBlock ∧ k_ ≠ gb374)) (zd27 HO_7.out) hg hat)
   have n1_ := aM (Kd.R_after (ok := (fun k_ => (w.heap.size ≤ k_) ∧ some k_ ≠ (.slice Ao27 y378.length co27 : Value).ownBlock ∧ k_ ≠ gb374)) (zd23 HO_13.out) hg hat)
   have n2_ := aM (blk_grown (g := gb374) (o := .cells #[.int .i64 ((rd_T43 t370 x15_1).f0), .int .i64 ((rd_T43 t370 x15_1).f1)] 43 (0, 0)) (mB_ BK374.out) hg (Kd.R_away HO377.out (fun _ hk => hk.2.2.2)))
   have n3_ := aM (Kd.R_after (ok := (fun k_ => (w.heap.size ≤ k_) ∧ some k_ ≠ (.slice (some ad373) t370.length co8 : Value).ownBlock ∧ k_ ≠ gb374)) (zd23 HO380.out) hg hat)
   have n4_ := aM (hb)
   have n5_ := aM (ho)
   clear HO_7
   clear HO_13
   clear BK374
   clear HO380
   clear HB
   clear HO377
   have HO_7 := n0_
   have HO_13 := n1_
   have BK374 := n2_
   have HO380 := n3_
   have HB := n4_
   have HO383 := n5_
   clear n0_ n1_ n2_ n3_ n4_ n5_
   clear ho hb hg hat
   obtain ⟨Ao28, co28, eo28⟩ := Kd.R_slice HO383.out
   (first | subst eo28 | (injection eo28 with f1_ f2_ f3_; have f4_ := f1_.symm; have f5_ := f3_.symm; clear f1_ f2_ f3_; subst f4_; subst f5_))
   refine hK.out _ _ ⟨(blk_cell BK374.out 0).trans rfl, (blk_cell BK374.out 1).trans rfl⟩ (fun hHeld => ?_)
   clear hK K
   refine norm_ (a' := ?_) ?_ ?_
   rotate_left
   ·show Act.put _ (some 25) _ = _
    simp only [Act.put, xA, xB, xC, i64_w, i32_w]
    rfl
   refine one_ (i := 7) (N := some 26) zA90 rfl rfl (one_of HT_.out (by kernel_rfl)) (by decide) (fun K hK => ?_)
   first | refine goesV_ Try.func53 (by kernel_rfl) rfl #[.slice Ao28 y381.length co28] (by rfl) rfl _ rfl rfl zm ?_ | refine goes_ Try.func53 (by kernel_rfl) rfl #[.slice Ao28 y381.length co28] (by rfl) rfl rfl zm ?_
   with_reducible refine (impl_sorted.calls _ _ y381 t384 _ ?side1 ?side2 A14.out).mono ?_
   (case side1 => exact zc HO383.out)
   (case side2 => exact (Kd.R_reads' HO383.out).2.1)
   rintro e w29 ⟨v385, rfl, ho0, hb⟩
   refine ⟨_, rfl, ?_⟩
   have n0_ := aM (Kd.N_elder' (mN_ HO_7.out) (Kd.R_base ho0) hb)
   have n1_ := aM (Kd.R_elder' (mR_ HO_13.out) (Kd.R_base ho0) hb)
   have n2_ := aM (Kd.R_elder' (mR_ HO380.out) (Kd.R_base ho0) hb)
   have n3_ := aM (Kd.R_elder' (mR_ HO383.out) (Kd.R_base ho0) hb)
   have n4_ := aM (Kd.R_lower (Kd.R_newB (Kd.R_new' (Kd.R_new' (Kd.R_new' (Kd.R_newM (M := fun k_ => (w.heap.size ≤ k_)) ho0 (below_size (zs GE374.out)) (fun k_ h_ => h_)) (Kd.R_lt (mR_ HO_13.out))) (Kd.R_lt (mR_ HO380.out))) (Kd.R_lt (mR_ HO383.out))) (g := gb374) (o := .cells #[.int .i64 ((rd_T43 t370 x15_1).f0), .int .i64 ((rd_T43 t370 x15_1).f1)] 43 (0, 0)) (mB_ BK374.out)) (below_size (zs GE374.out)))
   have n5_ := aM (blk_below (g := gb374) (o := .cells #[.int .i64 ((rd_T43 t370 x15_1).f0), .int .i64 ((rd_T43 t370 x15_1).f1)] 43 (0, 0)) (mB_ BK374.out) hb)
   have n6_ := aM (below_step (zs GE374.out) hb)
   clear HO_7
   clear HO_13
   clear HO380
   clear HO383
   clear BK374
   clear HB
   have HO_7 := n0_
   have HO_13 := n1_
   have HO380 := n2_
   have HO383 := n3_
   have HO386 := n4_
   have BK374 := n5_
   have HB := n6_
   clear n0_ n1_ n2_ n3_ n4_ n5_ n6_
   (try clear hb)
   (try clear hb2)
   (try clear hk)
   (try clear hi)
   (try clear ho0)
   obtain ⟨Ao30, co30, eo30⟩ := Kd.R_slice HO386.out
   (first | subst eo30 | (injection eo30 with f1_ f2_ f3_; have f4_ := f1_.symm; have f5_ := f3_.symm; clear f1_ f2_ f3_; subst f4_; subst f5_))
   refine hK.out _ _ ⟨(blk_cell BK374.out 0).trans rfl, (blk_cell BK374.out 1).trans rfl⟩ (fun hHeld => ?_)
   clear hK K
   refine norm_ (a' := ?_) ?_ ?_
   rotate_left
   ·show Act.put _ (some 26) _ = _
    simp only [Act.put, xA, xB, xC, i64_w, i32_w]
    rfl
   refine one_ (i := 8) (N := some 27) zA91 rfl rfl (one_of HT_.out (by kernel_rfl)) (by decide) (fun K hK => ?_)
   first | refine goesV_ Try.func36 (by kernel_rfl) rfl #[.slice Ao30 t384.length co30] (by rfl) rfl _ rfl rfl zm ?_ | refine goes_ Try.func36 (by kernel_rfl) rfl #[.slice Ao30 t384.length co30] (by rfl) rfl rfl zm ?_
   with_reducible refine (impl_normal.calls k1 _ _ t384 t387 _ ?side1 ?side2 A15.out).mono ?_
   (case side1 => exact zc HO386.out)
   (case side2 => exact (Kd.R_reads' HO386.out).2.1)
   rintro e w31 ⟨v388, rfl, ho0, hb⟩
   refine ⟨_, rfl, ?_⟩
   have n0_ := aM (Kd.N_elder' (mN_ HO_7.out) (Kd.R_base ho0) hb)
   have n1_ := aM (Kd.R_elder' (mR_ HO_13.out) (Kd.R_base ho0) hb)
   have n2_ := aM (Kd.R_elder' (mR_ HO380.out) (Kd.R_base ho0) hb)
   have n3_ := aM (Kd.R_elder' (mR_ HO383.out) (Kd.R_base ho0) hb)
   have n4_ := aM (Kd.R_elder' (mR_ HO386.out) (Kd.R_base ho0) hb)
   have n5_ := aM (Kd.R_lower (Kd.R_newB (Kd.R_new' (Kd.R_new' (Kd.R_new' (Kd.R_new' (Kd.R_newM (M := fun k_ => (w.heap.size ≤ k_)) ho0 (below_size (zs GE374.out)) (fun k_ h_ => h_)) (Kd.R_lt (mR_ HO_13.out))) (Kd.R_lt (mR_ HO380.out))) (Kd.R_lt (mR_ HO383.out))) (Kd.R_lt (mR_ HO386.out))) (g := gb374) (o := .cells #[.int .i64 ((rd_T43 t370 x15_1).f0), .int .i64 ((rd_T43 t370 x15_1).f1)] 43 (0, 0)) (mB_ BK374.out)) (below_size (zs GE374.out)))
   have n6_ := aM (blk_below (g := gb374) (o := .cells #[.int .i64 ((rd_T43 t370 x15_1).f0), .int .i64 ((rd_T43 t370 x15_1).f1)] 43 (0, 0)) (mB_ BK374.out) hb)
   have n7_ := aM (below_step (zs GE374.out) hb)
   clear HO_7
   clear HO_13
   clear HO380
   clear HO383
   clear HO386
   clear BK374
   clear HB
   have HO_7 := n0_
   have HO_13 := n1_
   have HO380 := n2_
   have HO383 := n3_
   have HO386 := n4_
   have HO389 := n5_
   have BK374 := n6_
   have HB := n7_
   clear n0_ n1_ n2_ n3_ n4_ n5_ n6_ n7_
   (try clear hb)
   (try clear hb2)
   (try clear hk)
   (try clear hi)
   (try clear ho0)
   obtain ⟨Ao32, co32, eo32⟩ := Kd.R_slice HO389.out
   (first | subst eo32 | (injection eo32 with f1_ f2_ f3_; have f4_ := f1_.symm; have f5_ := f3_.symm; clear f1_ f2_ f3_; subst f4_; subst f5_))
   refine hK.out _ _ ⟨(blk_cell BK374.out 0).trans rfl, (blk_cell BK374.out 1).trans rfl⟩ (fun hHeld => ?_)
   clear hK K
   refine norm_ (a' := ?_) ?_ ?_
   rotate_left
   ·show Act.put _ (some 27) _ = _
    simp only [Act.put, xA, xB, xC, i64_w, i32_w]
    rfl
   refine one_ (i := 9) (N := some 28) zA92 rfl rfl (one_of HT_.out (by kernel_rfl)) (by decide) (fun K hK => ?_)
   refine Kd.N_lit_step (own w.heap.size 43 k43) _ 36 ?hg (N' := 28) ?hd (xs := ([t387] : List (List (S43)))) (inner := [.slice Ao32 t387.length co32]) (ok := (fun k_ => (w.heap.size ≤ k_) ∧ some k_ ≠ (.slice Ao19 x7_1.length co19 : Value).ownBlock ∧ some k_ ≠ (.slice (some ad373) t370.length co8 : Value).ownBlock ∧ some k_ ≠ (.slice Ao27 y378.length co27 : Value).ownBlock ∧ some k_ ≠ (.slice Ao28 y381.length co28 : Value).ownBlock ∧ some k_ ≠ (.slice Ao30 t384.length co30 : Value).ownBlock ∧ k_ ≠ gb374)) (okp := (fun k_ => (w.heap.size ≤ k_) ∧ some k_ ≠ (.slice Ao19 x7_1.length co19 : Value).ownBlock ∧ some k_ ≠ (.slice (some ad373) t370.length co8 : Value).ownBlock ∧ some k_ ≠ (.slice Ao27 y378.length co27 : Value).ownBlock ∧ some k_ ≠ (.slice Ao28 y381.length co28 : Value).ownBlock ∧ some k_ ≠ (.slice Ao30 t384.length co30 : Value).ownBlock ∧ k_ ≠ gb374)) ?hr ?hp (fun _ hk => hk) ((show ∀ k_, w31.heap.size ≤ k_ → (fun k_ => (w.heap.size ≤ k_) ∧ some k_ ≠ (.slice Ao19 x7_1.length co19 : Value).ownBlock ∧ some k_ ≠ (.slice (some ad373) t370.length co8 : Value).ownBlock ∧ some k_ ≠ (.slice Ao27 y378.length co27 : Value).ownBlock ∧ some k_ ≠ (.slice Ao28 y381.length co28 : Value).ownBlock ∧ some k_ ≠ (.slice Ao30 t384.length co30 : Value).ownBlock ∧ k_ ≠ gb374) k_ from fun k_ hk => ⟨(Nat.le_trans (below_size (zs GE374.out)) hk), Kd.fresh' (Kd.N_lt (mN_ HO_7.out)) k_ hk, Kd.fresh' (Kd.R_lt (mR_ HO_13.out)) k_ hk, Kd.fresh' (Kd.R_lt (mR_ HO380.out)) k_ hk, Kd.fresh' (Kd.R_lt (mR_ HO383.out)) k_ hk, Kd.fresh' (Kd.R_lt (mR_ HO386.out)) k_ hk, Kd.freshB (g := gb374) (o := .cells #[.int .i64 ((rd_T43 t370 x15_1).f0), .int .i64 ((rd_T43 t370 x15_1).f1)] 43 (0, 0)) (mB_ BK374.out) k_ hk⟩) _ (Nat.le_refl _)) (Below.refl _ _) (Nat.le_refl _) (by simp) ?_; (case hd => rfl); (case hg => rfl); (case hr => first | (go_simp; done) | (go_simp; rfl)); (case hp => exact (Reps.one (show Kd.FK (own w.heap.size 43 k43) _ _ t387 [.slice Ao32 t387.length co32] from (FKO_R rfl (Kd.R_mono (ok' := (fun k_ => (w.heap.size ≤ k_) ∧ some k_ ≠ (.slice Ao19 x7_1.length co19 : Value).ownBlock ∧ some k_ ≠ (.slice (some ad373) t370.length co8 : Value).ownBlock ∧ some k_ ≠ (.slice Ao27 y378.length co27 : Value).ownBlock ∧ some k_ ≠ (.slice Ao28 y381.length co28 : Value).ownBlock ∧ some k_ ≠ (.slice Ao30 t384.length co30 : Value).ownBlock ∧ k_ ≠ gb374)) (Kd.R_apart' (HO389.out) (Kd.N_typed HO_7.out) (by decide)) (fun k_ hk => ⟨hk.1.1.1.1.1.1.1, ⟨hk.2, ⟨hk.1.1.1.1.1.2, ⟨hk.1.1.1.1.2, ⟨hk.1.1.1.2, ⟨hk.1.1.2, hk.1.2⟩⟩⟩⟩⟩⟩)) (Nat.le_refl _))) (Reps.none _ _)))
   intro v391 w33 ho34 hb hg_ hnew_
   clear hg_ hnew_
   (first | rw [← Ny390.out] at ho34 | (simp only [Int.reduceToNat] at ho34; rw [← Ny390.out] at ho34))
   have n0_ := aM (Kd.N_elder' (mN_ HO_7.out) (by first | exact Kd.N_base ho34 | exact Kd.S_base ho34 | exact Kd.R_base ho34) hb)
   have n1_ := aM (Kd.R_below (mR_ HO_13.out) hb)
   have n2_ := aM (Kd.R_below (mR_ HO380.out) hb)
   have n3_ := aM (Kd.R_below (mR_ HO383.out) hb)
   have n4_ := aM (Kd.R_below (mR_ HO386.out) hb)
   have n5_ := aM (Kd.N_lower ho34 (below_size (zs GE374.out)))
   have n6_ := aM (blk_below (g := gb374) (o := .cells #[.int .i64 ((rd_T43 t370 x15_1).f0), .int .i64 ((rd_T43 t370 x15_1).f1)] 43 (0, 0)) (mB_ BK374.out) hb)
   have n7_ := aM (below_step (zs GE374.out) hb)
   clear HO_7
   clear HO_13
   clear HO380
   clear HO383
   clear HO386
   clear BK374
   clear HB
   clear HO389
   have HO_7 := n0_
   have HO_13 := n1_
   have HO380 := n2_
   have HO383 := n3_
   have HO386 := n4_
   have HO392 := n5_
   have BK374 := n6_
   have HB := n7_
   clear n0_ n1_ n2_ n3_ n4_ n5_ n6_ n7_
   clear hb ho34
   obtain ⟨Ao36, co36, eo36⟩ := Kd.N_slice HO392.out
   (first | subst eo36 | (injection eo36 with f1_ f2_ f3_; have f4_ := f1_.symm; have f5_ := f3_.symm; clear f1_ f2_ f3_; subst f4_; subst f5_))
   refine hK.out _ _ ⟨(blk_cell BK374.out 0).trans rfl, (blk_cell BK374.out 1).trans rfl⟩ (fun hHeld => ?_)
   clear hK K
   refine norm_ (a' := ?_) ?_ ?_
   rotate_left
   ·show Act.put _ (some 28) _ = _
    simp only [Act.put, xA, xB, xC, i64_w, i32_w]
    rfl
   refine one_ (i := 10) (N := some 29) zA93 rfl rfl (one_of HT_.out (by kernel_rfl)) (by decide) (fun K hK => ?_)
   refine Kd.N_append_rows_step (own w.heap.size 43 k43) (w0 := w) w.heap.size (by rfl) (.tmp 19) (.tmp 28) 22 36 (.slice none 0 0) 24 rfl Try.underlying22 info36 rfl (Nat.lt_succ_self 0) (by omega) (.slice Ao19 x7_1.length co19) x7_1 y390 _ _ _ (fun k_ => (w.heap.size ≤ k_) ∧ some k_ ≠ (.slice (some ad373) t370.length co8 : Value).ownBlock ∧ some k_ ≠ (.slice Ao27 y378.length co27 : Value).ownBlock ∧ some k_ ≠ (.slice Ao28 y381.length co28 : Value).ownBlock ∧ some k_ ≠ (.slice Ao30 t384.length co30 : Value).ownBlock ∧ k_ ≠ gb374) (fun k_ => ((fun k_ => (w.heap.size ≤ k_) ∧ some k_ ≠ (.slice (some ad373) t370.length co8 : Value).ownBlock ∧ some k_ ≠ (.slice Ao27 y378.length co27 : Value).ownBlock ∧ some k_ ≠ (.slice Ao28 y381.length co28 : Value).ownBlock ∧ some k_ ≠ (.slice Ao30 t384.length co30 : Value).ownBlock ∧ k_ ≠ gb374)) k_ ∧ some k_ ≠ (.slice Ao19 x7_1.length co19 : Value).ownBlock) rfl rfl ?aO ?aR (fun _ hk => hk) ?aF ?aB ?aS ?aL ?_
   (case aR => exact (by skip; exact Kd.N_F (Kd.N_mono (ok' := (fun k_ => ((fun k_ => (w.heap.size ≤ k_) ∧ some k_ ≠ (.slice (some ad373) t370.length co8 : Value).ownBlock ∧ some k_ ≠ (.slice Ao27 y378.length co27 : Value).ownBlock ∧ some k_ ≠ (.slice Ao28 y381.length co28 : Value).ownBlock ∧ some k_ ≠ (.slice Ao30 t384.length co30 : Value).ownBlock ∧ k_ ≠ gb374)) k_ ∧ some k_ ≠ (.slice Ao19 x7_1.length co19 : Value).ownBlock)) (HO392.out) (fun k_ hk => ⟨⟨hk.1, ⟨hk.2.2.1, ⟨hk.2.2.2.1, ⟨hk.2.2.2.2.1, ⟨hk.2.2.2.2.2.1, hk.2.2.2.2.2.2⟩⟩⟩⟩⟩, hk.2.1⟩))))
   (case aB => exact (zs GE374.out))
   (case aF => exact (fun k_ hk => ⟨(Nat.le_trans (below_size (zs GE374.out)) hk), Kd.fresh' (Kd.R_lt (mR_ HO_13.out)) k_ hk, Kd.fresh' (Kd.R_lt (mR_ HO380.out)) k_ hk, Kd.fresh' (Kd.R_lt (mR_ HO383.out)) k_ hk, Kd.fresh' (Kd.R_lt (mR_ HO386.out)) k_ hk, Kd.freshB (g := gb374) (o := .cells #[.int .i64 ((rd_T43 t370 x15_1).f0), .int .i64 ((rd_T43 t370 x15_1).f1)] 43 (0, 0)) (mB_ BK374.out) k_ hk⟩))
   (case aO => exact (zd28 HO_7.out))
   (case aS => exact (below_size (zs GE374.out)))
   (case aL => have := LMc16.out; omega)
   intro v394 w35 ho hb hg hat
   rw [← Ny393.out] at ho
   have n0_ := aM (Kd.R_over' (mR_ HO_13.out) (Kd.N_typed (mN_ HO_7.out)) (by decide) hg)
   have n1_ := aM (blk_grown (g := gb374) (o := .cells #[.int .i64 ((rd_T43 t370 x15_1).f0), .int .i64 ((rd_T43 t370 x15_1).f1)] 43 (0, 0)) (mB_ BK374.out) hg (Kd.N_ne HO_7.out BK374.out (by decide)))
   have n2_ := aM (Kd.R_over' (mR_ HO380.out) (Kd.N_typed (mN_ HO_7.out)) (by decide) hg)
   have n3_ := aM (Kd.R_over' (mR_ HO383.out) (Kd.N_typed (mN_ HO_7.out)) (by decide) hg)
   have n4_ := aM (Kd.R_over' (mR_ HO386.out) (Kd.N_typed (mN_ HO_7.out)) (by decide) hg)
   have n5_ := aM (Kd.N_afterv (ok := (fun k_ => (w.heap.size ≤ k_) ∧ some k_ ≠ (.slice (some ad373) t370.length co8 : Value).ownBlock ∧ some k_ ≠ (.slice Ao27 y378.length co27 : Value).ownBlock ∧ some k_ ≠ (.slice Ao28 y381.length co28 : Value).ownBlock ∧ some k_ ≠ (.slice Ao30 t384.length co30 : Value).ownBlock ∧ k_ ≠ gb374)) (zd29 HO392.out) hg hat)
   have n6_ := aM (hb)
   have n7_ := aM (ho)
   clear HO_13
   clear BK374
   clear HO380
   clear HO383
   clear HO386
   clear HO392
   clear HB
   clear HO_7
   have HO_13 := n0_
   have BK374 := n1_
   have HO380 := n2_
   have HO383 := n3_
   have HO386 := n4_
   have HO392 := n5_
   have HB := n6_
   have HO395 := n7_
   clear n0_ n1_ n2_ n3_ n4_ n5_ n6_ n7_
   clear ho hb hg hat
   refine hK.out _ _ ⟨(blk_cell BK374.out 0).trans rfl, (blk_cell BK374.out 1).trans rfl⟩ (fun hHeld => ?_)
   clear hK K
   refine norm_ (a' := ?_) ?_ ?_
   rotate_left
   ·show Act.put _ (some 29) _ = _
    simp only [Act.put, xA, xB, xC, i64_w, i32_w]
    rfl
   refine zp 11 (some 7) ?_ zA94 rfl rfl (Or.inl ⟨by rfl, ?_⟩) ?_ ?_ ?_
   rotate_left
   ·intro w'
    go_simp
    with_reducible rfl
   rotate_left
   ·simp only [Act.put, xA, xB, xC, i64_w, i32_w]
    rfl
   refine done_ (done_of HT_.out (by kernel_rfl)) ?_
   try go_wp2
   go_roundg k1
   case measure => have := HK1.out; omega
   case rel => exact ⟨(y393), (wrap64 (x15_1 + 1)), zr, H', ⟨by have := HK1.out; omega⟩, ⟨zd30 HO395.out⟩, ⟨zd24 HO_13.out⟩, ⟨zs GE374.out⟩⟩
mutual
def impl_latticeCells.l0 : Nat → Int → List (S43) → List (S43) → Int → Int → Option ((List (S43)))
 | 0, _, _, _, _, _ => none
 | k + 1, x1, x5, x11, x12, x13 => if x13 < x12 then (if 0 ≤ x13 then (if x13 < (x11.length : Int) then (if x1 ≥ 6 then (impl_latticeCells.j1 k x1 x5 x11 x12 x13 ((rd_T43 x11 x13).f1) ((rd_T43 x11 x13).f0)) else (impl_latticeCells.j1 k x1 x5 x11 x12 x13 ((rd_T43 x11 x13).f0) ((rd_T43 x11 x13).f1))) else (none)) else (none)) else ((impl_sorted.f x5).bind fun t424 => (some t424))
def impl_latticeCells.j1 : Nat → Int → List (S43) → List (S43) → Int → Int → Int → Int → Option ((List (S43)))
 | 0, _, _, _, _, _, _, _ => none
 | k + 1, x1, x5, x11, x12, x13, x429000, x429001 => impl_latticeCells.l1 k x1 x5 x11 x12 x13 (Int.tmod x1 6) 0 x429000 x429001
def impl_latticeCells.l1 : Nat → Int → List (S43) → List (S43) → Int → Int → Int → Int → Int → Int → Option ((List (S43)))
 | 0, _, _, _, _, _, _, _, _, _ => none
 | k + 1, x1, x5, x11, x12, x13, x25, x26, x429000, x429001 => if x26 < x25 then (impl_latticeCells.l1 k x1 x5 x11 x12 x13 x25 (wrap64 (x26 + 1)) (wrap64 (-x429001)) (wrap64 (x429000 + x429001))) else (if x5.length < 8796093022208 then (impl_latticeCells.l0 k x1 (x5 ++ [(⟨x429000, x429001⟩ : S43)]) x11 x12 (wrap64 (x13 + 1))) else (none))
end
def impl_latticeCells.f (k : Nat) (l0 : List (S43)) (a1 : Int) : Option ((List (S43))) := if 0 ≤ (l0.length : Int) then (if ((l0.length : Int) : Int).toNat ≤ 17592186044416 then (impl_latticeCells.l0 k a1 (([] : List (S43))) l0 (l0.length : Int) 0) else (none)) else (none)
theorem impl_latticeCells.calls (k : Nat) (A0 : Option Addr) (c0 : Nat) (l0 : List (S43)) (a1 : Int) (r : List (S43)) (w : World) (hr0 : Kd.C k43 w A0 l0.length l0) (hc0 : l0.length ≤ c0) (h : impl_latticeCells.f k l0 a1 = some r) :
  Calls Try.prog 37 #[.slice A0 l0.length c0, .int .i64 a1] w fun e w' => ∃ v0_ : Value, e = .returned (v0_) ∧ Kd.R k43 43 w' w.heap.size (fun _ => True) v0_ r ∧ Below w.heap.size w w' := by
 have hu43 := Try.underlying43
 have HR0 := aM hr0
 have HC0 := aM hc0
 clear hr0 hc0
 have HB := aM (Below.refl w.heap.size w)
 have H : (if 0 ≤ (l0.length : Int) then (if ((l0.length : Int) : Int).toNat ≤ 17592186044416 then (impl_latticeCells.l0 k a1 (([] : List (S43))) l0 (l0.length : Int) 0) else (none)) else (none)) = some r := h
 clear h
 by_cases c3 : 0 ≤ (l0.length : Int)
 rotate_left
 ·rw [if_neg c3] at H
  exact absurd H (by simp)
 rw [if_pos c3] at H
 have c3b0 := eq_true c3
 have c3b1 : decide (0 ≤ (l0.length : Int)) = true := decide_eq_true c3
 clear c3
 by_cases c4 : ((l0.length : Int) : Int).toNat ≤ 17592186044416
 rotate_left
 ·rw [if_neg c4] at H
  exact absurd H (by simp)
 rw [if_pos c4] at H
 have c4b0 := eq_true c4
 have c4b1 : decide (((l0.length : Int) : Int).toNat ≤ 17592186044416) = true := decide_eq_true c4
 clear c4
 obtain ⟨y421, hy421⟩ : ∃ y_ : List (S43), y_ = (([] : List (S43))) := ⟨_, rfl⟩
 replace H : (impl_latticeCells.l0 k a1 y421 l0 (l0.length : Int) 0) = some r := zy H hy421
 have Ny421 := aM hy421
 clear hy421
 have H' := aM H
 clear H
 go_enter Try.func37, Try.ntmps37
 go_wp2_with (first | ((with_reducible refine gate_dst (N := 10) rfl ?_); refine Kd.R_make0 k43 _ 43 rfl (N := 10) rfl 36 _ _ rfl (l0.length : Int) rfl rfl Try.underlying36 (.agg #[(.int .i64 0), (.int .i64 0)]) 16 info43 rfl (by decide) (by omega) z43 (ok := fun _ => True) (okp := fun _ => True) (k43_mkM _ _ _ z43 ) (fun _ hk => hk) trivial (of_decide_eq_true za) (Nat.le_trans (Nat.mul_le_mul_right _ (of_decide_eq_true za : (l0.length : Int).toNat ≤ 17592186044416)) (by omega)) (Below.refl _ _) (Nat.le_refl _) ?_; intro v422 w5 ho6 hb hg_ hnew_; clear hg_ hnew_; (first | rw [← Ny421.out] at ho6 | (simp only [Int.reduceToNat] at ho6; rw [← Ny421.out] at ho6)); have n0_ := aM (Kd.R_lower ho6 (below_size zb)); have n1_ := aM (below_step zb hb); clear HB; have HO423 := n0_; have HB := n1_; clear n0_ n1_; clear hb ho6))
 go_loopg [5, 13] k (fun kq v5 v13 w' => ∃ (x5_1 : List (S43)) (x13_1 : Int), v13 = .int .i64 x13_1 ∧ Aside0 (impl_latticeCells.l0 kq a1 x5_1 l0 (l0.length : Int) x13_1 = some r) ∧ Aside0 (kq ≤ k) ∧ Aside0 (Kd.R k43 43 w' w.heap.size (fun _ => True) v5 x5_1) ∧ Aside0 (Below w.heap.size w w'))
 case atStart => exact ⟨(y421), (0), zr, H', ⟨Nat.le_refl _⟩, ⟨mR_ HO423.out⟩, ⟨zb⟩⟩
 case round =>
  clear H'
  try clear p2
  try clear c3
  try clear c3b0
  try clear c3b1
  try clear c4
  try clear c4b0
  try clear c4b1
  obtain ⟨x5_1, x13_1, rfl, HA, HK1, HO_5, HB⟩ := hrel
  cases gk with
  | zero => exact absurd HA.out (by simp [impl_latticeCells.l0])
  | succ k1 =>
   have H := HA.out
   clear HA
   simp only [impl_latticeCells.l0] at H
   by_cases c7 : x13_1 < (l0.length : Int)
   rotate_left
   ·rw [if_neg c7] at H
    have c7b0 : decide (x13_1 < (l0.length : Int)) = false := decide_eq_false c7
    clear c7
    replace H := Option.bind_eq_some_iff.mp H
    obtain ⟨t424, A200, H⟩ := H
    replace H : (some t424) = some r := H
    have A20 := aM A200
    clear A200
    obtain rfl := Option.some.inj H
    obtain ⟨Ao21, co21, eo21⟩ := Kd.R_slice HO_5.out
    subst eo21
    go_wp2_with (first | ((with_reducible refine gate_callee (f := 53) rfl ?_); refine goesL_ (some 44) rfl rfl Try.func53 (by kernel_rfl) rfl #[.slice Ao21 x5_1.length co21] rfl zm ?_; (with_reducible refine (impl_sorted.calls _ _ x5_1 t424 _ ?side1 ?side2 A20.out).mono ?_); (case side1 => exact zc HO_5.out); (case side2 => exact (Kd.R_reads' HO_5.out).2.1); rintro e w22 ⟨v425, rfl, ho0, hb⟩; refine ⟨_, rfl, ?_⟩; have n0_ := aM (Kd.R_elder' (mR_ HO_5.out) (Kd.R_base ho0) hb); have n1_ := aM (Kd.R_lower (Kd.R_new' ho0 (Kd.R_lt (mR_ HO_5.out))) (below_size zb)); have n2_ := aM (below_step zb hb); clear HO_5 HB; have HO_5 := n0_; have HO426 := n1_; have HB := n2_; clear n0_ n1_ n2_; (try clear hb); (try clear hb2); (try clear hk); (try clear hi); (try clear ho0)))
    go_ret
    exact ⟨_, zw, zd1 HO426.out, zb⟩
   rw [if_pos c7] at H
   have c7b0 : decide (x13_1 < (l0.length : Int)) = true := decide_eq_true c7
   clear c7
   by_cases c8 : 0 ≤ x13_1
   rotate_left
   ·rw [if_neg c8] at H
    exact absurd H (by simp)
   rw [if_pos c8] at H
   have c8b0 : decide (0 ≤ x13_1) = true := decide_eq_true c8
   clear c8
   by_cases c9 : x13_1 < (l0.length : Int)
   rotate_left
   ·rw [if_neg c9] at H
    exact absurd H (by simp)
   rw [if_pos c9] at H
   have c9b0 : decide (x13_1 < (l0.length : Int)) = true := decide_eq_true c9
   clear c9
   have HC10 := aM H
   clear H
   have p427 : 0 ≤ (x13_1 : Int) := of_decide_eq_true za
   have q427 : x13_1 < (l0.length : Int) := of_decide_eq_true za
   obtain ⟨ad427, e427, hx427_0, hx427_1⟩ := at_T43 HR0.out x13_1 p427 q427
   cases e427
   replace hx427_0 := zk HB.out hx427_0
   replace hx427_1 := zk HB.out hx427_1
   replace p427 := eq_true p427
   replace q427 := eq_true q427
   go_upto_if 18 with (first | ((with_reducible refine gate_dst (N := 7) rfl ?_); refine zx 7 #[.int .i64 0, .int .i64 0] 43 ?_; intro gb428 hg w11 hbox hb; have n0_ := aM (Kd.R_below (Kd.R_elderB (mR_ HO_5.out) gb428 (Nat.le_of_eq hg.symm)) hb); have n1_ := aM (below_step zb hb); have n2_ := aM (hbox); have n3_ := aM ((ze : w.heap.size ≤ gb428)); have n4_ := aM ((ze : w.heap.size ≤ gb428)); clear HO_5 HB; have HO_5 := n0_; have HB := n1_; have BK428 := n2_; have GW428 := n3_; have GE428 := n4_; clear n0_ n1_ n2_ n3_ n4_ hb hbox hg; have hcz12_0 : w11.cell? ⟨gb428, 0, none⟩ = some (.int .i64 0) := (blk_cell BK428.out 0).trans rfl; have hcz12_1 : w11.cell? ⟨gb428, 1, none⟩ = some (.int .i64 0) := (blk_cell BK428.out 1).trans rfl; have hfz12_0 := blk_frozen BK428.out 0; have hfz12_1 := blk_frozen BK428.out 1))
   (try simp only [Act.put, xA, xB, xC])
   go_cut [] (fun wc => ∃ (kq : Nat) (x429000_9 : Int) (x429001_9 : Int), Aside0 (impl_latticeCells.j1 kq a1 x5_1 l0 (l0.length : Int) x13_1 x429000_9 x429001_9 = some r) ∧ Aside0 (kq ≤ k1) ∧ Aside0 (Kd.R k43 43 wc w.heap.size (fun k_ => k_ ≠ gb428) u5 x5_1) ∧ Aside0 (wc.heap[gb428]? = some (.cells #[.int .i64 x429000_9, .int .i64 x429001_9] 43 (0, 0))) ∧ Aside0 (Below w.heap.size w wc))
   case first =>
    have H := HC10.out
    clear HC10
    by_cases c13 : a1 ≥ 6
    rotate_left
    ·rw [if_neg c13] at H
     have c13b0 : decide (6 ≤ a1) = false := decide_eq_false c13
     clear c13
     (first | rw [c13b0] | (simp only [i64_w, i32_w]; rw [c13b0]) | skip)
     have H' := aM H
     clear H
     go_wp2
     go_meet
     case rel => exact ⟨_, ((rd_T43 l0 x13_1).f0), ((rd_T43 l0 x13_1).f1), H', ⟨by have := HK1.out; first | omega | exact Nat.le_refl _⟩, ⟨by (with_reducible repeat (first | apply Kd.R_alloc | apply Kd.R_drewN | apply Kd.R_drew)); exact Kd.R_mono (Kd.R_far (p := ⟨gb428, 1, none⟩) (Kd.R_far (p := ⟨gb428, 0, none⟩) (Kd.R_mono HO_5.out (fun k_ hk => (⟨hk, hk.2⟩ : _ ∧ k_ ≠ gb428))) (fun _ hk => hk.2) (.int .i64 ((rd_T43 l0 x13_1).f0))) (fun _ hk => hk.2) (.int .i64 ((rd_T43 l0 x13_1).f1))) (fun _ hk => hk.1.2)⟩, ⟨by (with_reducible repeat (first | refine blk_drewN ?_ _ | refine blk_drew ?_ | refine blk_alloc ?_ _)); refine blk_put (cs := #[.int .i64 ((rd_T43 l0 x13_1).f0), .int .i64 0]) ?_ 1 _ rfl; (with_reducible repeat (first | refine blk_drewN ?_ _ | refine blk_drew ?_ | refine blk_alloc ?_ _)); refine blk_put (cs := #[.int .i64 0, .int .i64 0]) ?_ 0 _ rfl; (with_reducible repeat (first | refine blk_drewN ?_ _ | refine blk_drew ?_ | refine blk_alloc ?_ _)); exact BK428.out⟩, ⟨zs GE428.out⟩⟩
    rw [if_pos c13] at H
    have c13b0 : decide (6 ≤ a1) = true := decide_eq_true c13
    clear c13
    (first | rw [c13b0] | (simp only [i64_w, i32_w]; rw [c13b0]) | skip)
    have H' := aM H
    clear H
    have hcz14_0 : w11.cell? ⟨gb428, 0, none⟩ = some (.int .i64 0) := (blk_cell BK428.out 0).trans rfl
    have hcz14_1 : w11.cell? ⟨gb428, 1, none⟩ = some (.int .i64 0) := (blk_cell BK428.out 1).trans rfl
    have hfz14_0 := blk_frozen BK428.out 0
    have hfz14_1 := blk_frozen BK428.out 1
    go_wp2
    go_meet
    case rel => exact ⟨_, ((rd_T43 l0 x13_1).f1), ((rd_T43 l0 x13_1).f0), H', ⟨by have := HK1.out; first | omega | exact Nat.le_refl _⟩, ⟨by (with_reducible repeat (first | apply Kd.R_alloc | apply Kd.R_drewN | apply Kd.R_drew)); exact Kd.R_mono (Kd.R_far (p := ⟨gb428, 1, none⟩) (Kd.R_far (p := ⟨gb428, 0, none⟩) (Kd.R_far (p := ⟨gb428, 1, none⟩) (Kd.R_far (p := ⟨gb428, 0, none⟩) (Kd.R_mono HO_5.out (fun k_ hk => (⟨hk, hk.2⟩ : _ ∧ k_ ≠ gb428))) (fun _ hk => hk.2) (.int .i64 ((rd_T43 l0 x13_1).f0))) (fun _ hk => hk.2) (.int .i64 ((rd_T43 l0 x13_1).f1))) (fun _ hk => hk.2) (.int .i64 ((rd_T43 l0 x13_1).f1))) (fun _ hk => hk.2) (.int .i64 ((rd_T43 l0 x13_1).f0))) (fun _ hk => hk.1.2)⟩, ⟨by (with_reducible repeat (first | refine blk_drewN ?_ _ | refine blk_drew ?_ | refine blk_alloc ?_ _)); refine blk_put (cs := #[.int .i64 ((rd_T43 l0 x13_1).f1), .int .i64 ((rd_T43 l0 x13_1).f1)]) ?_ 1 _ rfl; (with_reducible repeat (first | refine blk_drewN ?_ _ | refine blk_drew ?_ | refine blk_alloc ?_ _)); refine blk_put (cs := #[.int .i64 ((rd_T43 l0 x13_1).f0), .int .i64 ((rd_T43 l0 x13_1).f1)]) ?_ 0 _ rfl; (with_reducible repeat (first | refine blk_drewN ?_ _ | refine blk_drew ?_ | refine blk_alloc ?_ _)); refine blk_put (cs := #[.int .i64 ((rd_T43 l0 x13_1).f0), .int .i64 0]) ?_ 1 _ rfl; (with_reducible repeat (first | refine blk_drewN ?_ _ | refine blk_drew ?_ | refine blk_alloc ?_ _)); refine blk_put (cs := #[.int .i64 0, .int .i64 0]) ?_ 0 _ rfl; (with_reducible repeat (first | refine blk_drewN ?_ _ | refine blk_drew ?_ | refine blk_alloc ?_ _)); exact BK428.out⟩, ⟨zs GE428.out⟩⟩
   case rest =>
    clear HC10
    try clear c1
    try clear p2
    try clear c3
    try clear c3b0
    try clear c3b1
    try clear c4
    try clear c4b0
    try clear c4b1
    try clear p4
    try clear q4
    try clear hx4
    try clear c7
    try clear c7b0
    try clear c8
    try clear c8b0
    try clear c9
    try clear c9b0
    try clear c13
    try clear c13b0
    try clear hcz12_0
    try clear hcz12_1
    try clear hcz14_0
    try clear hcz14_1
    try clear hfz12_0
    try clear hfz12_1
    try clear hfz14_0
    try clear hfz14_1
    try clear hx427_0
    try clear hx427_1
    try clear p2
    try clear p427
    try clear q427
    obtain ⟨kq, x429000_9, x429001_9, HA, HJ9, HO_5, BK428, HB⟩ := hcut
    cases kq with
    | zero => exact absurd HA.out (by simp [impl_latticeCells.j1])
    | succ kj9 =>
     have H := HA.out
     clear HA
     simp only [impl_latticeCells.j1] at H
     have H' := aM H
     clear H
     go_wp2
     go_loopg [26] kj9 (fun kq v26 w' => ∃ (x26_3 : Int) (x429000_3 : Int) (x429001_3 : Int), v26 = .int .i64 x26_3 ∧ Aside0 (impl_latticeCells.l1 kq a1 x5_1 l0 (l0.length : Int) x13_1 (Int.tmod a1 6) x26_3 x429000_3 x429001_3 = some r) ∧ Aside0 (kq ≤ kj9) ∧ Aside0 (Kd.R k43 43 w' w.heap.size (fun k_ => k_ ≠ gb428) u5 x5_1) ∧ Aside0 (w'.heap[gb428]? = some (.cells #[.int .i64 x429000_3, .int .i64 x429001_3] 43 (0, 0))) ∧ Aside0 (Below w.heap.size w w'))
     case atStart => exact ⟨(0), (x429000_9), (x429001_9), zr, H', ⟨Nat.le_refl _⟩, ⟨mR_ HO_5.out⟩, ⟨mB_ BK428.out⟩, ⟨zs GE428.out⟩⟩
     case round =>
      clear H'
      try clear c1
      try clear p2
      try clear c3
      try clear c3b0
      try clear c3b1
      try clear c4
      try clear c4b0
      try clear c4b1
      try clear p4
      try clear q4
      try clear hx4
      try clear c7
      try clear c7b0
      try clear c8
      try clear c8b0
      try clear c9
      try clear c9b0
      try clear c13
      try clear c13b0
      try clear hcz12_0
      try clear hcz12_1
      try clear hcz14_0
      try clear hcz14_1
      try clear hfz12_0
      try clear hfz12_1
      try clear hfz14_0
      try clear hfz14_1
      try clear hx427_0
      try clear hx427_1
      try clear p2
      try clear p4
      try clear p427
      try clear q4
      try clear q427
      obtain ⟨x26_3, x429000_3, x429001_3, rfl, HA, HK3, HO_5, BK428, HB⟩ := hrel
      cases gk with
      | zero => exact absurd HA.out (by simp [impl_latticeCells.l1])
      | succ k3 =>
       have H := HA.out
       clear HA
       simp only [impl_latticeCells.l1] at H
       by_cases c15 : x26_3 < (Int.tmod a1 6)
       ·rw [if_pos c15] at H
        have c15b0 : decide (x26_3 < (Int.tmod a1 6)) = true := decide_eq_true c15
        clear c15
        have H' := aM H
        clear H
        have hcz16_0 : wr.cell? ⟨gb428, 0, none⟩ = some (.int .i64 x429000_3) := (blk_cell BK428.out 0).trans rfl
        have hcz16_1 : wr.cell? ⟨gb428, 1, none⟩ = some (.int .i64 x429001_3) := (blk_cell BK428.out 1).trans rfl
        have hfz16_0 := blk_frozen BK428.out 0
        have hfz16_1 := blk_frozen BK428.out 1
        go_wp2
        go_roundg k3
        case measure => have := HK1.out; have := HJ9.out; have := HK3.out; omega
        case rel => exact ⟨(wrap64 (x26_3 + 1)), (wrap64 (-x429001_3)), (wrap64 (x429000_3 + x429001_3)), zr, H', ⟨by have := HK1.out; have := HJ9.out; have := HK3.out; omega⟩, ⟨by (with_reducible repeat (first | apply Kd.R_alloc | apply Kd.R_drewN | apply Kd.R_drew)); exact Kd.R_mono (Kd.R_far (p := ⟨gb428, 1, none⟩) (Kd.R_far (p := ⟨gb428, 0, none⟩) (Kd.R_mono HO_5.out (fun k_ hk => (⟨hk, hk⟩ : _ ∧ k_ ≠ gb428))) (fun _ hk => hk.2) (.int .i64 (wrap64 (-x429001_3)))) (fun _ hk => hk.2) (.int .i64 (wrap64 (x429000_3 + x429001_3)))) (fun _ hk => hk.1)⟩, ⟨by (with_reducible repeat (first | refine blk_drewN ?_ _ | refine blk_drew ?_ | refine blk_alloc ?_ _)); refine blk_put (cs := #[.int .i64 (wrap64 (-x429001_3)), .int .i64 x429001_3]) ?_ 1 _ rfl; (with_reducible repeat (first | refine blk_drewN ?_ _ | refine blk_drew ?_ | refine blk_alloc ?_ _)); refine blk_put (cs := #[.int .i64 x429000_3, .int .i64 x429001_3]) ?_ 0 _ rfl; (with_reducible repeat (first | refine blk_drewN ?_ _ | refine blk_drew ?_ | refine blk_alloc ?_ _)); exact BK428.out⟩, ⟨zs GE428.out⟩⟩
       rw [if_neg c15] at H
       have c15b0 : decide (x26_3 < (Int.tmod a1 6)) = false := decide_eq_false c15
       clear c15
       by_cases c17 : x5_1.length < 8796093022208
       rotate_left
       ·rw [if_neg c17] at H
        exact absurd H (by simp)
       rw [if_pos c17] at H
       have LMc17 := aM c17
       clear c17
       obtain ⟨y429, hy429⟩ : ∃ y_ : List (S43), y_ = (x5_1 ++ [(⟨x429000_3, x429001_3⟩ : S43)]) := ⟨_, rfl⟩
       replace H : (impl_latticeCells.l0 k3 a1 y429 l0 (l0.length : Int) (wrap64 (x13_1 + 1))) = some r := zy H hy429
       have Ny429 := aM hy429
       clear hy429
       have H' := aM H
       clear H
       have hcz18_0 : wr.cell? ⟨gb428, 0, none⟩ = some (.int .i64 x429000_3) := (blk_cell BK428.out 0).trans rfl
       have hcz18_1 : wr.cell? ⟨gb428, 1, none⟩ = some (.int .i64 x429001_3) := (blk_cell BK428.out 1).trans rfl
       have hfz18_0 := blk_frozen BK428.out 0
       have hfz18_1 := blk_frozen BK428.out 1
       go_wp2_with (first | ((with_reducible refine gate_builtin (b := .append) (xs := #[.tmp 38, .tmp 40]) rfl ?_); at_builtin; refine Kd.R_append k43 (w0 := w) w.heap.size rfl (.tmp 38) (.tmp 40) 36 43 (.agg #[(.int .i64 0), (.int .i64 0)]) 16 rfl Try.underlying36 info43 rfl (by decide) (by omega) u5 x5_1 (⟨x429000_3, x429001_3⟩ : S43) [.int .i64 x429000_3, .int .i64 x429001_3] (fun k_ => k_ ≠ gb428) (fun _ => False) rfl rfl ?aP (fun _ hk => hk.elim) ?aF ?aO ?aB ?aS ?aL ?_; (case aP => exact k43_mkM _ _ _ (⟨x429000_3, x429001_3⟩ : S43)); (case aB => exact (zs GE428.out)); (case aF => exact (fun k_ hk => Kd.freshB (g := gb428) (o := .cells #[.int .i64 x429000_3, .int .i64 x429001_3] 43 (0, 0)) (mB_ BK428.out) k_ hk)); (case aO => exact (mR_ HO_5.out)); (case aS => exact (below_size (zs GE428.out))); (case aL => have := LMc17.out; omega); intro v430 w19 ho hb hg hat; rw [← Ny429.out] at ho; have n0_ := aM (blk_grown (g := gb428) (o := .cells #[.int .i64 x429000_3, .int .i64 x429001_3] 43 (0, 0)) (mB_ BK428.out) hg (Kd.R_away HO_5.out (fun _ hk => hk))); have n1_ := aM (hb); have n2_ := aM (ho); clear BK428 HB HO_5; have BK428 := n0_; have HB := n1_; have HO431 := n2_; clear n0_ n1_ n2_; clear ho hb hg hat))
       go_roundg k3
       case measure => have := HK1.out; have := HJ9.out; have := HK3.out; omega
       case rel => exact ⟨(y429), (wrap64 (x13_1 + 1)), zr, H', ⟨by have := HK1.out; have := HJ9.out; have := HK3.out; omega⟩, ⟨zd1 HO431.out⟩, ⟨zs GE428.out⟩⟩
def impl_isCoordinate.f (a0 : Int) : Option (Bool) := (impl_within.f a0 (-100) 100).bind fun t438 => (some t438)
theorem impl_isCoordinate.calls (a0 : Int) (r : Bool) (w : World) (h : impl_isCoordinate.f a0 = some r) :
  Calls Try.prog 58 #[.int .i64 a0] w fun e w' => e = .returned (.bool r) ∧ Drawn0 w w' := by
 have H : ((impl_within.f a0 (-100) 100).bind fun t438 => (some t438)) = some r := h
 clear h
 replace H := Option.bind_eq_some_iff.mp H
 obtain ⟨t438, A20, H⟩ := H
 replace H : (some t438) = some r := H
 have A2 := aM A20
 clear A20
 obtain rfl := Option.some.inj H
 go_enter Try.func58, Try.ntmps58
 go_wp2_with (first | ((with_reducible refine gate_callee (f := 15) rfl ?_); refine goesL_ (some 4) rfl rfl Try.func15 (by kernel_rfl) rfl #[.int .i64 a0, .int .i64 (-100), .int .i64 100] rfl zm ?_; (with_reducible refine (impl_within.calls a0 (-100) 100 t438 _ A2.out).mono ?_); rintro e w' ⟨rfl, ⟨nd, rfl⟩⟩; refine ⟨_, rfl, ?_⟩))
 go_ret
 exact ⟨by first | rfl | (simp; done) | (simp [*]; done), by repeat (first | exact Drawn0.refl _ | apply Drawn0.step)⟩
def impl_IsShape.l0 : Nat → List (S43) → List (S43) → Int → Int → Option (Bool)
 | 0, _, _, _, _ => none
 | k + 1, x0, x5, x6, x7 => if x7 < x6 then (if 0 ≤ x7 then (if x7 < (x5.length : Int) then ((impl_isCoordinate.f ((rd_T43 x5 x7).f0)).bind fun t441 => (if t441 = true then ((impl_isCoordinate.f ((rd_T43 x5 x7).f1)).bind fun t442 => (if t442 = true then (if x7 > 0 then (if 0 ≤ (wrap64 (x7 - 1)) then (if (wrap64 (x7 - 1)) < (x0.length : Int) then ((impl_compareCells.f ((rd_T43 x0 (wrap64 (x7 - 1))).f0) ((rd_T43 x0 (wrap64 (x7 - 1))).f1) ((rd_T43 x5 x7).f0) ((rd_T43 x5 x7).f1)).bind fun t444 => (if t444 ≥ 0 then (some false) else (impl_IsShape.l0 k x0 x5 x6 (wrap64 (x7 + 1))))) else (none)) else (none)) else (impl_IsShape.l0 k x0 x5 x6 (wrap64 (x7 + 1)))) else (some false))) else (some false))) else (none)) else (none)) else (if (x0.length : Int) ≥ 1 then (some (decide ((x0.length : Int) ≤ 40))) else (some false))
def impl_IsShape.f (k : Nat) (l0 : List (S43)) : Option (Bool) := impl_IsShape.l0 k l0 l0 (l0.length : Int) 0
def impl_IsShape.T4 : Bool × List (List Nat × List Nat) := (true, [([], []), ([0], [0]), ([1], [1]), ([2], [2]), ([3, 2], [3]), ([4], [4]), ([5, 4], [4, 5]), ([6, 4, 4], [4, 6]), ([7, 4], [4, 7]), ([4, 8], [4, 8]), ([9, 7], [9]), ([10], [10]), ([11, 10], [10, 11]), ([12, 10, 10], [10, 12]), ([13], [13]), ([13], [13]), ([15, 13], [13, 15]), ([14, 16, 13], [13, 14, 16]), ([17, 13], [13, 17]), ([13], [13]), ([18, 19, 13, 13], [13, 18, 19]), ([20, 13], [13, 20]), ([13, 21, 10], [10, 13, 21]), ([10, 22], [10, 22])])
def impl_IsShape.B4 : List Nat := [0, 1, 3, 7, 15, 31, 63, 127, 255, 511, 1023, 2047, 4095, 8191, 16383, 16383, 49151, 131071, 262143, 16383, 1048575, 2097151, 4194303, 8388607]
theorem impl_IsShape.tab4 : rtab .any (opsOf Try.f47 4) = impl_IsShape.T4 := by kernel_rfl
theorem impl_IsShape.bits4 : waitsOk impl_IsShape.T4.2 impl_IsShape.B4 = true := by kernel_rfl
theorem impl_IsShape.calls (k : Nat) (A0 : Option Addr) (c0 : Nat) (l0 : List (S43)) (r : Bool) (w : World) (hr0 : Kd.C k43 w A0 l0.length l0) (hc0 : l0.length ≤ c0) (h : impl_IsShape.f k l0 = some r) :
  Calls Try.prog 47 #[.slice A0 l0.length c0] w fun e w' => e = .returned (.bool r) ∧ Below w.heap.size w w' := by
 have hu43 := Try.underlying43
 have HR0 := aM hr0
 have HC0 := aM hc0
 clear hr0 hc0
 have HB := aM (Below.refl w.heap.size w)
 have H : (impl_IsShape.l0 k l0 l0 (l0.length : Int) 0) = some r := h
 clear h
 have H' := aM H
 clear H
 go_enter Try.func47, Try.ntmps47
 go_wp2
 go_loopg [7] k (fun kq v7 w' => ∃ (x7_1 : Int), v7 = .int .i64 x7_1 ∧ Aside0 (impl_IsShape.l0 kq l0 l0 (l0.length : Int) x7_1 = some r) ∧ Aside0 (kq ≤ k) ∧ Aside0 (Below w.heap.size w w'))
 case atStart => exact ⟨(0), zr, H', ⟨Nat.le_refl _⟩, ⟨zb⟩⟩
 case round =>
  clear H'
  obtain ⟨x7_1, rfl, HA, HK1, HB⟩ := hrel
  cases gk with
  | zero => exact absurd HA.out (by simp [impl_IsShape.l0])
  | succ k1 =>
   have H := HA.out
   clear HA
   simp only [impl_IsShape.l0] at H
   by_cases c2 : x7_1 < (l0.length : Int)
   rotate_left
   ·rw [if_neg c2] at H
    have c2b0 : decide (x7_1 < (l0.length : Int)) = false := decide_eq_false c2
    clear c2
    by_cases c37 : (l0.length : Int) ≥ 1
    ·rw [if_pos c37] at H
     have c37b0 : decide (1 ≤ (l0.length : Int)) = true := decide_eq_true c37
     have c37b1 : decide (1 ≤ l0.length) = true := decide_eq_true (by omega)
     clear c37
     obtain rfl := Option.some.inj H
     go_wp2
     go_ret
     exact ⟨zw, zb⟩
    rw [if_neg c37] at H
    have c37b0 : decide (1 ≤ (l0.length : Int)) = false := decide_eq_false c37
    have c37b1 : decide (1 ≤ l0.length) = false := decide_eq_false (by omega)
    clear c37
    obtain rfl := Option.some.inj H
    go_wp2
    go_ret
    exact ⟨zw, zb⟩
   rw [if_pos c2] at H
   have c2b0 : decide (x7_1 < (l0.length : Int)) = true := decide_eq_true c2
   clear c2
   by_cases c3 : 0 ≤ x7_1
   rotate_left
   ·rw [if_neg c3] at H
    exact absurd H (by simp)
   rw [if_pos c3] at H
   have c3b0 : decide (0 ≤ x7_1) = true := decide_eq_true c3
   clear c3
   by_cases c4 : x7_1 < (l0.length : Int)
   rotate_left
   ·rw [if_neg c4] at H
    exact absurd H (by simp)
   rw [if_pos c4] at H
   have c4b0 : decide (x7_1 < (l0.length : Int)) = true := decide_eq_true c4
   clear c4
   replace H := Option.bind_eq_some_iff.mp H
   obtain ⟨t441, A50, H⟩ := H
   replace H : (if t441 = true then ((impl_isCoordinate.f ((rd_T43 l0 x7_1).f1)).bind fun t442 => (if t442 = true then (if x7_1 > 0 then (if 0 ≤ (wrap64 (x7_1 - 1)) then (if (wrap64 (x7_1 - 1)) < (l0.length : Int) then ((impl_compareCells.f ((rd_T43 l0 (wrap64 (x7_1 - 1))).f0) ((rd_T43 l0 (wrap64 (x7_1 - 1))).f1) ((rd_T43 l0 x7_1).f0) ((rd_T43 l0 x7_1).f1)).bind fun t444 => (if t444 ≥ 0 then (some false) else (impl_IsShape.l0 k1 l0 l0 (l0.length : Int) (wrap64 (x7_1 + 1))))) else (none)) else (none)) else (impl_IsShape.l0 k1 l0 l0 (l0.length : Int) (wrap64 (x7_1 + 1)))) else (some false))) else (some false)) = some r := H
   have A5 := aM A50
   clear A50
   by_cases c6 : t441 = true
   rotate_left
   ·replace c6 := Bool.eq_false_iff.mpr c6
    subst c6
    have H1 : (some false) = some r := by rw [if_neg (show ¬ (false = true) by decide)] at H; exact H
    clear H
    have H := H1
    clear H1
    obtain rfl := Option.some.inj H
    have p439 : 0 ≤ (x7_1 : Int) := of_decide_eq_true za
    have q439 : x7_1 < (l0.length : Int) := of_decide_eq_true za
    obtain ⟨ad439, e439, hx439_0, hx439_1⟩ := at_T43 HR0.out x7_1 p439 q439
    cases e439
    replace hx439_0 := zk HB.out hx439_0
    replace hx439_1 := zk HB.out hx439_1
    replace p439 := eq_true p439
    replace q439 := eq_true q439
    try go_wp2_with (first | ((with_reducible refine gate_dst (N := 4) rfl ?_); (try (refine gate_guard (by rfl) ?_; dsimp only)); refine zx 4 #[.int .i64 0, .int .i64 0] 43 ?_; intro gb440 hg w33 hbox hb; have n0_ := aM (below_step zb hb); have n1_ := aM (hbox); have n2_ := aM ((ze : w.heap.size ≤ gb440)); have n3_ := aM ((ze : w.heap.size ≤ gb440)); clear HB; have HB := n0_; have BK440 := n1_; have GW440 := n2_; have GE440 := n3_; clear n0_ n1_ n2_ n3_ hb hbox hg; have hcz34_0 : w33.cell? ⟨gb440, 0, none⟩ = some (.int .i64 0) := (blk_cell BK440.out 0).trans rfl; have hcz34_1 : w33.cell? ⟨gb440, 1, none⟩ = some (.int .i64 0) := (blk_cell BK440.out 1).trans rfl; have hfz34_0 := blk_frozen BK440.out 0; have hfz34_1 := blk_frozen BK440.out 1))
    have n0_ : Aside0 (((w33.setCell ⟨gb440, 0, none⟩ (.int .i64 ((rd_T43 l0 x7_1).f0))).setCell ⟨gb440, 1, none⟩ (.int .i64 ((rd_T43 l0 x7_1).f1))).heap[gb440]? = some (.cells #[.int .i64 ((rd_T43 l0 x7_1).f0), .int .i64 ((rd_T43 l0 x7_1).f1)] 43 (0, 0))) := ⟨by (with_reducible repeat (first | refine blk_drewN ?_ _ | refine blk_drew ?_ | refine blk_alloc ?_ _)); refine blk_put (cs := #[.int .i64 ((rd_T43 l0 x7_1).f0), .int .i64 0]) ?_ 1 _ rfl; (with_reducible repeat (first | refine blk_drewN ?_ _ | refine blk_drew ?_ | refine blk_alloc ?_ _)); refine blk_put (cs := #[.int .i64 0, .int .i64 0]) ?_ 0 _ rfl; (with_reducible repeat (first | refine blk_drewN ?_ _ | refine blk_drew ?_ | refine blk_alloc ?_ _)); exact BK440.out⟩
    have n1_ : Aside0 (Below w.heap.size w ((w33.setCell ⟨gb440, 0, none⟩ (.int .i64 ((rd_T43 l0 x7_1).f0))).setCell ⟨gb440, 1, none⟩ (.int .i64 ((rd_T43 l0 x7_1).f1)))) := ⟨zs GE440.out⟩
    (try clear BK440)
    (try clear HB)
    generalize ((w33.setCell ⟨gb440, 0, none⟩ (.int .i64 ((rd_T43 l0 x7_1).f0))).setCell ⟨gb440, 1, none⟩ (.int .i64 ((rd_T43 l0 x7_1).f1))) = w35 at n0_ n1_ ⊢
    have BK440 := n0_
    have HB := n1_
    clear n0_ n1_
    have n0_ := aM (blk_drew BK440.out)
    have n1_ := aM (below_drew1 HB.out)
    clear BK440
    clear HB
    have BK440 := n0_
    have HB := n1_
    clear n0_ n1_
    refine start_ (n := 24) (S := fun w' => w'.cell? ⟨gb440, 0, none⟩ = some (.int .i64 ((rd_T43 l0 x7_1).f0)) ∧ w'.cell? ⟨gb440, 1, none⟩ = some (.int .i64 ((rd_T43 l0 x7_1).f1))) (ds := []) zA95 (by kernel_rfl) rfl rfl ⟨(blk_cell BK440.out 0).trans rfl, (blk_cell BK440.out 1).trans rfl⟩ (fun hHeld => ?_); refine with_tabW impl_IsShape.tab4 impl_IsShape.bits4 (fun HT_ HW_ => ?_)
    generalize w35.drew = w36 at BK440 HB hHeld ⊢
    refine zp 0 (some 12) ?_ zA96 rfl rfl (Or.inl ⟨by rfl, ?_⟩) ?_ ?_ ?_
    rotate_left
    ·intro w'
     go_simp
     with_reducible rfl
    rotate_left
    ·simp only [Act.put, xA, xB, xC, i64_w, i32_w]
     rfl
    refine zu 1 (some 13) ?_ zA97 rfl rfl (Or.inl ⟨by rfl, ?_⟩) hHeld ?_ ?_ ?_
    rotate_left
    ·rintro w' ⟨s0, s1⟩
     go_simp
     with_reducible rfl
    rotate_left
    ·simp only [Act.put, xA, xB, xC, i64_w, i32_w]
     rfl
    refine one_ (i := 2) (N := some 14) zA98 rfl rfl (one_of HT_.out (by kernel_rfl)) (by decide) (fun K hK => ?_)
    refine goes_ Try.func58 (by kernel_rfl) rfl #[.int .i64 ((rd_T43 l0 x7_1).f0)] (by rfl) rfl rfl zm ?_
    with_reducible refine (impl_isCoordinate.calls ((rd_T43 l0 x7_1).f0) false _ A5.out).mono ?_
    rintro e w' ⟨rfl, ⟨nd, rfl⟩⟩
    refine ⟨_, rfl, ?_⟩
    refine hK.out _ _ ⟨(blk_cell BK440.out 0).trans rfl, (blk_cell BK440.out 1).trans rfl⟩ (fun hHeld => ?_)
    clear hK K
    refine norm_ (a' := ?_) ?_ ?_
    rotate_left
    ·show Act.put _ (some 14) _ = _
     simp only [Act.put, xA, xB, xC, i64_w, i32_w]
     rfl
    refine zp 3 (some 15) ?_ zA99 rfl rfl (Or.inl ⟨by rfl, ?_⟩) ?_ ?_ ?_
    rotate_left
    ·intro w'
     go_simp
     with_reducible rfl
    rotate_left
    ·simp only [Act.put, xA, xB, xC, i64_w, i32_w]
     rfl
    refine zp 4 (some 16) ?_ zA100 rfl rfl (Or.inl ⟨by rfl, ?_⟩) ?_ ?_ ?_
    rotate_left
    ·intro w'
     go_simp
     with_reducible rfl
    rotate_left
    ·simp only [Act.put, xA, xB, xC, i64_w, i32_w]
     rfl
    refine zp 5 (some 17) undef zA101 rfl rfl (Or.inr ⟨by rfl, rfl⟩) ?_ ?_ ?_
    rotate_left
    ·simp only [Act.put, xA, xB, xC, i64_w, i32_w]
     rfl
    refine zp 6 (some 18) undef zA102 rfl rfl (Or.inr ⟨by rfl, rfl⟩) ?_ ?_ ?_
    rotate_left
    ·simp only [Act.put, xA, xB, xC, i64_w, i32_w]
     rfl
    refine zp 7 (some 19) undef zA103 rfl rfl (Or.inr ⟨by rfl, rfl⟩) ?_ ?_ ?_
    rotate_left
    ·simp only [Act.put, xA, xB, xC, i64_w, i32_w]
     rfl
    refine zp 8 (some 20) undef zA104 rfl rfl (Or.inr ⟨by rfl, rfl⟩) ?_ ?_ ?_
    rotate_left
    ·simp only [Act.put, xA, xB, xC, i64_w, i32_w]
     rfl
    refine zp 9 (some 21) ?_ zA105 rfl rfl (Or.inl ⟨by rfl, ?_⟩) ?_ ?_ ?_
    rotate_left
    ·intro w'
     go_simp
     with_reducible rfl
    rotate_left
    ·simp only [Act.put, xA, xB, xC, i64_w, i32_w]
     rfl
    refine zp 10 (some 22) ?_ zA106 rfl rfl (Or.inl ⟨by rfl, ?_⟩) ?_ ?_ ?_
    rotate_left
    ·intro w'
     go_simp
     with_reducible rfl
    rotate_left
    ·simp only [Act.put, xA, xB, xC, i64_w, i32_w]
     rfl
    refine zp 11 (some 23) undef zA107 rfl rfl (Or.inr ⟨by rfl, rfl⟩) ?_ ?_ ?_
    rotate_left
    ·simp only [Act.put, xA, xB, xC, i64_w, i32_w]
     rfl
    refine zp 12 (some 24) undef zA108 rfl rfl (Or.inr ⟨by rfl, rfl⟩) ?_ ?_ ?_
    rotate_left
    ·simp only [Act.put, xA, xB, xC, i64_w, i32_w]
     rfl
    refine zp 13 (some 25) undef zA109 rfl rfl (Or.inr ⟨by rfl, rfl⟩) ?_ ?_ ?_
    rotate_left
    ·simp only [Act.put, xA, xB, xC, i64_w, i32_w]
     rfl
    refine zp 14 (some 26) undef zA110 rfl rfl (Or.inr ⟨by rfl, rfl⟩) ?_ ?_ ?_
    rotate_left
    ·simp only [Act.put, xA, xB, xC, i64_w, i32_w]
     rfl
    refine zp 15 (some 27) undef zA111 rfl rfl (Or.inr ⟨by rfl, rfl⟩) ?_ ?_ ?_
    rotate_left
    ·simp only [Act.put, xA, xB, xC, i64_w, i32_w]
     rfl
    refine zp 16 (some 28) undef zA112 rfl rfl (Or.inr ⟨by rfl, rfl⟩) ?_ ?_ ?_
    rotate_left
    ·simp only [Act.put, xA, xB, xC, i64_w, i32_w]
     rfl
    refine zp 17 (some 29) undef zA113 rfl rfl (Or.inr ⟨by rfl, rfl⟩) ?_ ?_ ?_
    rotate_left
    ·simp only [Act.put, xA, xB, xC, i64_w, i32_w]
     rfl
    refine zp 18 (some 30) undef zA114 rfl rfl (Or.inr ⟨by rfl, rfl⟩) ?_ ?_ ?_
    rotate_left
    ·simp only [Act.put, xA, xB, xC, i64_w, i32_w]
     rfl
    refine zp 19 (some 31) undef zA115 rfl rfl (Or.inr ⟨by rfl, rfl⟩) ?_ ?_ ?_
    rotate_left
    ·simp only [Act.put, xA, xB, xC, i64_w, i32_w]
     rfl
    refine zp 20 (some 32) undef zA116 rfl rfl (Or.inr ⟨by rfl, rfl⟩) ?_ ?_ ?_
    rotate_left
    ·simp only [Act.put, xA, xB, xC, i64_w, i32_w]
     rfl
    refine zp 21 (some 33) undef zA117 rfl rfl (Or.inr ⟨by rfl, rfl⟩) ?_ ?_ ?_
    rotate_left
    ·simp only [Act.put, xA, xB, xC, i64_w, i32_w]
     rfl
    refine zp 22 (some 34) undef zA118 rfl rfl (Or.inr ⟨by rfl, rfl⟩) ?_ ?_ ?_
    rotate_left
    ·simp only [Act.put, xA, xB, xC, i64_w, i32_w]
     rfl
    refine zp 23 (some 35) ?_ zA119 rfl rfl (Or.inl ⟨by rfl, ?_⟩) ?_ ?_ ?_
    rotate_left
    ·intro w'
     go_simp
     with_reducible rfl
    rotate_left
    ·simp only [Act.put, xA, xB, xC, i64_w, i32_w]
     rfl
    refine done_ (done_of HT_.out (by kernel_rfl)) ?_
    try go_wp2
    go_ret
    exact ⟨zw, zs GE440.out⟩
   subst c6
   have H1 : ((impl_isCoordinate.f ((rd_T43 l0 x7_1).f1)).bind fun t442 => (if t442 = true then (if x7_1 > 0 then (if 0 ≤ (wrap64 (x7_1 - 1)) then (if (wrap64 (x7_1 - 1)) < (l0.length : Int) then ((impl_compareCells.f ((rd_T43 l0 (wrap64 (x7_1 - 1))).f0) ((rd_T43 l0 (wrap64 (x7_1 - 1))).f1) ((rd_T43 l0 x7_1).f0) ((rd_T43 l0 x7_1).f1)).bind fun t444 => (if t444 ≥ 0 then (some false) else (impl_IsShape.l0 k1 l0 l0 (l0.length : Int) (wrap64 (x7_1 + 1))))) else (none)) else (none)) else (impl_IsShape.l0 k1 l0 l0 (l0.length : Int) (wrap64 (x7_1 + 1)))) else (some false))) = some r := by rw [if_pos rfl] at H; exact H
   clear H
   have H := H1
   clear H1
   replace H := Option.bind_eq_some_iff.mp H
   obtain ⟨t442, A70, H⟩ := H
   replace H : (if t442 = true then (if x7_1 > 0 then (if 0 ≤ (wrap64 (x7_1 - 1)) then (if (wrap64 (x7_1 - 1)) < (l0.length : Int) then ((impl_compareCells.f ((rd_T43 l0 (wrap64 (x7_1 - 1))).f0) ((rd_T43 l0 (wrap64 (x7_1 - 1))).f1) ((rd_T43 l0 x7_1).f0) ((rd_T43 l0 x7_1).f1)).bind fun t444 => (if t444 ≥ 0 then (some false) else (impl_IsShape.l0 k1 l0 l0 (l0.length : Int) (wrap64 (x7_1 + 1))))) else (none)) else (none)) else (impl_IsShape.l0 k1 l0 l0 (l0.length : Int) (wrap64 (x7_1 + 1)))) else (some false)) = some r := H
   have A7 := aM A70
   clear A70
   by_cases c8 : t442 = true
   rotate_left
   ·replace c8 := Bool.eq_false_iff.mpr c8
    subst c8
    have H1 : (some false) = some r := by rw [if_neg (show ¬ (false = true) by decide)] at H; exact H
    clear H
    have H := H1
    clear H1
    obtain rfl := Option.some.inj H
    have p439 : 0 ≤ (x7_1 : Int) := of_decide_eq_true za
    have q439 : x7_1 < (l0.length : Int) := of_decide_eq_true za
    obtain ⟨ad439, e439, hx439_0, hx439_1⟩ := at_T43 HR0.out x7_1 p439 q439
    cases e439
    replace hx439_0 := zk HB.out hx439_0
    replace hx439_1 := zk HB.out hx439_1
    replace p439 := eq_true p439
    replace q439 := eq_true q439
    try go_wp2_with (first | ((with_reducible refine gate_dst (N := 4) rfl ?_); (try (refine gate_guard (by rfl) ?_; dsimp only)); refine zx 4 #[.int .i64 0, .int .i64 0] 43 ?_; intro gb440 hg w29 hbox hb; have n0_ := aM (below_step zb hb); have n1_ := aM (hbox); have n2_ := aM ((ze : w.heap.size ≤ gb440)); have n3_ := aM ((ze : w.heap.size ≤ gb440)); clear HB; have HB := n0_; have BK440 := n1_; have GW440 := n2_; have GE440 := n3_; clear n0_ n1_ n2_ n3_ hb hbox hg; have hcz30_0 : w29.cell? ⟨gb440, 0, none⟩ = some (.int .i64 0) := (blk_cell BK440.out 0).trans rfl; have hcz30_1 : w29.cell? ⟨gb440, 1, none⟩ = some (.int .i64 0) := (blk_cell BK440.out 1).trans rfl; have hfz30_0 := blk_frozen BK440.out 0; have hfz30_1 := blk_frozen BK440.out 1))
    have n0_ : Aside0 (((w29.setCell ⟨gb440, 0, none⟩ (.int .i64 ((rd_T43 l0 x7_1).f0))).setCell ⟨gb440, 1, none⟩ (.int .i64 ((rd_T43 l0 x7_1).f1))).heap[gb440]? = some (.cells #[.int .i64 ((rd_T43 l0 x7_1).f0), .int .i64 ((rd_T43 l0 x7_1).f1)] 43 (0, 0))) := ⟨by (with_reducible repeat (first | refine blk_drewN ?_ _ | refine blk_drew ?_ | refine blk_alloc ?_ _)); refine blk_put (cs := #[.int .i64 ((rd_T43 l0 x7_1).f0), .int .i64 0]) ?_ 1 _ rfl; (with_reducible repeat (first | refine blk_drewN ?_ _ | refine blk_drew ?_ | refine blk_alloc ?_ _)); refine blk_put (cs := #[.int .i64 0, .int .i64 0]) ?_ 0 _ rfl; (with_reducible repeat (first | refine blk_drewN ?_ _ | refine blk_drew ?_ | refine blk_alloc ?_ _)); exact BK440.out⟩
    have n1_ : Aside0 (Below w.heap.size w ((w29.setCell ⟨gb440, 0, none⟩ (.int .i64 ((rd_T43 l0 x7_1).f0))).setCell ⟨gb440, 1, none⟩ (.int .i64 ((rd_T43 l0 x7_1).f1)))) := ⟨zs GE440.out⟩
    (try clear BK440)
    (try clear HB)
    generalize ((w29.setCell ⟨gb440, 0, none⟩ (.int .i64 ((rd_T43 l0 x7_1).f0))).setCell ⟨gb440, 1, none⟩ (.int .i64 ((rd_T43 l0 x7_1).f1))) = w31 at n0_ n1_ ⊢
    have BK440 := n0_
    have HB := n1_
    clear n0_ n1_
    have n0_ := aM (blk_drew BK440.out)
    have n1_ := aM (below_drew1 HB.out)
    clear BK440
    clear HB
    have BK440 := n0_
    have HB := n1_
    clear n0_ n1_
    refine start_ (n := 24) (S := fun w' => w'.cell? ⟨gb440, 0, none⟩ = some (.int .i64 ((rd_T43 l0 x7_1).f0)) ∧ w'.cell? ⟨gb440, 1, none⟩ = some (.int .i64 ((rd_T43 l0 x7_1).f1))) (ds := []) zA95 (by kernel_rfl) rfl rfl ⟨(blk_cell BK440.out 0).trans rfl, (blk_cell BK440.out 1).trans rfl⟩ (fun hHeld => ?_); refine with_tabW impl_IsShape.tab4 impl_IsShape.bits4 (fun HT_ HW_ => ?_)
    generalize w31.drew = w32 at BK440 HB hHeld ⊢
    refine zp 0 (some 12) ?_ zA96 rfl rfl (Or.inl ⟨by rfl, ?_⟩) ?_ ?_ ?_
    rotate_left
    ·intro w'
     go_simp
     with_reducible rfl
    rotate_left
    ·simp only [Act.put, xA, xB, xC, i64_w, i32_w]
     rfl
    refine zu 1 (some 13) ?_ zA97 rfl rfl (Or.inl ⟨by rfl, ?_⟩) hHeld ?_ ?_ ?_
    rotate_left
    ·rintro w' ⟨s0, s1⟩
     go_simp
     with_reducible rfl
    rotate_left
    ·simp only [Act.put, xA, xB, xC, i64_w, i32_w]
     rfl
    refine one_ (i := 2) (N := some 14) zA98 rfl rfl (one_of HT_.out (by kernel_rfl)) (by decide) (fun K hK => ?_)
    refine goes_ Try.func58 (by kernel_rfl) rfl #[.int .i64 ((rd_T43 l0 x7_1).f0)] (by rfl) rfl rfl zm ?_
    with_reducible refine (impl_isCoordinate.calls ((rd_T43 l0 x7_1).f0) true _ A5.out).mono ?_
    rintro e w' ⟨rfl, ⟨nd, rfl⟩⟩
    refine ⟨_, rfl, ?_⟩
    refine hK.out _ _ ⟨(blk_cell BK440.out 0).trans rfl, (blk_cell BK440.out 1).trans rfl⟩ (fun hHeld => ?_)
    clear hK K
    refine norm_ (a' := ?_) ?_ ?_
    rotate_left
    ·show Act.put _ (some 14) _ = _
     simp only [Act.put, xA, xB, xC, i64_w, i32_w]
     rfl
    refine zp 3 (some 15) ?_ zA99 rfl rfl (Or.inl ⟨by rfl, ?_⟩) ?_ ?_ ?_
    rotate_left
    ·intro w'
     go_simp
     with_reducible rfl
    rotate_left
    ·simp only [Act.put, xA, xB, xC, i64_w, i32_w]
     rfl
    refine zp 4 (some 16) ?_ zA100 rfl rfl (Or.inl ⟨by rfl, ?_⟩) ?_ ?_ ?_
    rotate_left
    ·intro w'
     go_simp
     with_reducible rfl
    rotate_left
    ·simp only [Act.put, xA, xB, xC, i64_w, i32_w]
     rfl
    refine zp 5 (some 17) ?_ zA101 rfl rfl (Or.inl ⟨by rfl, ?_⟩) ?_ ?_ ?_
    rotate_left
    ·intro w'
     go_simp
     with_reducible rfl
    rotate_left
    ·simp only [Act.put, xA, xB, xC, i64_w, i32_w]
     rfl
    refine zu 6 (some 18) ?_ zA102 rfl rfl (Or.inl ⟨by rfl, ?_⟩) hHeld ?_ ?_ ?_
    rotate_left
    ·rintro w' ⟨s0, s1⟩
     go_simp
     with_reducible rfl
    rotate_left
    ·simp only [Act.put, xA, xB, xC, i64_w, i32_w]
     rfl
    refine one_ (i := 7) (N := some 19) zA103 rfl rfl (one_of HT_.out (by kernel_rfl)) (by decide) (fun K hK => ?_)
    refine goes_ Try.func58 (by kernel_rfl) rfl #[.int .i64 ((rd_T43 l0 x7_1).f1)] (by rfl) rfl rfl zm ?_
    with_reducible refine (impl_isCoordinate.calls ((rd_T43 l0 x7_1).f1) false _ A7.out).mono ?_
    rintro e w' ⟨rfl, ⟨nd, rfl⟩⟩
    refine ⟨_, rfl, ?_⟩
    refine hK.out _ _ ⟨(blk_cell BK440.out 0).trans rfl, (blk_cell BK440.out 1).trans rfl⟩ (fun hHeld => ?_)
    clear hK K
    refine norm_ (a' := ?_) ?_ ?_
    rotate_left
    ·show Act.put _ (some 19) _ = _
     simp only [Act.put, xA, xB, xC, i64_w, i32_w]
     rfl
    refine zp 8 (some 20) ?_ zA104 rfl rfl (Or.inl ⟨by rfl, ?_⟩) ?_ ?_ ?_
    rotate_left
    ·intro w'
     go_simp
     with_reducible rfl
    rotate_left
    ·simp only [Act.put, xA, xB, xC, i64_w, i32_w]
     rfl
    refine zp 9 (some 21) ?_ zA105 rfl rfl (Or.inl ⟨by rfl, ?_⟩) ?_ ?_ ?_
    rotate_left
    ·intro w'
     go_simp
     with_reducible rfl
    rotate_left
    ·simp only [Act.put, xA, xB, xC, i64_w, i32_w]
     rfl
    refine zp 10 (some 22) ?_ zA106 rfl rfl (Or.inl ⟨by rfl, ?_⟩) ?_ ?_ ?_
    rotate_left
    ·intro w'
     go_simp
     with_reducible rfl
    rotate_left
    ·simp only [Act.put, xA, xB, xC, i64_w, i32_w]
     rfl
    refine zp 11 (some 23) undef zA107 rfl rfl (Or.inr ⟨by rfl, rfl⟩) ?_ ?_ ?_
    rotate_left
    ·simp only [Act.put, xA, xB, xC, i64_w, i32_w]
     rfl
    refine zp 12 (some 24) undef zA108 rfl rfl (Or.inr ⟨by rfl, rfl⟩) ?_ ?_ ?_
    rotate_left
    ·simp only [Act.put, xA, xB, xC, i64_w, i32_w]
     rfl
    refine zp 13 (some 25) undef zA109 rfl rfl (Or.inr ⟨by rfl, rfl⟩) ?_ ?_ ?_
    rotate_left
    ·simp only [Act.put, xA, xB, xC, i64_w, i32_w]
     rfl
    refine zp 14 (some 26) undef zA110 rfl rfl (Or.inr ⟨by rfl, rfl⟩) ?_ ?_ ?_
    rotate_left
    ·simp only [Act.put, xA, xB, xC, i64_w, i32_w]
     rfl
    refine zp 15 (some 27) undef zA111 rfl rfl (Or.inr ⟨by rfl, rfl⟩) ?_ ?_ ?_
    rotate_left
    ·simp only [Act.put, xA, xB, xC, i64_w, i32_w]
     rfl
    refine zp 16 (some 28) undef zA112 rfl rfl (Or.inr ⟨by rfl, rfl⟩) ?_ ?_ ?_
    rotate_left
    ·simp only [Act.put, xA, xB, xC, i64_w, i32_w]
     rfl
    refine zp 17 (some 29) undef zA113 rfl rfl (Or.inr ⟨by rfl, rfl⟩) ?_ ?_ ?_
    rotate_left
    ·simp only [Act.put, xA, xB, xC, i64_w, i32_w]
     rfl
    refine zp 18 (some 30) undef zA114 rfl rfl (Or.inr ⟨by rfl, rfl⟩) ?_ ?_ ?_
    rotate_left
    ·simp only [Act.put, xA, xB, xC, i64_w, i32_w]
     rfl
    refine zp 19 (some 31) undef zA115 rfl rfl (Or.inr ⟨by rfl, rfl⟩) ?_ ?_ ?_
    rotate_left
    ·simp only [Act.put, xA, xB, xC, i64_w, i32_w]
     rfl
    refine zp 20 (some 32) undef zA116 rfl rfl (Or.inr ⟨by rfl, rfl⟩) ?_ ?_ ?_
    rotate_left
    ·simp only [Act.put, xA, xB, xC, i64_w, i32_w]
     rfl
    refine zp 21 (some 33) undef zA117 rfl rfl (Or.inr ⟨by rfl, rfl⟩) ?_ ?_ ?_
    rotate_left
    ·simp only [Act.put, xA, xB, xC, i64_w, i32_w]
     rfl
    refine zp 22 (some 34) undef zA118 rfl rfl (Or.inr ⟨by rfl, rfl⟩) ?_ ?_ ?_
    rotate_left
    ·simp only [Act.put, xA, xB, xC, i64_w, i32_w]
     rfl
    refine zp 23 (some 35) ?_ zA119 rfl rfl (Or.inl ⟨by rfl, ?_⟩) ?_ ?_ ?_
    rotate_left
    ·intro w'
     go_simp
     with_reducible rfl
    rotate_left
    ·simp only [Act.put, xA, xB, xC, i64_w, i32_w]
     rfl
    refine done_ (done_of HT_.out (by kernel_rfl)) ?_
    try go_wp2
    go_ret
    exact ⟨zw, zs GE440.out⟩
   subst c8
   have H1 : (if x7_1 > 0 then (if 0 ≤ (wrap64 (x7_1 - 1)) then (if (wrap64 (x7_1 - 1)) < (l0.length : Int) then ((impl_compareCells.f ((rd_T43 l0 (wrap64 (x7_1 - 1))).f0) ((rd_T43 l0 (wrap64 (x7_1 - 1))).f1) ((rd_T43 l0 x7_1).f0) ((rd_T43 l0 x7_1).f1)).bind fun t444 => (if t444 ≥ 0 then (some false) else (impl_IsShape.l0 k1 l0 l0 (l0.length : Int) (wrap64 (x7_1 + 1))))) else (none)) else (none)) else (impl_IsShape.l0 k1 l0 l0 (l0.length : Int) (wrap64 (x7_1 + 1)))) = some r := by rw [if_pos rfl] at H; exact H
   clear H
   have H := H1
   clear H1
   by_cases c9 : x7_1 > 0
   rotate_left
   ·rw [if_neg c9] at H
    have c9b0 : decide (0 < x7_1) = false := decide_eq_false c9
    clear c9
    have H' := aM H
    clear H
    have p439 : 0 ≤ (x7_1 : Int) := of_decide_eq_true za
    have q439 : x7_1 < (l0.length : Int) := of_decide_eq_true za
    obtain ⟨ad439, e439, hx439_0, hx439_1⟩ := at_T43 HR0.out x7_1 p439 q439
    cases e439
    replace hx439_0 := zk HB.out hx439_0
    replace hx439_1 := zk HB.out hx439_1
    replace p439 := eq_true p439
    replace q439 := eq_true q439
    try go_wp2_with (first | ((with_reducible refine gate_dst (N := 4) rfl ?_); (try (refine gate_guard (by rfl) ?_; dsimp only)); refine zx 4 #[.int .i64 0, .int .i64 0] 43 ?_; intro gb440 hg w25 hbox hb; have n0_ := aM (below_step zb hb); have n1_ := aM (hbox); have n2_ := aM ((ze : w.heap.size ≤ gb440)); have n3_ := aM ((ze : w.heap.size ≤ gb440)); clear HB; have HB := n0_; have BK440 := n1_; have GW440 := n2_; have GE440 := n3_; clear n0_ n1_ n2_ n3_ hb hbox hg; have hcz26_0 : w25.cell? ⟨gb440, 0, none⟩ = some (.int .i64 0) := (blk_cell BK440.out 0).trans rfl; have hcz26_1 : w25.cell? ⟨gb440, 1, none⟩ = some (.int .i64 0) := (blk_cell BK440.out 1).trans rfl; have hfz26_0 := blk_frozen BK440.out 0; have hfz26_1 := blk_frozen BK440.out 1))
    have n0_ : Aside0 (((w25.setCell ⟨gb440, 0, none⟩ (.int .i64 ((rd_T43 l0 x7_1).f0))).setCell ⟨gb440, 1, none⟩ (.int .i64 ((rd_T43 l0 x7_1).f1))).heap[gb440]? = some (.cells #[.int .i64 ((rd_T43 l0 x7_1).f0), .int .i64 ((rd_T43 l0 x7_1).f1)] 43 (0, 0))) := ⟨by (with_reducible repeat (first | refine blk_drewN ?_ _ | refine blk_drew ?_ | refine blk_alloc ?_ _)); refine blk_put (cs := #[.int .i64 ((rd_T43 l0 x7_1).f0), .int .i64 0]) ?_ 1 _ rfl; (with_reducible repeat (first | refine blk_drewN ?_ _ | refine blk_drew ?_ | refine blk_alloc ?_ _)); refine blk_put (cs := #[.int .i64 0, .int .i64 0]) ?_ 0 _ rfl; (with_reducible repeat (first | refine blk_drewN ?_ _ | refine blk_drew ?_ | refine blk_alloc ?_ _)); exact BK440.out⟩
    have n1_ : Aside0 (Below w.heap.size w ((w25.setCell ⟨gb440, 0, none⟩ (.int .i64 ((rd_T43 l0 x7_1).f0))).setCell ⟨gb440, 1, none⟩ (.int .i64 ((rd_T43 l0 x7_1).f1)))) := ⟨zs GE440.out⟩
    (try clear BK440)
    (try clear HB)
    generalize ((w25.setCell ⟨gb440, 0, none⟩ (.int .i64 ((rd_T43 l0 x7_1).f0))).setCell ⟨gb440, 1, none⟩ (.int .i64 ((rd_T43 l0 x7_1).f1))) = w27 at n0_ n1_ ⊢
    have BK440 := n0_
    have HB := n1_
    clear n0_ n1_
    have n0_ := aM (blk_drew BK440.out)
    have n1_ := aM (below_drew1 HB.out)
    clear BK440
    clear HB
    have BK440 := n0_
    have HB := n1_
    clear n0_ n1_
    refine start_ (n := 24) (S := fun w' => w'.cell? ⟨gb440, 0, none⟩ = some (.int .i64 ((rd_T43 l0 x7_1).f0)) ∧ w'.cell? ⟨gb440, 1, none⟩ = some (.int .i64 ((rd_T43 l0 x7_1).f1))) (ds := []) zA95 (by kernel_rfl) rfl rfl ⟨(blk_cell BK440.out 0).trans rfl, (blk_cell BK440.out 1).trans rfl⟩ (fun hHeld => ?_); refine with_tabW impl_IsShape.tab4 impl_IsShape.bits4 (fun HT_ HW_ => ?_)
    generalize w27.drew = w28 at BK440 HB hHeld ⊢
    refine zp 0 (some 12) ?_ zA96 rfl rfl (Or.inl ⟨by rfl, ?_⟩) ?_ ?_ ?_
    rotate_left
    ·intro w'
     go_simp
     with_reducible rfl
    rotate_left
    ·simp only [Act.put, xA, xB, xC, i64_w, i32_w]
     rfl
    refine zu 1 (some 13) ?_ zA97 rfl rfl (Or.inl ⟨by rfl, ?_⟩) hHeld ?_ ?_ ?_
    rotate_left
    ·rintro w' ⟨s0, s1⟩
     go_simp
     with_reducible rfl
    rotate_left
    ·simp only [Act.put, xA, xB, xC, i64_w, i32_w]
     rfl
    refine one_ (i := 2) (N := some 14) zA98 rfl rfl (one_of HT_.out (by kernel_rfl)) (by decide) (fun K hK => ?_)
    refine goes_ Try.func58 (by kernel_rfl) rfl #[.int .i64 ((rd_T43 l0 x7_1).f0)] (by rfl) rfl rfl zm ?_
    with_reducible refine (impl_isCoordinate.calls ((rd_T43 l0 x7_1).f0) true _ A5.out).mono ?_
    rintro e w' ⟨rfl, ⟨nd, rfl⟩⟩
    refine ⟨_, rfl, ?_⟩
    refine hK.out _ _ ⟨(blk_cell BK440.out 0).trans rfl, (blk_cell BK440.out 1).trans rfl⟩ (fun hHeld => ?_)
    clear hK K
    refine norm_ (a' := ?_) ?_ ?_
    rotate_left
    ·show Act.put _ (some 14) _ = _
     simp only [Act.put, xA, xB, xC, i64_w, i32_w]
     rfl
    refine zp 3 (some 15) ?_ zA99 rfl rfl (Or.inl ⟨by rfl, ?_⟩) ?_ ?_ ?_
    rotate_left
    ·intro w'
     go_simp
     with_reducible rfl
    rotate_left
    ·simp only [Act.put, xA, xB, xC, i64_w, i32_w]
     rfl
    refine zp 4 (some 16) ?_ zA100 rfl rfl (Or.inl ⟨by rfl, ?_⟩) ?_ ?_ ?_
    rotate_left
    ·intro w'
     go_simp
     with_reducible rfl
    rotate_left
    ·simp only [Act.put, xA, xB, xC, i64_w, i32_w]
     rfl
    refine zp 5 (some 17) ?_ zA101 rfl rfl (Or.inl ⟨by rfl, ?_⟩) ?_ ?_ ?_
    rotate_left
    ·intro w'
     go_simp
     with_reducible rfl
    rotate_left
    ·simp only [Act.put, xA, xB, xC, i64_w, i32_w]
     rfl
    refine zu 6 (some 18) ?_ zA102 rfl rfl (Or.inl ⟨by rfl, ?_⟩) hHeld ?_ ?_ ?_
    rotate_left
    ·rintro w' ⟨s0, s1⟩
     go_simp
     with_reducible rfl
    rotate_left
    ·simp only [Act.put, xA, xB, xC, i64_w, i32_w]
     rfl
    refine one_ (i := 7) (N := some 19) zA103 rfl rfl (one_of HT_.out (by kernel_rfl)) (by decide) (fun K hK => ?_)
    refine goes_ Try.func58 (by kernel_rfl) rfl #[.int .i64 ((rd_T43 l0 x7_1).f1)] (by rfl) rfl rfl zm ?_
    with_reducible refine (impl_isCoordinate.calls ((rd_T43 l0 x7_1).f1) true _ A7.out).mono ?_
    rintro e w' ⟨rfl, ⟨nd, rfl⟩⟩
    refine ⟨_, rfl, ?_⟩
    refine hK.out _ _ ⟨(blk_cell BK440.out 0).trans rfl, (blk_cell BK440.out 1).trans rfl⟩ (fun hHeld => ?_)
    clear hK K
    refine norm_ (a' := ?_) ?_ ?_
    rotate_left
    ·show Act.put _ (some 19) _ = _
     simp only [Act.put, xA, xB, xC, i64_w, i32_w]
     rfl
    refine zp 8 (some 20) ?_ zA104 rfl rfl (Or.inl ⟨by rfl, ?_⟩) ?_ ?_ ?_
    rotate_left
    ·intro w'
     go_simp
     with_reducible rfl
    rotate_left
    ·simp only [Act.put, xA, xB, xC, i64_w, i32_w]
     rfl
    refine zp 9 (some 21) ?_ zA105 rfl rfl (Or.inl ⟨by rfl, ?_⟩) ?_ ?_ ?_
    rotate_left
    ·intro w'
     go_simp
     with_reducible rfl
    rotate_left
    ·simp only [Act.put, xA, xB, xC, i64_w, i32_w]
     rfl
    refine zp 10 (some 22) ?_ zA106 rfl rfl (Or.inl ⟨by rfl, ?_⟩) ?_ ?_ ?_
    rotate_left
    ·intro w'
     go_simp
     with_reducible rfl
    rotate_left
    ·simp only [Act.put, xA, xB, xC, i64_w, i32_w]
     rfl
    refine zp 11 (some 23) ?_ zA107 rfl rfl (Or.inl ⟨by rfl, ?_⟩) ?_ ?_ ?_
    rotate_left
    ·intro w'
     go_simp
     with_reducible rfl
    rotate_left
    ·simp only [Act.put, xA, xB, xC, i64_w, i32_w]
     rfl
    refine zp 12 (some 24) ?_ zA108 rfl rfl (Or.inl ⟨by rfl, ?_⟩) ?_ ?_ ?_
    rotate_left
    ·intro w'
     go_simp
     with_reducible rfl
    rotate_left
    ·simp only [Act.put, xA, xB, xC, i64_w, i32_w]
     rfl
    refine zp 13 (some 25) ?_ zA109 rfl rfl (Or.inl ⟨by rfl, ?_⟩) ?_ ?_ ?_
    rotate_left
    ·intro w'
     go_simp
     with_reducible rfl
    rotate_left
    ·simp only [Act.put, xA, xB, xC, i64_w, i32_w]
     rfl
    refine zp 14 (some 26) undef zA110 rfl rfl (Or.inr ⟨by rfl, rfl⟩) ?_ ?_ ?_
    rotate_left
    ·simp only [Act.put, xA, xB, xC, i64_w, i32_w]
     rfl
    refine zp 15 (some 27) undef zA111 rfl rfl (Or.inr ⟨by rfl, rfl⟩) ?_ ?_ ?_
    rotate_left
    ·simp only [Act.put, xA, xB, xC, i64_w, i32_w]
     rfl
    refine zp 16 (some 28) undef zA112 rfl rfl (Or.inr ⟨by rfl, rfl⟩) ?_ ?_ ?_
    rotate_left
    ·simp only [Act.put, xA, xB, xC, i64_w, i32_w]
     rfl
    refine zp 17 (some 29) undef zA113 rfl rfl (Or.inr ⟨by rfl, rfl⟩) ?_ ?_ ?_
    rotate_left
    ·simp only [Act.put, xA, xB, xC, i64_w, i32_w]
     rfl
    refine zp 18 (some 30) undef zA114 rfl rfl (Or.inr ⟨by rfl, rfl⟩) ?_ ?_ ?_
    rotate_left
    ·simp only [Act.put, xA, xB, xC, i64_w, i32_w]
     rfl
    refine zp 19 (some 31) undef zA115 rfl rfl (Or.inr ⟨by rfl, rfl⟩) ?_ ?_ ?_
    rotate_left
    ·simp only [Act.put, xA, xB, xC, i64_w, i32_w]
     rfl
    refine zp 20 (some 32) undef zA116 rfl rfl (Or.inr ⟨by rfl, rfl⟩) ?_ ?_ ?_
    rotate_left
    ·simp only [Act.put, xA, xB, xC, i64_w, i32_w]
     rfl
    refine zp 21 (some 33) undef zA117 rfl rfl (Or.inr ⟨by rfl, rfl⟩) ?_ ?_ ?_
    rotate_left
    ·simp only [Act.put, xA, xB, xC, i64_w, i32_w]
     rfl
    refine zp 22 (some 34) ?_ zA118 rfl rfl (Or.inl ⟨by rfl, ?_⟩) ?_ ?_ ?_
    rotate_left
    ·intro w'
     go_simp
     with_reducible rfl
    rotate_left
    ·simp only [Act.put, xA, xB, xC, i64_w, i32_w]
     rfl
    refine zp 23 (some 35) ?_ zA119 rfl rfl (Or.inl ⟨by rfl, ?_⟩) ?_ ?_ ?_
    rotate_left
    ·intro w'
     go_simp
     with_reducible rfl
    rotate_left
    ·simp only [Act.put, xA, xB, xC, i64_w, i32_w]
     rfl
    refine done_ (done_of HT_.out (by kernel_rfl)) ?_
    try go_wp2
    go_roundg k1
    case measure => have := HK1.out; omega
    case rel => exact ⟨(wrap64 (x7_1 + 1)), zr, H', ⟨by have := HK1.out; omega⟩, ⟨zs GE440.out⟩⟩
   rw [if_pos c9] at H
   have c9b0 : decide (0 < x7_1) = true := decide_eq_true c9
   clear c9
   obtain ⟨ji10, hji10⟩ : ∃ j_ : Int, (wrap64 (x7_1 - 1)) = j_ := ⟨_, rfl⟩
   replace H : (if 0 ≤ (ji10) then (if (ji10) < (l0.length : Int) then ((impl_compareCells.f ((rd_T43 l0 (ji10)).f0) ((rd_T43 l0 (ji10)).f1) ((rd_T43 l0 x7_1).f0) ((rd_T43 l0 x7_1).f1)).bind fun t444 => (if t444 ≥ 0 then (some false) else (impl_IsShape.l0 k1 l0 l0 (l0.length : Int) (wrap64 (x7_1 + 1))))) else (none)) else (none)) = some r := by first | (rw [hji10] at H; exact H) | (simp only [hji10] at H ⊢; exact H)
   (try rw [hji10] at A5)
   (try rw [hji10] at A7)
   have hji10w : (IntKind.i64.wrap (x7_1 - 1)) = ji10 := (i64_w _).trans hji10
   by_cases c11 : 0 ≤ (ji10)
   rotate_left
   ·rw [if_neg c11] at H
    exact absurd H (by simp)
   rw [if_pos c11] at H
   have c11b0 : decide (0 ≤ (ji10)) = true := decide_eq_true c11
   clear c11
   by_cases c12 : (ji10) < (l0.length : Int)
   rotate_left
   ·rw [if_neg c12] at H
    exact absurd H (by simp)
   rw [if_pos c12] at H
   have c12b0 : decide ((ji10) < (l0.length : Int)) = true := decide_eq_true c12
   clear c12
   replace H := Option.bind_eq_some_iff.mp H
   obtain ⟨t444, A130, H⟩ := H
   replace H : (if t444 ≥ 0 then (some false) else (impl_IsShape.l0 k1 l0 l0 (l0.length : Int) (wrap64 (x7_1 + 1)))) = some r := H
   have A13 := aM A130
   clear A130
   by_cases c14 : t444 ≥ 0
   ·rw [if_pos c14] at H
    have c14b0 : decide (0 ≤ t444) = true := decide_eq_true c14
    clear c14
    obtain rfl := Option.some.inj H
    have p439 : 0 ≤ (x7_1 : Int) := of_decide_eq_true za
    have q439 : x7_1 < (l0.length : Int) := of_decide_eq_true za
    obtain ⟨ad439, e439, hx439_0, hx439_1⟩ := at_T43 HR0.out x7_1 p439 q439
    cases e439
    replace hx439_0 := zk HB.out hx439_0
    replace hx439_1 := zk HB.out hx439_1
    replace p439 := eq_true p439
    replace q439 := eq_true q439
    try go_wp2_with (first | ((with_reducible refine gate_dst (N := 4) rfl ?_); (try (refine gate_guard (by rfl) ?_; dsimp only)); refine zx 4 #[.int .i64 0, .int .i64 0] 43 ?_; intro gb440 hg w15 hbox hb; have n0_ := aM (below_step zb hb); have n1_ := aM (hbox); have n2_ := aM ((ze : w.heap.size ≤ gb440)); have n3_ := aM ((ze : w.heap.size ≤ gb440)); clear HB; have HB := n0_; have BK440 := n1_; have GW440 := n2_; have GE440 := n3_; clear n0_ n1_ n2_ n3_ hb hbox hg; have hcz16_0 : w15.cell? ⟨gb440, 0, none⟩ = some (.int .i64 0) := (blk_cell BK440.out 0).trans rfl; have hcz16_1 : w15.cell? ⟨gb440, 1, none⟩ = some (.int .i64 0) := (blk_cell BK440.out 1).trans rfl; have hfz16_0 := blk_frozen BK440.out 0; have hfz16_1 := blk_frozen BK440.out 1))
    have n0_ : Aside0 (((w15.setCell ⟨gb440, 0, none⟩ (.int .i64 ((rd_T43 l0 x7_1).f0))).setCell ⟨gb440, 1, none⟩ (.int .i64 ((rd_T43 l0 x7_1).f1))).heap[gb440]? = some (.cells #[.int .i64 ((rd_T43 l0 x7_1).f0), .int .i64 ((rd_T43 l0 x7_1).f1)] 43 (0, 0))) := ⟨by (with_reducible repeat (first | refine blk_drewN ?_ _ | refine blk_drew ?_ | refine blk_alloc ?_ _)); refine blk_put (cs := #[.int .i64 ((rd_T43 l0 x7_1).f0), .int .i64 0]) ?_ 1 _ rfl; (with_reducible repeat (first | refine blk_drewN ?_ _ | refine blk_drew ?_ | refine blk_alloc ?_ _)); refine blk_put (cs := #[.int .i64 0, .int .i64 0]) ?_ 0 _ rfl; (with_reducible repeat (first | refine blk_drewN ?_ _ | refine blk_drew ?_ | refine blk_alloc ?_ _)); exact BK440.out⟩
    have n1_ : Aside0 (Below w.heap.size w ((w15.setCell ⟨gb440, 0, none⟩ (.int .i64 ((rd_T43 l0 x7_1).f0))).setCell ⟨gb440, 1, none⟩ (.int .i64 ((rd_T43 l0 x7_1).f1)))) := ⟨zs GE440.out⟩
    (try clear BK440)
    (try clear HB)
    generalize ((w15.setCell ⟨gb440, 0, none⟩ (.int .i64 ((rd_T43 l0 x7_1).f0))).setCell ⟨gb440, 1, none⟩ (.int .i64 ((rd_T43 l0 x7_1).f1))) = w17 at n0_ n1_ ⊢
    have BK440 := n0_
    have HB := n1_
    clear n0_ n1_
    have n0_ := aM (blk_drew BK440.out)
    have n1_ := aM (below_drew1 HB.out)
    clear BK440
    clear HB
    have BK440 := n0_
    have HB := n1_
    clear n0_ n1_
    have p443 : 0 ≤ ((ji10) : Int) := of_decide_eq_true za
    have q443 : (ji10) < (l0.length : Int) := of_decide_eq_true za
    obtain ⟨ad443, e443, hx443_0, hx443_1⟩ := at_T43 HR0.out (ji10) p443 q443
    have hw443_1 := hx443_1
    have hw443_0 := hx443_0
    obtain rfl : ad439 = ad443 := (by injection e443)
    replace hx443_0 := zk HB.out hx443_0
    replace hx443_1 := zk HB.out hx443_1
    replace p443 := eq_true p443
    replace q443 := eq_true q443
    refine start_ (n := 24) (S := fun w' => w'.cell? ⟨gb440, 0, none⟩ = some (.int .i64 ((rd_T43 l0 x7_1).f0)) ∧ w'.cell? ⟨gb440, 1, none⟩ = some (.int .i64 ((rd_T43 l0 x7_1).f1)) ∧ w'.cell? (ad439.add (((ji10)).toNat * 2)) = some (.int .i64 ((rd_T43 l0 (ji10)).f0)) ∧ w'.cell? ⟨(ad439.add (((ji10)).toNat * 2)).block, (ad439.add (((ji10)).toNat * 2)).off + 1, none⟩ = some (.int .i64 ((rd_T43 l0 (ji10)).f1))) (ds := []) zA95 (by kernel_rfl) rfl rfl ⟨(blk_cell BK440.out 0).trans rfl, (blk_cell BK440.out 1).trans rfl, (zk HB.out hw443_0), (zk HB.out hw443_1)⟩ (fun hHeld => ?_); refine with_tabW impl_IsShape.tab4 impl_IsShape.bits4 (fun HT_ HW_ => ?_)
    generalize w17.drew = w18 at BK440 HB hx443_0 hx443_1 hHeld ⊢
    refine zp 0 (some 12) ?_ zA96 rfl rfl (Or.inl ⟨by rfl, ?_⟩) ?_ ?_ ?_
    rotate_left
    ·intro w'
     go_simp
     with_reducible rfl
    rotate_left
    ·simp only [Act.put, xA, xB, xC, i64_w, i32_w]
     rfl
    refine zu 1 (some 13) ?_ zA97 rfl rfl (Or.inl ⟨by rfl, ?_⟩) hHeld ?_ ?_ ?_
    rotate_left
    ·rintro w' ⟨s0, s1, s2, s3⟩
     go_simp
     with_reducible rfl
    rotate_left
    ·simp only [Act.put, xA, xB, xC, i64_w, i32_w]
     rfl
    refine one_ (i := 2) (N := some 14) zA98 rfl rfl (one_of HT_.out (by kernel_rfl)) (by decide) (fun K hK => ?_)
    refine goes_ Try.func58 (by kernel_rfl) rfl #[.int .i64 ((rd_T43 l0 x7_1).f0)] (by rfl) rfl rfl zm ?_
    with_reducible refine (impl_isCoordinate.calls ((rd_T43 l0 x7_1).f0) true _ A5.out).mono ?_
    rintro e w' ⟨rfl, ⟨nd, rfl⟩⟩
    refine ⟨_, rfl, ?_⟩
    refine hK.out _ _ ⟨(blk_cell BK440.out 0).trans rfl, (blk_cell BK440.out 1).trans rfl, (zk HB.out hw443_0), (zk HB.out hw443_1)⟩ (fun hHeld => ?_)
    clear hK K
    refine norm_ (a' := ?_) ?_ ?_
    rotate_left
    ·show Act.put _ (some 14) _ = _
     simp only [Act.put, xA, xB, xC, i64_w, i32_w]
     rfl
    refine zp 3 (some 15) ?_ zA99 rfl rfl (Or.inl ⟨by rfl, ?_⟩) ?_ ?_ ?_
    rotate_left
    ·intro w'
     go_simp
     with_reducible rfl
    rotate_left
    ·simp only [Act.put, xA, xB, xC, i64_w, i32_w]
     rfl
    refine zp 4 (some 16) ?_ zA100 rfl rfl (Or.inl ⟨by rfl, ?_⟩) ?_ ?_ ?_
    rotate_left
    ·intro w'
     go_simp
     with_reducible rfl
    rotate_left
    ·simp only [Act.put, xA, xB, xC, i64_w, i32_w]
     rfl
    refine zp 5 (some 17) ?_ zA101 rfl rfl (Or.inl ⟨by rfl, ?_⟩) ?_ ?_ ?_
    rotate_left
    ·intro w'
     go_simp
     with_reducible rfl
    rotate_left
    ·simp only [Act.put, xA, xB, xC, i64_w, i32_w]
     rfl
    refine zu 6 (some 18) ?_ zA102 rfl rfl (Or.inl ⟨by rfl, ?_⟩) hHeld ?_ ?_ ?_
    rotate_left
    ·rintro w' ⟨s0, s1, s2, s3⟩
     go_simp
     with_reducible rfl
    rotate_left
    ·simp only [Act.put, xA, xB, xC, i64_w, i32_w]
     rfl
    refine one_ (i := 7) (N := some 19) zA103 rfl rfl (one_of HT_.out (by kernel_rfl)) (by decide) (fun K hK => ?_)
    refine goes_ Try.func58 (by kernel_rfl) rfl #[.int .i64 ((rd_T43 l0 x7_1).f1)] (by rfl) rfl rfl zm ?_
    with_reducible refine (impl_isCoordinate.calls ((rd_T43 l0 x7_1).f1) true _ A7.out).mono ?_
    rintro e w' ⟨rfl, ⟨nd, rfl⟩⟩
    refine ⟨_, rfl, ?_⟩
    refine hK.out _ _ ⟨(blk_cell BK440.out 0).trans rfl, (blk_cell BK440.out 1).trans rfl, (zk HB.out hw443_0), (zk HB.out hw443_1)⟩ (fun hHeld => ?_)
    clear hK K
    refine norm_ (a' := ?_) ?_ ?_
    rotate_left
    ·show Act.put _ (some 19) _ = _
     simp only [Act.put, xA, xB, xC, i64_w, i32_w]
     rfl
    refine zp 8 (some 20) ?_ zA104 rfl rfl (Or.inl ⟨by rfl, ?_⟩) ?_ ?_ ?_
    rotate_left
    ·intro w'
     go_simp
     with_reducible rfl
    rotate_left
    ·simp only [Act.put, xA, xB, xC, i64_w, i32_w]
     rfl
    refine zp 9 (some 21) ?_ zA105 rfl rfl (Or.inl ⟨by rfl, ?_⟩) ?_ ?_ ?_
    rotate_left
    ·intro w'
     go_simp
     with_reducible rfl
    rotate_left
    ·simp only [Act.put, xA, xB, xC, i64_w, i32_w]
     rfl
    refine zp 10 (some 22) ?_ zA106 rfl rfl (Or.inl ⟨by rfl, ?_⟩) ?_ ?_ ?_
    rotate_left
    ·intro w'
     go_simp
     with_reducible rfl
    rotate_left
    ·simp only [Act.put, xA, xB, xC, i64_w, i32_w]
     rfl
    refine zp 11 (some 23) ?_ zA107 rfl rfl (Or.inl ⟨by rfl, ?_⟩) ?_ ?_ ?_
    rotate_left
    ·intro w'
     go_simp
     with_reducible rfl
    rotate_left
    ·simp only [Act.put, xA, xB, xC, i64_w, i32_w]
     rfl
    refine zp 12 (some 24) ?_ zA108 rfl rfl (Or.inl ⟨by rfl, ?_⟩) ?_ ?_ ?_
    rotate_left
    ·intro w'
     go_simp
     with_reducible rfl
    rotate_left
    ·simp only [Act.put, xA, xB, xC, i64_w, i32_w]
     rfl
    refine zp 13 (some 25) ?_ zA109 rfl rfl (Or.inl ⟨by rfl, ?_⟩) ?_ ?_ ?_
    rotate_left
    ·intro w'
     go_simp
     with_reducible rfl
    rotate_left
    ·simp only [Act.put, xA, xB, xC, i64_w, i32_w]
     rfl
    refine zp 14 (some 26) ?_ zA110 rfl rfl (Or.inl ⟨by rfl, ?_⟩) ?_ ?_ ?_
    rotate_left
    ·intro w'
     go_simp
     with_reducible rfl
    rotate_left
    ·simp only [Act.put, xA, xB, xC, i64_w, i32_w]
     rfl
    refine zp 15 (some 27) ?_ zA111 rfl rfl (Or.inl ⟨by rfl, ?_⟩) ?_ ?_ ?_
    rotate_left
    ·intro w'
     go_simp
     with_reducible rfl
    rotate_left
    ·simp only [Act.put, xA, xB, xC, i64_w, i32_w]
     rfl
    refine zp 16 (some 28) ?_ zA112 rfl rfl (Or.inl ⟨by rfl, ?_⟩) ?_ ?_ ?_
    rotate_left
    ·intro w'
     go_simp
     with_reducible rfl
    rotate_left
    ·simp only [Act.put, xA, xB, xC, i64_w, i32_w]
     rfl
    refine zp 17 (some 29) ?_ zA113 rfl rfl (Or.inl ⟨by rfl, ?_⟩) ?_ ?_ ?_
    rotate_left
    ·intro w'
     go_simp
     with_reducible rfl
    rotate_left
    ·simp only [Act.put, xA, xB, xC, i64_w, i32_w]
     rfl
    refine zu 18 (some 30) ?_ zA114 rfl rfl (Or.inl ⟨by rfl, ?_⟩) hHeld ?_ ?_ ?_
    rotate_left
    ·rintro w' ⟨s0, s1, s2, s3⟩
     go_simp
     with_reducible rfl
    rotate_left
    ·simp only [Act.put, xA, xB, xC, i64_w, i32_w]
     rfl
    refine zu 19 (some 31) ?_ zA115 rfl rfl (Or.inl ⟨by rfl, ?_⟩) hHeld ?_ ?_ ?_
    rotate_left
    ·rintro w' ⟨s0, s1, s2, s3⟩
     go_simp
     with_reducible rfl
    rotate_left
    ·simp only [Act.put, xA, xB, xC, i64_w, i32_w]
     rfl
    refine one_ (i := 20) (N := some 32) zA116 rfl rfl (one_of HT_.out (by kernel_rfl)) (by decide) (fun K hK => ?_)
    refine goes_ Try.func59 (by kernel_rfl) rfl #[.agg #[.int .i64 ((rd_T43 l0 (ji10)).f0), .int .i64 ((rd_T43 l0 (ji10)).f1)], .agg #[.int .i64 ((rd_T43 l0 x7_1).f0), .int .i64 ((rd_T43 l0 x7_1).f1)]] (by rfl) rfl rfl (by (try simp only [mA, mB, mC]); first | done | (simp only [hji10]; rfl) | rfl | (simp only [lD, lT]; rfl)) ?_
    with_reducible refine (impl_compareCells.calls ((rd_T43 l0 (ji10)).f0) ((rd_T43 l0 (ji10)).f1) ((rd_T43 l0 x7_1).f0) ((rd_T43 l0 x7_1).f1) t444 _ A13.out).mono ?_
    rintro e w19 ⟨rfl, hb⟩
    refine ⟨_, rfl, ?_⟩
    have n0_ := aM (blk_below (g := gb440) (o := .cells #[.int .i64 ((rd_T43 l0 x7_1).f0), .int .i64 ((rd_T43 l0 x7_1).f1)] 43 (0, 0)) (mB_ BK440.out) hb)
    have n1_ := aM (below_step (zs GE440.out) hb)
    clear BK440
    clear HB
    have BK440 := n0_
    have HB := n1_
    clear n0_ n1_
    (try clear hb)
    (try clear hb2)
    (try clear hk)
    (try clear hi)
    refine hK.out _ _ ⟨(blk_cell BK440.out 0).trans rfl, (blk_cell BK440.out 1).trans rfl, (zk HB.out hw443_0), (zk HB.out hw443_1)⟩ (fun hHeld => ?_)
    clear hK K
    refine norm_ (a' := ?_) ?_ ?_
    rotate_left
    ·show Act.put _ (some 32) _ = _
     simp only [Act.put, xA, xB, xC, i64_w, i32_w]
     rfl
    refine zp 21 (some 33) ?_ zA117 rfl rfl (Or.inl ⟨by rfl, ?_⟩) ?_ ?_ ?_
    rotate_left
    ·intro w'
     go_simp
     with_reducible rfl
    rotate_left
    ·simp only [Act.put, xA, xB, xC, i64_w, i32_w]
     rfl
    refine zp 22 (some 34) ?_ zA118 rfl rfl (Or.inl ⟨by rfl, ?_⟩) ?_ ?_ ?_
    rotate_left
    ·intro w'
     go_simp
     with_reducible rfl
    rotate_left
    ·simp only [Act.put, xA, xB, xC, i64_w, i32_w]
     rfl
    refine zp 23 (some 35) ?_ zA119 rfl rfl (Or.inl ⟨by rfl, ?_⟩) ?_ ?_ ?_
    rotate_left
    ·intro w'
     go_simp
     with_reducible rfl
    rotate_left
    ·simp only [Act.put, xA, xB, xC, i64_w, i32_w]
     rfl
    refine done_ (done_of HT_.out (by kernel_rfl)) ?_
    try go_wp2
    go_ret
    exact ⟨by first | rfl | (simp [errW_none, errW_some] <;> rfl) | (simp only [← hji10]; first | rfl | (simp [errW_none, errW_some] <;> rfl)) | (simp [*, errW_none, errW_some] <;> rfl), zs GE440.out⟩
   rw [if_neg c14] at H
   have c14b0 : decide (0 ≤ t444) = false := decide_eq_false c14
   clear c14
   have H' := aM H
   clear H
   have p439 : 0 ≤ (x7_1 : Int) := of_decide_eq_true za
   have q439 : x7_1 < (l0.length : Int) := of_decide_eq_true za
   obtain ⟨ad439, e439, hx439_0, hx439_1⟩ := at_T43 HR0.out x7_1 p439 q439
   cases e439
   replace hx439_0 := zk HB.out hx439_0
   replace hx439_1 := zk HB.out hx439_1
   replace p439 := eq_true p439
   replace q439 := eq_true q439
   try go_wp2_with (first | ((with_reducible refine gate_dst (N := 4) rfl ?_); (try (refine gate_guard (by rfl) ?_; dsimp only)); refine zx 4 #[.int .i64 0, .int .i64 0] 43 ?_; intro gb440 hg w20 hbox hb; have n0_ := aM (below_step zb hb); have n1_ := aM (hbox); have n2_ := aM ((ze : w.heap.size ≤ gb440)); have n3_ := aM ((ze : w.heap.size ≤ gb440)); clear HB; have HB := n0_; have BK440 := n1_; have GW440 := n2_; have GE440 := n3_; clear n0_ n1_ n2_ n3_ hb hbox hg; have hcz21_0 : w20.cell? ⟨gb440, 0, none⟩ = some (.int .i64 0) := (blk_cell BK440.out 0).trans rfl; have hcz21_1 : w20.cell? ⟨gb440, 1, none⟩ = some (.int .i64 0) := (blk_cell BK440.out 1).trans rfl; have hfz21_0 := blk_frozen BK440.out 0; have hfz21_1 := blk_frozen BK440.out 1))
   have n0_ : Aside0 (((w20.setCell ⟨gb440, 0, none⟩ (.int .i64 ((rd_T43 l0 x7_1).f0))).setCell ⟨gb440, 1, none⟩ (.int .i64 ((rd_T43 l0 x7_1).f1))).heap[gb440]? = some (.cells #[.int .i64 ((rd_T43 l0 x7_1).f0), .int .i64 ((rd_T43 l0 x7_1).f1)] 43 (0, 0))) := ⟨by (with_reducible repeat (first | refine blk_drewN ?_ _ | refine blk_drew ?_ | refine blk_alloc ?_ _)); refine blk_put (cs := #[.int .i64 ((rd_T43 l0 x7_1).f0), .int .i64 0]) ?_ 1 _ rfl; (with_reducible repeat (first | refine blk_drewN ?_ _ | refine blk_drew ?_ | refine blk_alloc ?_ _)); refine blk_put (cs := #[.int .i64 0, .int .i64 0]) ?_ 0 _ rfl; (with_reducible repeat (first | refine blk_drewN ?_ _ | refine blk_drew ?_ | refine blk_alloc ?_ _)); exact BK440.out⟩
   have n1_ : Aside0 (Below w.heap.size w ((w20.setCell ⟨gb440, 0, none⟩ (.int .i64 ((rd_T43 l0 x7_1).f0))).setCell ⟨gb440, 1, none⟩ (.int .i64 ((rd_T43 l0 x7_1).f1)))) := ⟨zs GE440.out⟩
   (try clear BK440)
   (try clear HB)
   generalize ((w20.setCell ⟨gb440, 0, none⟩ (.int .i64 ((rd_T43 l0 x7_1).f0))).setCell ⟨gb440, 1, none⟩ (.int .i64 ((rd_T43 l0 x7_1).f1))) = w22 at n0_ n1_ ⊢
   have BK440 := n0_
   have HB := n1_
   clear n0_ n1_
   have n0_ := aM (blk_drew BK440.out)
   have n1_ := aM (below_drew1 HB.out)
   clear BK440
   clear HB
   have BK440 := n0_
   have HB := n1_
   clear n0_ n1_
   have p443 : 0 ≤ ((ji10) : Int) := of_decide_eq_true za
   have q443 : (ji10) < (l0.length : Int) := of_decide_eq_true za
   obtain ⟨ad443, e443, hx443_0, hx443_1⟩ := at_T43 HR0.out (ji10) p443 q443
   have hw443_1 := hx443_1
   have hw443_0 := hx443_0
   obtain rfl : ad439 = ad443 := (by injection e443)
   replace hx443_0 := zk HB.out hx443_0
   replace hx443_1 := zk HB.out hx443_1
   replace p443 := eq_true p443
   replace q443 := eq_true q443
   refine start_ (n := 24) (S := fun w' => w'.cell? ⟨gb440, 0, none⟩ = some (.int .i64 ((rd_T43 l0 x7_1).f0)) ∧ w'.cell? ⟨gb440, 1, none⟩ = some (.int .i64 ((rd_T43 l0 x7_1).f1)) ∧ w'.cell? (ad439.add (((ji10)).toNat * 2)) = some (.int .i64 ((rd_T43 l0 (ji10)).f0)) ∧ w'.cell? ⟨(ad439.add (((ji10)).toNat * 2)).block, (ad439.add (((ji10)).toNat * 2)).off + 1, none⟩ = some (.int .i64 ((rd_T43 l0 (ji10)).f1))) (ds := []) zA95 (by kernel_rfl) rfl rfl ⟨(blk_cell BK440.out 0).trans rfl, (blk_cell BK440.out 1).trans rfl, (zk HB.out hw443_0), (zk HB.out hw443_1)⟩ (fun hHeld => ?_); refine with_tabW impl_IsShape.tab4 impl_IsShape.bits4 (fun HT_ HW_ => ?_)
   generalize w22.drew = w23 at BK440 HB hx443_0 hx443_1 hHeld ⊢
   refine zp 0 (some 12) ?_ zA96 rfl rfl (Or.inl ⟨by rfl, ?_⟩) ?_ ?_ ?_
   rotate_left
   ·intro w'
    go_simp
    with_reducible rfl
   rotate_left
   ·simp only [Act.put, xA, xB, xC, i64_w, i32_w]
    rfl
   refine zu 1 (some 13) ?_ zA97 rfl rfl (Or.inl ⟨by rfl, ?_⟩) hHeld ?_ ?_ ?_
   rotate_left
   ·rintro w' ⟨s0, s1, s2, s3⟩
    go_simp
    with_reducible rfl
   rotate_left
   ·simp only [Act.put, xA, xB, xC, i64_w, i32_w]
    rfl
   refine one_ (i := 2) (N := some 14) zA98 rfl rfl (one_of HT_.out (by kernel_rfl)) (by decide) (fun K hK => ?_)
   refine goes_ Try.func58 (by kernel_rfl) rfl #[.int .i64 ((rd_T43 l0 x7_1).f0)] (by rfl) rfl rfl zm ?_
   with_reducible refine (impl_isCoordinate.calls ((rd_T43 l0 x7_1).f0) true _ A5.out).mono ?_
   rintro e w' ⟨rfl, ⟨nd, rfl⟩⟩
   refine ⟨_, rfl, ?_⟩
   refine hK.out _ _ ⟨(blk_cell BK440.out 0).trans rfl, (blk_cell BK440.out 1).trans rfl, (zk HB.out hw443_0), (zk HB.out hw443_1)⟩ (fun hHeld => ?_)
   clear hK K
   refine norm_ (a' := ?_) ?_ ?_
   rotate_left
   ·show Act.put _ (some 14) _ = _
    simp only [Act.put, xA, xB, xC, i64_w, i32_w]
    rfl
   refine zp 3 (some 15) ?_ zA99 rfl rfl (Or.inl ⟨by rfl, ?_⟩) ?_ ?_ ?_
   rotate_left
   ·intro w'
    go_simp
    with_reducible rfl
   rotate_left
   ·simp only [Act.put, xA, xB, xC, i64_w, i32_w]
    rfl
   refine zp 4 (some 16) ?_ zA100 rfl rfl (Or.inl ⟨by rfl, ?_⟩) ?_ ?_ ?_
   rotate_left
   ·intro w'
    go_simp
    with_reducible rfl
   rotate_left
   ·simp only [Act.put, xA, xB, xC, i64_w, i32_w]
    rfl
   refine zp 5 (some 17) ?_ zA101 rfl rfl (Or.inl ⟨by rfl, ?_⟩) ?_ ?_ ?_
   rotate_left
   ·intro w'
    go_simp
    with_reducible rfl
   rotate_left
   ·simp only [Act.put, xA, xB, xC, i64_w, i32_w]
    rfl
   refine zu 6 (some 18) ?_ zA102 rfl rfl (Or.inl ⟨by rfl, ?_⟩) hHeld ?_ ?_ ?_
   rotate_left
   ·rintro w' ⟨s0, s1, s2, s3⟩
    go_simp
    with_reducible rfl
   rotate_left
   ·simp only [Act.put, xA, xB, xC, i64_w, i32_w]
    rfl
   refine one_ (i := 7) (N := some 19) zA103 rfl rfl (one_of HT_.out (by kernel_rfl)) (by decide) (fun K hK => ?_)
   refine goes_ Try.func58 (by kernel_rfl) rfl #[.int .i64 ((rd_T43 l0 x7_1).f1)] (by rfl) rfl rfl zm ?_
   with_reducible refine (impl_isCoordinate.calls ((rd_T43 l0 x7_1).f1) true _ A7.out).mono ?_
   rintro e w' ⟨rfl, ⟨nd, rfl⟩⟩
   refine ⟨_, rfl, ?_⟩
   refine hK.out _ _ ⟨(blk_cell BK440.out 0).trans rfl, (blk_cell BK440.out 1).trans rfl, (zk HB.out hw443_0), (zk HB.out hw443_1)⟩ (fun hHeld => ?_)
   clear hK K
   refine norm_ (a' := ?_) ?_ ?_
   rotate_left
   ·show Act.put _ (some 19) _ = _
    simp only [Act.put, xA, xB, xC, i64_w, i32_w]
    rfl
   refine zp 8 (some 20) ?_ zA104 rfl rfl (Or.inl ⟨by rfl, ?_⟩) ?_ ?_ ?_
   rotate_left
   ·intro w'
    go_simp
    with_reducible rfl
   rotate_left
   ·simp only [Act.put, xA, xB, xC, i64_w, i32_w]
    rfl
   refine zp 9 (some 21) ?_ zA105 rfl rfl (Or.inl ⟨by rfl, ?_⟩) ?_ ?_ ?_
   rotate_left
   ·intro w'
    go_simp
    with_reducible rfl
   rotate_left
   ·simp only [Act.put, xA, xB, xC, i64_w, i32_w]
    rfl
   refine zp 10 (some 22) ?_ zA106 rfl rfl (Or.inl ⟨by rfl, ?_⟩) ?_ ?_ ?_
   rotate_left
   ·intro w'
    go_simp
    with_reducible rfl
   rotate_left
   ·simp only [Act.put, xA, xB, xC, i64_w, i32_w]
    rfl
   refine zp 11 (some 23) ?_ zA107 rfl rfl (Or.inl ⟨by rfl, ?_⟩) ?_ ?_ ?_
   rotate_left
   ·intro w'
    go_simp
    with_reducible rfl
   rotate_left
   ·simp only [Act.put, xA, xB, xC, i64_w, i32_w]
    rfl
   refine zp 12 (some 24) ?_ zA108 rfl rfl (Or.inl ⟨by rfl, ?_⟩) ?_ ?_ ?_
   rotate_left
   ·intro w'
    go_simp
    with_reducible rfl
   rotate_left
   ·simp only [Act.put, xA, xB, xC, i64_w, i32_w]
    rfl
   refine zp 13 (some 25) ?_ zA109 rfl rfl (Or.inl ⟨by rfl, ?_⟩) ?_ ?_ ?_
   rotate_left
   ·intro w'
    go_simp
    with_reducible rfl
   rotate_left
   ·simp only [Act.put, xA, xB, xC, i64_w, i32_w]
    rfl
   refine zp 14 (some 26) ?_ zA110 rfl rfl (Or.inl ⟨by rfl, ?_⟩) ?_ ?_ ?_
   rotate_left
   ·intro w'
    go_simp
    with_reducible rfl
   rotate_left
   ·simp only [Act.put, xA, xB, xC, i64_w, i32_w]
    rfl
   refine zp 15 (some 27) ?_ zA111 rfl rfl (Or.inl ⟨by rfl, ?_⟩) ?_ ?_ ?_
   rotate_left
   ·intro w'
    go_simp
    with_reducible rfl
   rotate_left
   ·simp only [Act.put, xA, xB, xC, i64_w, i32_w]
    rfl
   refine zp 16 (some 28) ?_ zA112 rfl rfl (Or.inl ⟨by rfl, ?_⟩) ?_ ?_ ?_
   rotate_left
   ·intro w'
    go_simp
    with_reducible rfl
   rotate_left
   ·simp only [Act.put, xA, xB, xC, i64_w, i32_w]
    rfl
   refine zp 17 (some 29) ?_ zA113 rfl rfl (Or.inl ⟨by rfl, ?_⟩) ?_ ?_ ?_
   rotate_left
   ·intro w'
    go_simp
    with_reducible rfl
   rotate_left
   ·simp only [Act.put, xA, xB, xC, i64_w, i32_w]
    rfl
   refine zu 18 (some 30) ?_ zA114 rfl rfl (Or.inl ⟨by rfl, ?_⟩) hHeld ?_ ?_ ?_
   rotate_left
   ·rintro w' ⟨s0, s1, s2, s3⟩
    go_simp
    with_reducible rfl
   rotate_left
   ·simp only [Act.put, xA, xB, xC, i64_w, i32_w]
    rfl
   refine zu 19 (some 31) ?_ zA115 rfl rfl (Or.inl ⟨by rfl, ?_⟩) hHeld ?_ ?_ ?_
   rotate_left
   ·rintro w' ⟨s0, s1, s2, s3⟩
    go_simp
    with_reducible rfl
   rotate_left
   ·simp only [Act.put, xA, xB, xC, i64_w, i32_w]
    rfl
   refine one_ (i := 20) (N := some 32) zA116 rfl rfl (one_of HT_.out (by kernel_rfl)) (by decide) (fun K hK => ?_)
   refine goes_ Try.func59 (by kernel_rfl) rfl #[.agg #[.int .i64 ((rd_T43 l0 (ji10)).f0), .int .i64 ((rd_T43 l0 (ji10)).f1)], .agg #[.int .i64 ((rd_T43 l0 x7_1).f0), .int .i64 ((rd_T43 l0 x7_1).f1)]] (by rfl) rfl rfl (by (try simp only [mA, mB, mC]); first | done | (simp only [hji10]; rfl) | rfl | (simp only [lD, lT]; rfl)) ?_
   with_reducible refine (impl_compareCells.calls ((rd_T43 l0 (ji10)).f0) ((rd_T43 l0 (ji10)).f1) ((rd_T43 l0 x7_1).f0) ((rd_T43 l0 x7_1).f1) t444 _ A13.out).mono ?_
   rintro e w24 ⟨rfl, hb⟩
   refine ⟨_, rfl, ?_⟩
   have n0_ := aM (blk_below (g := gb440) (o := .cells #[.int .i64 ((rd_T43 l0 x7_1).f0), .int .i64 ((rd_T43 l0 x7_1).f1)] 43 (0, 0)) (mB_ BK440.out) hb)
   have n1_ := aM (below_step (zs GE440.out) hb)
   clear BK440
   clear HB
   have BK440 := n0_
   have HB := n1_
   clear n0_ n1_
   (try clear hb)
   (try clear hb2)
   (try clear hk)
   (try clear hi)
   refine hK.out _ _ ⟨(blk_cell BK440.out 0).trans rfl, (blk_cell BK440.out 1).trans rfl, (zk HB.out hw443_0), (zk HB.out hw443_1)⟩ (fun hHeld => ?_)
   clear hK K
   refine norm_ (a' := ?_) ?_ ?_
   rotate_left
   ·show Act.put _ (some 32) _ = _
    simp only [Act.put, xA, xB, xC, i64_w, i32_w]
    rfl
   refine zp 21 (some 33) ?_ zA117 rfl rfl (Or.inl ⟨by rfl, ?_⟩) ?_ ?_ ?_
   rotate_left
   ·intro w'
    go_simp
    with_reducible rfl
   rotate_left
   ·simp only [Act.put, xA, xB, xC, i64_w, i32_w]
    rfl
   refine zp 22 (some 34) ?_ zA118 rfl rfl (Or.inl ⟨by rfl, ?_⟩) ?_ ?_ ?_
   rotate_left
   ·intro w'
    go_simp
    with_reducible rfl
   rotate_left
   ·simp only [Act.put, xA, xB, xC, i64_w, i32_w]
    rfl
   refine zp 23 (some 35) ?_ zA119 rfl rfl (Or.inl ⟨by rfl, ?_⟩) ?_ ?_ ?_
   rotate_left
   ·intro w'
    go_simp
    with_reducible rfl
   rotate_left
   ·simp only [Act.put, xA, xB, xC, i64_w, i32_w]
    rfl
   refine done_ (done_of HT_.out (by kernel_rfl)) ?_
   try go_wp2
   go_roundg k1
   case measure => have := HK1.out; omega
   case rel => exact ⟨(wrap64 (x7_1 + 1)), zr, H', ⟨by have := HK1.out; omega⟩, ⟨zs GE440.out⟩⟩
end Go.Proofs.Ytibbjiehblpmfaa.F
end
section
namespace Go.Proofs.Ytibbjiehblpmfaa.F
open Go.RowKit Go.Proofs.YtibbjiehblpmfaaW.PrintWords Go.Proofs.YtibbjiehblpmfaaW.PrintLast Go.Proofs.YtibbjiehblpmfaaW.PrintMore
attribute [local go_sem] max2_int min2_int max_two min_two max_three min_three max_four min_four
set_option linter.unusedVariables false
set_option linter.unusedSimpArgs false
mutual
def impl_allGrown__impl_hexAround_impl_normal.l0 : Nat → List (List (S43)) → Int → Int → Option ((List (List (S43))))
 | 0, _, _, _ => none
 | k + 1, x9, x15, x16 => if x16 < x15 then (impl_allGrown__impl_hexAround_impl_normal.l1 k (([] : List (List (S43)))) x15 x16 x9 (x9.length : Int) 0) else (some x9)
def impl_allGrown__impl_hexAround_impl_normal.l1 : Nat → List (List (S43)) → Int → Int → List (List (S43)) → Int → Int → Option ((List (List (S43))))
 | 0, _, _, _, _, _, _ => none
 | k + 1, x10, x15, x16, x19, x20, x21 => if x21 < x20 then (if 0 ≤ x21 then (if x21 < (x19.length : Int) then ((impl_grown__impl_hexAround_impl_normal.f k (rd_L2 x19 x21)).bind fun t403 => (if x10.length + t403.length < 5864062014805 then (impl_allGrown__impl_hexAround_impl_normal.l1 k (x10 ++ t403) x15 x16 x19 x20 (wrap64 (x21 + 1))) else (none))) else (none)) else (none)) else ((impl_tidyShapes.f x10).bind fun t409 => (impl_allGrown__impl_hexAround_impl_normal.l0 k t409 x15 (wrap64 (x16 + 1))))
end
def impl_allGrown__impl_hexAround_impl_normal.f (k : Nat) (a0 : Int) (l1 : List (List (S43)))   : Option ((List (List (S43)))) := impl_allGrown__impl_hexAround_impl_normal.l0 k l1 (wrap64 (a0 - 1)) 0
theorem impl_allGrown__impl_hexAround_impl_normal.calls (k : Nat) (a0 : Int) (P1_ : Nat → Prop) (A1 : Option Addr) (c1 : Nat) (l1 : List (List (S43)))   (r : List (List (S43))) (w : World) {b_ : Nat} (hb_ : b_ ≤ w.heap.size) (hs1 : Kd.V (own b_ 43 k43) 36 w w.heap.size (fun k_ => P1_ k_) (.slice A1 l1.length c1) l1) (h : impl_allGrown__impl_hexAround_impl_normal.f k a0 l1 = some r) :
  Calls Try.prog 34 #[.int .i64 a0, .slice A1 l1.length c1, .func (.func 35) #[] #[], .func (.func 36) #[] #[]] w fun e w' => ∃ v0_ : Value, e = .returned (v0_) ∧ Kd.V (own b_ 43 k43) 36 w' w.heap.size (fun k_ => (P1_ k_ ∨ w.heap.size ≤ k_)) v0_ r ∧ Below w.heap.size w w' := by
 have HO1 := aM (show Kd.V (own b_ 43 k43) 36 w w.heap.size (fun k_ => (P1_ k_ ∨ w.heap.size ≤ k_)) (.slice A1 l1.length c1) l1 from Kd.V_mono hs1 (fun k_ hk => .inl hk))
 have HB := aM (Below.refl w.heap.size w)
 have H : (impl_allGrown__impl_hexAround_impl_normal.l0 k l1 (wrap64 (a0 - 1)) 0) = some r := h
 clear h
 have H' := aM H
 clear H
 go_enter Try.func34, Try.ntmps34
 go_wp2
 go_loopg [9, 16] k (fun kq v9 v16 w' => ∃ (x9_1 : List (List (S43))) (x16_1 : Int), v16 = .int .i64 x16_1 ∧ Aside0 (impl_allGrown__impl_hexAround_impl_normal.l0 kq x9_1 (wrap64 (a0 - 1)) x16_1 = some r) ∧ Aside0 (kq ≤ k) ∧ Aside0 (Kd.V (own b_ 43 k43) 36 w' w.heap.size (fun k_ => (P1_ k_ ∨ w.heap.size ≤ k_)) v9 x9_1) ∧ Aside0 (Below w.heap.size w w'))
 case atStart => exact ⟨(l1), (0), zr, H', ⟨Nat.le_refl _⟩, ⟨mV_ HO1.out⟩, ⟨zb⟩⟩
 case round =>
  clear H'
  try clear c1
  try clear p2
  obtain ⟨x9_1, x16_1, rfl, HA, HK1, HO_9, HB⟩ := hrel
  cases gk with
  | zero => exact absurd HA.out (by simp [impl_allGrown__impl_hexAround_impl_normal.l0])
  | succ k1 =>
   have H := HA.out
   clear HA
   simp only [impl_allGrown__impl_hexAround_impl_normal.l0] at H
   by_cases c5 : x16_1 < (wrap64 (a0 - 1))
   rotate_left
   ·rw [if_neg c5] at H
    have c5b0 : decide (x16_1 < (wrap64 (a0 - 1))) = false := decide_eq_false c5
    clear c5
    obtain rfl := Option.some.inj H
    go_wp2
    go_ret
    exact ⟨_, zw, mV_ HO_9.out, zb⟩
   rw [if_pos c5] at H
   have c5b0 : decide (x16_1 < (wrap64 (a0 - 1))) = true := decide_eq_true c5
   clear c5
   obtain ⟨y399, hy399⟩ : ∃ y_ : List (List (S43)), y_ = (([] : List (List (S43)))) := ⟨_, rfl⟩
   replace H : (impl_allGrown__impl_hexAround_impl_normal.l1 k1 y399 (wrap64 (a0 - 1)) x16_1 x9_1 (x9_1.length : Int) 0) = some r := zy H hy399
   have Ny399 := aM hy399
   clear hy399
   have H' := aM H
   clear H
   go_wp2_with (first | ((with_reducible refine gate_dst (N := 18) rfl ?_); refine Kd.N_lit (own b_ 43 k43) _ 36 ?hg (N' := 18) ?hd (xs := ([] : List (List (S43)))) (inner := []) (ok := (fun k_ => (P1_ k_ ∨ w.heap.size ≤ k_))) (okp := (fun k_ => (P1_ k_ ∨ w.heap.size ≤ k_))) ?hr ?hp (fun _ hk => hk) ((show ∀ k_, wr.heap.size ≤ k_ → (fun k_ => (P1_ k_ ∨ w.heap.size ≤ k_)) k_ from fun k_ hk => (.inr (Nat.le_trans (below_size zb) hk))) _ (Nat.le_refl _)) (Below.refl _ _) (Nat.le_refl _) (by simp) ?_; (case hd => rfl); (case hg => rfl); (case hr => first | (go_simp; done) | (go_simp; rfl)); (case hp => exact (Reps.none _ _)); intro v400 w6 ho7 hb hg_ hnew_; clear hg_ hnew_; (first | rw [← Ny399.out] at ho7 | (simp only [Int.reduceToNat] at ho7; rw [← Ny399.out] at ho7)); have n0_ := aM (Kd.V_elder' (mV_ HO_9.out) (by first | exact Kd.N_base ho7 | exact Kd.S_base ho7 | exact Kd.R_base ho7) hb); have n1_ := aM (Kd.N_lower ho7 (below_size zb)); have n2_ := aM (below_step zb hb); clear HO_9 HB; have HO_9 := n0_; have HO401 := n1_; have HB := n2_; clear n0_ n1_ n2_ hb ho7; obtain ⟨Ao8, co8, eo8⟩ := Kd.V_slice HO_9.out; subst eo8))
   go_loopg [10, 21] k1 (fun kq v10 v21 w' => ∃ (x10_2 : List (List (S43))) (x21_2 : Int), v21 = .int .i64 x21_2 ∧ Aside0 (impl_allGrown__impl_hexAround_impl_normal.l1 kq x10_2 (wrap64 (a0 - 1)) x16_1 x9_1 (x9_1.length : Int) x21_2 = some r) ∧ Aside0 (kq ≤ k1) ∧ Aside0 (Kd.N (own b_ 43 k43) 36 w' w.heap.size (fun k_ => (P1_ k_ ∨ w.heap.size ≤ k_)) v10 x10_2) ∧ Aside0 (Kd.V (own b_ 43 k43) 36 w' w.heap.size (fun k_ => (P1_ k_ ∨ w.heap.size ≤ k_) ∧ some k_ ≠ (v10 : Value).ownBlock) (.slice Ao8 x9_1.length co8) x9_1) ∧ Aside0 (Below w.heap.size w w'))
   case atStart => exact ⟨(y399), (0), zr, H', ⟨Nat.le_refl _⟩, ⟨mN_ HO401.out⟩, ⟨mV_ HO_9.out⟩, ⟨zb⟩⟩
   case round =>
    clear H'
    try clear c1
    try clear p2
    try clear c5
    try clear c5b0
    try clear p6
    try clear c7
    try clear p2
    obtain ⟨x10_2, x21_2, rfl, HA, HK2, HO_10, HO_19, HB⟩ := hrel
    cases gk with
    | zero => exact absurd HA.out (by simp [impl_allGrown__impl_hexAround_impl_normal.l1])
    | succ k2 =>
     have H := HA.out
     clear HA
     simp only [impl_allGrown__impl_hexAround_impl_normal.l1] at H
     by_cases c9 : x21_2 < (x9_1.length : Int)
     rotate_left
     ·rw [if_neg c9] at H
      have c9b0 : decide (x21_2 < (x9_1.length : Int)) = false := decide_eq_false c9
      clear c9
      replace H := Option.bind_eq_some_iff.mp H
      obtain ⟨t409, A170, H⟩ := H
      replace H : (impl_allGrown__impl_hexAround_impl_normal.l0 k2 t409 (wrap64 (a0 - 1)) (wrap64 (x16_1 + 1))) = some r := H
      have A17 := aM A170
      clear A170
      have H' := aM H
      clear H
      obtain ⟨Ao18, co18, eo18⟩ := Kd.N_slice HO_10.out
      subst eo18
      go_wp2_with (first | ((with_reducible refine gate_callee (f := 50) rfl ?_); refine goesL_ (some 33) rfl rfl Try.func50 (by kernel_rfl) rfl #[.slice Ao18 x10_2.length co18] rfl zm ?_; (with_reducible refine (impl_tidyShapes.callsO b_ (fun k_ => (P1_ k_ ∨ w.heap.size ≤ k_)) (.slice Ao18 x10_2.length co18) x10_2 t409 w _ ?side1 ?side2 A17.out).mono ?_); (case side1 => repeat (first | (with_reducible first | exact HB.out | apply below_alloc | apply pw_below_drewN | apply below_drew1) | exact HB.out)); (case side2 => exact HO_10.out); rintro e w19 ⟨v410, rfl, ho0, hb, hkp, hob⟩; refine ⟨_, rfl, ?_⟩; have n0_ := aM (Kd.V_mono (ok' := fun k_ => (P1_ k_ ∨ w.heap.size ≤ k_) ∧ some k_ ≠ (v410 : Value).ownBlock) (Kd.V_keptB (HO_19.out) hkp (fun k_ hk_ hs_ => (hk_.2) hs_)) (fun k_ hk_ => ⟨hk_.1.1, fun e_ => hk_.2.1 (e_.trans hob)⟩)); have n1_ := aM (Kd.N_lower (Kd.N_mono (ok' := fun k_ => (P1_ k_ ∨ w.heap.size ≤ k_)) ho0 (fun k_ hk_ => Or.elim hk_ (fun hs_ => hs_) (fun hn_ => (.inr (Nat.le_trans (below_size zb) hn_))))) (Nat.le_refl _)); have n2_ := aM (hb); clear HO_19 HB HO_10; have HO_19 := n0_; have HO411 := n1_; have HB := n2_; clear n0_ n1_ n2_; (try clear hb); (try clear hkp); (try clear hob); (try clear ho0)))
      go_roundg k2
      case measure => have := HK1.out; have := HK2.out; omega
      case rel => exact ⟨(t409), (wrap64 (x16_1 + 1)), zr, H', ⟨by have := HK1.out; have := HK2.out; omega⟩, ⟨Kd.N_V (mN_ HO411.out)⟩, ⟨zb⟩⟩
     rw [if_pos c9] at H
     have c9b0 : decide (x21_2 < (x9_1.length : Int)) = true := decide_eq_true c9
     clear c9
     by_cases c10 : 0 ≤ x21_2
     rotate_left
     ·rw [if_neg c10] at H
      exact absurd H (by simp)
     rw [if_pos c10] at H
     have c10b0 : decide (0 ≤ x21_2) = true := decide_eq_true c10
     clear c10
     by_cases c11 : x21_2 < (x9_1.length : Int)
     rotate_left
     ·rw [if_neg c11] at H
      exact absurd H (by simp)
     rw [if_pos c11] at H
     have c11b0 : decide (x21_2 < (x9_1.length : Int)) = true := decide_eq_true c11
     clear c11
     replace H := Option.bind_eq_some_iff.mp H
     obtain ⟨t403, A120, H⟩ := H
     replace H : (if x10_2.length + t403.length < 5864062014805 then (impl_allGrown__impl_hexAround_impl_normal.l1 k2 (x10_2 ++ t403) (wrap64 (a0 - 1)) x16_1 x9_1 (x9_1.length : Int) (wrap64 (x21_2 + 1))) else (none)) = some r := H
     have A12 := aM A120
     clear A120
     by_cases c13 : x10_2.length + t403.length < 5864062014805
     rotate_left
     ·rw [if_neg c13] at H
      exact absurd H (by simp)
     rw [if_pos c13] at H
     have LMc13 := aM c13
     clear c13
     obtain ⟨y406, hy406⟩ : ∃ y_ : List (List (S43)), y_ = (x10_2 ++ t403) := ⟨_, rfl⟩
     replace H : (impl_allGrown__impl_hexAround_impl_normal.l1 k2 y406 (wrap64 (a0 - 1)) x16_1 x9_1 (x9_1.length : Int) (wrap64 (x21_2 + 1))) = some r := zy H hy406
     have Ny406 := aM hy406
     clear hy406
     have H' := aM H
     clear H
     have p402 : 0 ≤ (x21_2 : Int) := of_decide_eq_true za
     have q402 : x21_2 < (x9_1.length : Int) := of_decide_eq_true za
     obtain ⟨ad402, A402_0, c402_0, e402, hx402_0, hl402_0, hi402_0⟩ := at_L2 (Kd.V_reads' (VO_slice HO_19.out)).2.2 x21_2 p402 q402
     cases e402
     obtain ⟨ce402, hce402, hMe402, hcc402⟩ := Kd.V_get HO_19.out [] x21_2 p402 (by first | exact q402 | exact of_decide_eq_true za | (have e_ := (Kd.V_reads' HO_19.out).1; omega))
     obtain ⟨ua402_0, uc402_0, rfl, ul402_0, ge402_0⟩ := Kd.FK_slice_open (FKO_slice hMe402)
     have hv402_0 := hcc402 0 _ rfl
     rw [Nat.add_zero, show ((own b_ 43 k43)).sz = 1 from rfl, Nat.mul_one] at hv402_0
     replace hv402_0 := Option.some.inj (hv402_0.symm.trans hx402_0)
     injection hv402_0 with hva_ hvn_ hvc_
     rw [hva_] at ge402_0
     rw [hvc_] at ul402_0
     have HL402_0 := aM (show Kd.V k43 43 _ w.heap.size _ _ (rd_L2 x9_1 x21_2) from Kd.V_mk ul402_0 ge402_0)
     clear hva_ hvn_ hvc_ ge402_0 ul402_0
     clear hcc402 hce402
     have HR402_0 := aM hi402_0
     have HC402_0 := aM hl402_0
     clear hi402_0 hl402_0
     replace p402 := eq_true p402
     replace q402 := eq_true q402
     go_wp2_with (first | ((with_reducible refine gate_callee (f := 49) rfl ?_); refine goesL_ (some 29) rfl rfl Try.func49 (by kernel_rfl) rfl #[.slice A402_0 (rd_L2 x9_1 x21_2).length c402_0, .func (.func 35) #[] #[], .func (.func 36) #[] #[]] rfl zm ?_; (with_reducible refine (impl_grown__impl_hexAround_impl_normal.calls k2 _ _ (rd_L2 x9_1 x21_2)   t403 _ ?side1 ?side2 A12.out).mono ?_); (case side1 => repeat (first | exact (mQ_ HR402_0.out) | (with_reducible refine Kd.C_alloc ?_ _) | (with_reducible refine Kd.C_drewN ?_ _) | (with_reducible refine Kd.C_drew ?_))); (case side2 => exact HC402_0.out); rintro e w14 ⟨v404, rfl, ho0, hb⟩; refine ⟨_, rfl, ?_⟩; replace ho0 := NO_low ho0 (Nat.le_trans hb_ (below_size zb)); have n0_ := aM (Kd.N_elder' (mN_ HO_10.out) (by first | exact Kd.N_base ho0 | exact Kd.S_base ho0 | exact Kd.R_base ho0) hb); have n1_ := aM (Kd.V_elder' (mV_ HO_19.out) (by first | exact Kd.N_base ho0 | exact Kd.S_base ho0 | exact Kd.R_base ho0) hb); have n2_ := aM (Kd.V_elder' (mV_ HL402_0.out) (by first | exact Kd.N_base ho0 | exact Kd.S_base ho0 | exact Kd.R_base ho0) hb); have n3_ := aM (Kd.N_lower (Kd.N_mono (ok' := fun k_ => (P1_ k_ ∨ w.heap.size ≤ k_) ∧ some k_ ≠ (u10 : Value).ownBlock) ho0 (fun k_ hk_ => ⟨(.inr (Nat.le_trans (below_size zb) hk_)), (Kd.fresh' (Kd.N_lt (mN_ HO_10.out)) k_ hk_)⟩)) (below_size zb)); have n4_ := aM (Kd.C_below (mQ_ HR402_0.out) hb); have n5_ := aM (below_step zb hb); clear HO_10 HO_19 HL402_0 HR402_0 HB; have HO_10 := n0_; have HO_19 := n1_; have HL402_0 := n2_; have HO405 := n3_; have HR402_0 := n4_; have HB := n5_; clear n0_ n1_ n2_ n3_ n4_ n5_; (try clear hb); (try clear hb2); (try clear hk); (try clear hi); (try clear ho0); obtain ⟨Ao16, co16, eo16⟩ := Kd.N_slice HO405.out; subst eo16) | ((with_reducible refine gate_builtin (b := .append) (xs := #[.tmp 25, .tmp 29]) rfl ?_); at_builtin; refine Kd.N_append_rows (own b_ 43 k43) (w0 := w) w.heap.size rfl (.tmp 25) (.tmp 29) 22 36 (.slice none 0 0) 24 rfl Try.underlying22 info36 rfl (Nat.lt_succ_self 0) (by omega) u10 x10_2 t403 _ _ _ (fun k_ => (P1_ k_ ∨ w.heap.size ≤ k_)) (fun k_ => ((fun k_ => (P1_ k_ ∨ w.heap.size ≤ k_))) k_ ∧ some k_ ≠ (u10 : Value).ownBlock) rfl rfl ?aO ?aR (fun _ hk => hk) ?aF ?aB ?aS ?aL ?_; (case aR => exact (by skip; exact Kd.N_F (Kd.N_mono (ok' := (fun k_ => ((fun k_ => (P1_ k_ ∨ w.heap.size ≤ k_))) k_ ∧ some k_ ≠ (u10 : Value).ownBlock)) (HO405.out) (fun k_ hk => ⟨hk.1, hk.2⟩)))); (case aB => exact zb); (case aF => exact (fun k_ hk => (.inr (Nat.le_trans (below_size zb) hk)))); (case aO => exact (zd5 HO_10.out)); (case aS => exact (below_size zb)); (case aL => have := LMc13.out; omega); intro v407 w15 ho hb hg hat; rw [← Ny406.out] at ho; have n0_ := aM (Kd.V_afterv (ok := (fun k_ => (P1_ k_ ∨ w.heap.size ≤ k_) ∧ some k_ ≠ (.slice Ao16 t403.length co16 : Value).ownBlock)) (zd3 HO_19.out) hg hat); have n1_ := aM (Kd.V_afterv (ok := (fun k_ => (P1_ k_ ∨ w.heap.size ≤ k_) ∧ some k_ ≠ (.slice Ao16 t403.length co16 : Value).ownBlock)) (zd3 HL402_0.out) hg hat); have n2_ := aM (Kd.N_afterv (ok := (fun k_ => (P1_ k_ ∨ w.heap.size ≤ k_))) (mN_ HO405.out) hg hat); have n3_ := aM (hb); have n4_ := aM (ho); clear HO_19 HL402_0 HO405 HB HO_10; have HO_19 := n0_; have HL402_0 := n1_; have HO405 := n2_; have HB := n3_; have HO408 := n4_; clear n0_ n1_ n2_ n3_ n4_; clear ho hb hg hat))
     go_roundg k2
     case measure => have := HK1.out; have := HK2.out; omega
     case rel => exact ⟨(y406), (wrap64 (x21_2 + 1)), zr, H', ⟨by have := HK1.out; have := HK2.out; omega⟩, ⟨mN_ HO408.out⟩, ⟨zd4 HO_19.out⟩, ⟨zb⟩⟩
def impl_allHexes.f (k : Nat) (a0 : Int) : Option ((List (List (S43)))) := (impl_allGrown__impl_hexAround_impl_normal.f k a0 (([(([(⟨0, 0⟩ : S43)] : List (S43)))] : List (List (S43))))).bind fun t418 => (some t418)
theorem impl_allHexes.calls (k : Nat) (a0 : Int) (r : List (List (S43))) (w : World) (h : impl_allHexes.f k a0 = some r) :
  Calls Try.prog 17 #[.int .i64 a0] w fun e w' => ∃ v0_ : Value, e = .returned (v0_) ∧ Kd.V (own w.heap.size 43 k43) 36 w' w.heap.size (fun k_ => (w.heap.size ≤ k_)) v0_ r ∧ Below w.heap.size w w' := by
 have hu43 := Try.underlying43
 have HB := aM (Below.refl w.heap.size w)
 have H : ((impl_allGrown__impl_hexAround_impl_normal.f k a0 (([(([(⟨0, 0⟩ : S43)] : List (S43)))] : List (List (S43))))).bind fun t418 => (some t418)) = some r := h
 clear h
 obtain ⟨y412, hy412⟩ : ∃ y_ : List (S43), y_ = (([(⟨0, 0⟩ : S43)] : List (S43))) := ⟨_, rfl⟩
 replace H : ((impl_allGrown__impl_hexAround_impl_normal.f k a0 (([y412] : List (List (S43))))).bind fun t418 => (some t418)) = some r := zy H hy412
 have Ny412 := aM hy412
 clear hy412
 obtain ⟨y415, hy415⟩ : ∃ y_ : List (List (S43)), y_ = (([y412] : List (List (S43)))) := ⟨_, rfl⟩
 replace H : ((impl_allGrown__impl_hexAround_impl_normal.f k a0 y415).bind fun t418 => (some t418)) = some r := zy H hy415
 have Ny415 := aM hy415
 clear hy415
 replace H := Option.bind_eq_some_iff.mp H
 obtain ⟨t418, A20, H⟩ := H
 replace H : (some t418) = some r := H
 have A2 := aM A20
 clear A20
 obtain rfl := Option.some.inj H
 go_enter Try.func17, Try.ntmps17
 go_wp2_with (first | ((with_reducible refine gate_dst (N := 5) rfl ?_); refine Kd.R_lit k43 _ 43 ?hg (N := 5) ?hd (xs := ([(⟨0, 0⟩ : S43)] : List (S43))) (inner := [.int .i64 0, .int .i64 0]) (ok := fun _ => True) (okp := fun _ => True) ?hr ?hp (fun _ hk => hk) trivial (Below.refl _ _) (Nat.le_refl _) (by simp) ?_; (case hd => rfl); (case hg => rfl); (case hr => first | (go_simp; done) | (go_simp; rfl)); (case hp => exact (Reps.c2 (show Kd.M k43 _ _ _ (⟨0, 0⟩ : S43) [.int .i64 0, .int .i64 0] from (k43_mkM _ _ _ (⟨0, 0⟩ : S43) )) (Reps.none _ _))); intro v413 w3 ho4 hb hg_ hnew_; clear hg_ hnew_; (first | rw [← Ny412.out] at ho4 | (simp only [Int.reduceToNat] at ho4; rw [← Ny412.out] at ho4)); have n0_ := aM (Kd.R_lower (Kd.R_newM (M := fun k_ => (w.heap.size ≤ k_)) ho4 (below_size zb) (fun k_ h_ => h_)) (below_size zb)); have n1_ := aM (below_step zb hb); clear HB; have HO414 := n0_; have HB := n1_; clear n0_ n1_ hb ho4; obtain ⟨Ao5, co5, eo5⟩ := Kd.R_slice HO414.out; subst eo5) | ((with_reducible refine gate_dst (N := 6) rfl ?_); refine Kd.N_lit (own w.heap.size 43 k43) _ 36 ?hg (N' := 6) ?hd (xs := ([y412] : List (List (S43)))) (inner := [.slice Ao5 y412.length co5]) (ok := (fun k_ => (w.heap.size ≤ k_))) (okp := (fun k_ => (w.heap.size ≤ k_))) ?hr ?hp (fun _ hk => hk) ((show ∀ k_, w3.heap.size ≤ k_ → (fun k_ => (w.heap.size ≤ k_)) k_ from fun k_ hk => (Nat.le_trans (below_size zb) hk)) _ (Nat.le_refl _)) (Below.refl _ _) (Nat.le_refl _) (by simp) ?_; (case hd => rfl); (case hg => rfl); (case hr => first | (go_simp; done) | (go_simp; rfl)); (case hp => exact (Reps.one (show Kd.FK (own w.heap.size 43 k43) _ _ y412 [.slice Ao5 y412.length co5] from (FKO_R rfl (Kd.R_mono (ok' := (fun k_ => (w.heap.size ≤ k_))) (HO414.out) (fun k_ hk => hk.1)) (Nat.le_refl _))) (Reps.none _ _))); intro v416 w6 ho7 hb hg_ hnew_; clear hg_ hnew_; (first | rw [← Ny415.out] at ho7 | (simp only [Int.reduceToNat] at ho7; rw [← Ny415.out] at ho7)); have n0_ := aM (Kd.N_lower ho7 (below_size zb)); have n1_ := aM (below_step zb hb); clear HB HO414; have HO417 := n0_; have HB := n1_; clear n0_ n1_ hb ho7; obtain ⟨Ao8, co8, eo8⟩ := Kd.N_slice HO417.out; subst eo8) | ((with_reducible refine gate_callee (f := 34) rfl ?_); refine goesL_ (some 7) rfl rfl Try.func34 (by kernel_rfl) rfl #[.int .i64 a0, .slice Ao8 y415.length co8, .func (.func 35) #[] #[], .func (.func 36) #[] #[]] rfl zm ?_; (with_reducible refine (impl_allGrown__impl_hexAround_impl_normal.calls k a0 (fun k_ => (w.heap.size ≤ k_)) _ _ y415   t418 _ (b_ := w.heap.size) (below_size zb) ?side1 A2.out).mono ?_); (case side1 => exact Kd.N_V (HO417.out)); rintro e w9 ⟨v419, rfl, ho0, hb⟩; refine ⟨_, rfl, ?_⟩; have n0_ := aM (Kd.N_below (mN_ HO417.out) hb); have n1_ := aM (Kd.V_lower (Kd.V_mono (ok' := fun k_ => (w.heap.size ≤ k_)) ho0 (fun k_ hk_ => Or.elim hk_ (fun hs_ => hs_) (fun hn_ => (Nat.le_trans (below_size zb) hn_)))) (below_size zb)); have n2_ := aM (below_step zb hb); clear HO417 HB; have HO417 := n0_; have HO420 := n1_; have HB := n2_; clear n0_ n1_ n2_; (try clear hb); (try clear hb2); (try clear hk); (try clear hi); (try clear ho0)))
 go_ret
 exact ⟨_, zw, mV_ HO420.out, zb⟩
def impl_hexForm.f (k : Nat) (l0 : List (S43)) (a1 : Int) : Option ((List (S43))) := (impl_latticeCells.f k l0 a1).bind fun t432 => ((impl_normal.f k t432).bind fun t435 => (some t435))
theorem impl_hexForm.calls (k : Nat) (A0 : Option Addr) (c0 : Nat) (l0 : List (S43)) (a1 : Int) (r : List (S43)) (w : World) (hr0 : Kd.C k43 w A0 l0.length l0) (hc0 : l0.length ≤ c0) (h : impl_hexForm.f k l0 a1 = some r) :
  Calls Try.prog 18 #[.slice A0 l0.length c0, .int .i64 a1] w fun e w' => ∃ v0_ : Value, e = .returned (v0_) ∧ Kd.R k43 43 w' w.heap.size (fun _ => True) v0_ r ∧ Below w.heap.size w w' := by
 have HR0 := aM hr0
 have HC0 := aM hc0
 clear hr0 hc0
 have HB := aM (Below.refl w.heap.size w)
 have H : ((impl_latticeCells.f k l0 a1).bind fun t432 => ((impl_normal.f k t432).bind fun t435 => (some t435))) = some r := h
 clear h
 replace H := Option.bind_eq_some_iff.mp H
 obtain ⟨t432, A30, H⟩ := H
 replace H : ((impl_normal.f k t432).bind fun t435 => (some t435)) = some r := H
 have A3 := aM A30
 clear A30
 replace H := Option.bind_eq_some_iff.mp H
 obtain ⟨t435, A40, H⟩ := H
 replace H : (some t435) = some r := H
 have A4 := aM A40
 clear A40
 obtain rfl := Option.some.inj H
 go_enter Try.func18, Try.ntmps18
 go_wp2_with (first | ((with_reducible refine gate_callee (f := 37) rfl ?_); refine goesL_ (some 7) rfl rfl Try.func37 (by kernel_rfl) rfl #[.slice A0 l0.length c0, .int .i64 a1] rfl zm ?_; (with_reducible refine (impl_latticeCells.calls k _ _ l0 a1 t432 _ ?side1 ?side2 A3.out).mono ?_); (case side1 => repeat (first | exact HR0.out | (with_reducible refine Kd.C_alloc ?_ _) | (with_reducible refine Kd.C_drewN ?_ _) | (with_reducible refine Kd.C_drew ?_))); (case side2 => exact HC0.out); rintro e w5 ⟨v433, rfl, ho0, hb⟩; refine ⟨_, rfl, ?_⟩; have n0_ := aM (Kd.R_lower ho0 (below_size zb)); have n1_ := aM (below_step zb hb); clear HB; have HO434 := n0_; have HB := n1_; clear n0_ n1_; (try clear hb); (try clear hb2); (try clear hk); (try clear hi); (try clear ho0); obtain ⟨Ao6, co6, eo6⟩ := Kd.R_slice HO434.out; subst eo6) | ((with_reducible refine gate_callee (f := 36) rfl ?_); refine goesL_ (some 8) rfl rfl Try.func36 (by kernel_rfl) rfl #[.slice Ao6 t432.length co6] rfl zm ?_; (with_reducible refine (impl_normal.calls k _ _ t432 t435 _ ?side1 ?side2 A4.out).mono ?_); (case side1 => exact zc HO434.out); (case side2 => exact (Kd.R_reads' HO434.out).2.1); rintro e w7 ⟨v436, rfl, ho0, hb⟩; refine ⟨_, rfl, ?_⟩; have n0_ := aM (Kd.R_elder' (mR_ HO434.out) (Kd.R_base ho0) hb); have n1_ := aM (Kd.R_lower (Kd.R_new' ho0 (Kd.R_lt (mR_ HO434.out))) (below_size zb)); have n2_ := aM (below_step zb hb); clear HO434 HB; have HO434 := n0_; have HO437 := n1_; have HB := n2_; clear n0_ n1_ n2_; (try clear hb); (try clear hb2); (try clear hk); (try clear hi); (try clear ho0)))
 go_ret
 exact ⟨_, zw, zd1 HO437.out, zb⟩
def impl_leastForm__impl_hexForm.l0 : Nat → List (S43) → List (List (S43)) → Int → Option ((List (S43)) × Bool)
 | 0, _, _, _ => none
 | k + 1, x0, x6, x10 => if x10 < 12 then ((impl_hexForm.f k x0 x10).bind fun t458 => ((impl_IsShape.f k t458).bind fun t461 => (if t461 = true then (if x6.length < 5864062014805 then (impl_leastForm__impl_hexForm.l0 k x0 (x6 ++ [t458]) (wrap64 (x10 + 1))) else (none)) else (some (([] : List (S43)), false))))) else ((impl_leastOf.f k x6).bind fun t455 => (some (t455, true)))
def impl_leastForm__impl_hexForm.f (k : Nat) (l0 : List (S43))  : Option ((List (S43)) × Bool) := impl_leastForm__impl_hexForm.l0 k l0 (([] : List (List (S43)))) 0
end Go.Proofs.Ytibbjiehblpmfaa.F
end
