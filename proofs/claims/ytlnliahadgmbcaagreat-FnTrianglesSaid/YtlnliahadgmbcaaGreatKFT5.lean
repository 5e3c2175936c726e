/- The row of FnTriangles, with what it needs: text 6 of 13. -/
import Derived.Test.YtlnliahadgmbcaaGreatKFT4
set_option maxHeartbeats 8000000
set_option maxRecDepth 100000
section
namespace Go.Proofs.YtlnliahadgmbcaaGreat.F
open Go.RowKit Go.Proofs.YtlnliahadgmbcaaGreatW.PrintWords Go.Proofs.YtlnliahadgmbcaaGreatW.PrintLast Go.Proofs.YtlnliahadgmbcaaGreatW.PrintMore
attribute [local go_sem] max2_int min2_int max_two min_two max_three min_three max_four min_four
set_option linter.unusedVariables false
set_option linter.unusedSimpArgs false
theorem impl_grown__impl_trianglesAround_impl_normalTriangles.calls (k : Nat) (A0 : Option Addr) (c0 : Nat) (l0 : List (S25))   (r : List (List (S25))) (w : World) (hr0 : Kd.C k25 w A0 l0.length l0) (hc0 : l0.length ≤ c0) (h : impl_grown__impl_trianglesAround_impl_normalTriangles.f k l0 = some r) :
  Calls Tryz.prog 49 #[.slice A0 l0.length c0, .func (.func 14) #[] #[], .func (.func 35) #[] #[]] w fun e w' => ∃ v0_ : Value, e = .returned (v0_) ∧ Kd.N (Kd.slice 25 k25) 27 w' w.heap.size (fun k_ => (w.heap.size ≤ k_)) v0_ r ∧ Below w.heap.size w w' := by
 have hu25 := Tryz.underlying25
 have HR0 := aM hr0
 have HC0 := aM hc0
 clear hr0 hc0
 have HB := aM (Below.refl w.heap.size w)
 have H : ((impl_beside__impl_trianglesAround.f k l0).bind fun t258 => (impl_grown__impl_trianglesAround_impl_normalTriangles.l0 k l0 (([] : List (List (S25)))) t258 (t258.length : Int) 0)) = some r := h
 clear h
 obtain ⟨y255, hy255⟩ : ∃ y_ : List (List (S25)), y_ = (([] : List (List (S25)))) := ⟨_, rfl⟩
 replace H : ((impl_beside__impl_trianglesAround.f k l0).bind fun t258 => (impl_grown__impl_trianglesAround_impl_normalTriangles.l0 k l0 y255 t258 (t258.length : Int) 0)) = some r := zy H hy255
 have Ny255 := aM hy255
 clear hy255
 replace H := Option.bind_eq_some_iff.mp H
 obtain ⟨t258, A40, H⟩ := H
 replace H : (impl_grown__impl_trianglesAround_impl_normalTriangles.l0 k l0 y255 t258 (t258.length : Int) 0) = some r := H
 have A4 := aM A40
 clear A40
 have H' := aM H
 clear H
 go_enter Tryz.func49, Tryz.ntmps49
 go_wp2_with (first | ((with_reducible refine gate_dst (N := 10) rfl ?_); refine Kd.N_lit (Kd.slice 25 k25) _ 27 ?hg (N' := 10) ?hd (xs := ([] : List (List (S25)))) (inner := []) (ok := (fun k_ => (w.heap.size ≤ k_))) (okp := (fun k_ => (w.heap.size ≤ k_))) ?hr ?hp (fun _ hk => hk) ((show ∀ k_, w.heap.size ≤ k_ → (fun k_ => (w.heap.size ≤ k_)) k_ from fun k_ hk => (Nat.le_trans (below_size zb) hk)) _ (Nat.le_refl _)) (Below.refl _ _) (Nat.le_refl _) (by simp) ?_; (case hd => rfl); (case hg => rfl); (case hr => first | (go_simp; done) | (go_simp; rfl)); (case hp => exact (Reps.none _ _)); intro v256 w5 ho6 hb hg_ hnew_; clear hg_ hnew_; (first | rw [← Ny255.out] at ho6 | (simp only [Int.reduceToNat] at ho6; rw [← Ny255.out] at ho6)); have n0_ := aM (Kd.N_lower ho6 (below_size zb)); have n1_ := aM (below_step zb hb); clear HB; have HO257 := n0_; have HB := n1_; clear n0_ n1_; clear hb ho6) | ((with_reducible refine gate_callee (f := 63) rfl ?_); refine goesL_ (some 13) rfl rfl Tryz.func63 (by kernel_rfl) rfl #[.slice A0 l0.length c0, .func (.func 14) #[] #[]] rfl zm ?_; (with_reducible refine (impl_beside__impl_trianglesAround.calls k _ _ l0  t258 _ ?side1 ?side2 A4.out).mono ?_); (case side1 => repeat (first | exact (Kd.C_below HR0.out HB.out) | (with_reducible refine Kd.C_alloc ?_ _) | (with_reducible refine Kd.C_drewN ?_ _) | (with_reducible refine Kd.C_drew ?_))); (case side2 => exact HC0.out); rintro e w7 ⟨v259, rfl, ho0, hb⟩; refine ⟨_, rfl, ?_⟩; have n0_ := aM (Kd.N_elder' (mN_ HO257.out) (Kd.R_base ho0) hb); have n1_ := aM (Kd.R_lower (Kd.R_newM (M := fun k_ => (w.heap.size ≤ k_)) ho0 (below_size zb) (fun k_ h_ => h_)) (below_size zb)); have n2_ := aM (below_step zb hb); clear HO257; clear HB; have HO257 := n0_; have HO260 := n1_; have HB := n2_; clear n0_ n1_ n2_; (try clear hb); (try clear hb2); (try clear hk); (try clear hi); (try clear ho0); obtain ⟨Ao8, co8, eo8⟩ := Kd.R_slice HO260.out; subst eo8))
 go_loopg [7, 15] k (fun kq v7 v15 w' => ∃ (x7_1 : List (List (S25))) (x15_1 : Int), v15 = .int .i64 x15_1 ∧ Aside0 (impl_grown__impl_trianglesAround_impl_normalTriangles.l0 kq l0 x7_1 t258 (t258.length : Int) x15_1 = some r) ∧ Aside0 (kq ≤ k) ∧ Aside0 (Kd.N (Kd.slice 25 k25) 27 w' w.heap.size (fun k_ => (w.heap.size ≤ k_) ∧ some k_ ≠ ((.slice Ao8 t258.length co8) : Value).ownBlock) v7 x7_1) ∧ Aside0 (Kd.R k25 25 w' w.heap.size (fun k_ => (w.heap.size ≤ k_)) (.slice Ao8 t258.length co8) t258) ∧ Aside0 (Below w.heap.size w w'))
 case atStart => exact ⟨(y255), (0), zr, H', ⟨Nat.le_refl _⟩, ⟨mN_ HO257.out⟩, ⟨by (with_reducible repeat (first | apply Kd.R_alloc | apply Kd.R_drewN | apply Kd.R_drew)); exact Kd.R_mono HO260.out (fun _ hk => hk.1)⟩, ⟨zb⟩⟩
 case round =>
  clear H'
  try clear p2
  try clear c7
  obtain ⟨x7_1, x15_1, rfl, HA, HK1, HO_7, HO_13, HB⟩ := hrel
  cases gk with
  | zero => exact absurd HA.out (by simp [impl_grown__impl_trianglesAround_impl_normalTriangles.l0])
  | succ k1 =>
   have H := HA.out
   clear HA
   simp only [impl_grown__impl_trianglesAround_impl_normalTriangles.l0] at H
   by_cases c9 : x15_1 < (t258.length : Int)
   rotate_left
   ·rw [if_neg c9] at H
    have c9b0 : decide (x15_1 < (t258.length : Int)) = false := decide_eq_false c9
    clear c9
    replace H := Option.bind_eq_some_iff.mp H
    obtain ⟨t284, A370, H⟩ := H
    replace H : (some t284) = some r := H
    have A37 := aM A370
    clear A370
    obtain rfl := Option.some.inj H
    obtain ⟨Ao38, co38, eo38⟩ := Kd.N_slice HO_7.out
    subst eo38
    go_wp2_with (first | ((with_reducible refine gate_callee (f := 50) rfl ?_); refine goesL_ (some 32) rfl rfl Tryz.func50 (by kernel_rfl) rfl #[.slice Ao38 x7_1.length co38] rfl zm ?_; (with_reducible refine (impl_tidyShapes.callsN (fun k_ => ((w.heap.size ≤ k_) ∧ some k_ ≠ (.slice Ao8 t258.length co8 : Value).ownBlock)) (.slice Ao38 x7_1.length co38) x7_1 t284 w _ ?side1 ?side2 A37.out).mono ?_); (case side1 => repeat (first | (with_reducible first | exact HB.out | apply below_alloc | apply pw_below_drewN | apply below_drew1) | exact HB.out)); (case side2 => exact HO_7.out); rintro e w39 ⟨v285, rfl, ho0, hb, hkp, hob⟩; refine ⟨_, rfl, ?_⟩; have n0_ := aM (Kd.R_mono (ok' := fun k_ => (w.heap.size ≤ k_)) (Kd.R_keptB ((Kd.R_apart' HO_13.out (Kd.N_typed HO_7.out) (by decide))) hkp (fun k_ hk_ hs_ => (hk_.2) hs_)) (fun k_ hk_ => hk_.1.1)); have n1_ := aM (Kd.N_lower (Kd.N_mono (ok' := fun k_ => (w.heap.size ≤ k_) ∧ some k_ ≠ (.slice Ao8 t258.length co8 : Value).ownBlock) ho0 (fun k_ hk_ => ⟨Or.elim hk_ (fun hs_ => hs_.1) (fun hn_ => (Nat.le_trans (below_size zb) hn_)), Or.elim hk_ (fun hs_ => hs_.2) (fun hn_ => (Kd.fresh' (Kd.R_lt (mR_ HO_13.out)) k_ hn_))⟩)) (Nat.le_refl _)); have n2_ := aM (hb); clear HO_13; clear HB; clear HO_7; have HO_13 := n0_; have HO286 := n1_; have HB := n2_; clear n0_ n1_ n2_; (try clear hb); (try clear hkp); (try clear hob); (try clear ho0)))
    go_ret
    exact ⟨_, zw, by (with_reducible repeat (first | apply Kd.N_alloc | apply Kd.N_drewN | apply Kd.N_drew)); exact Kd.N_mono HO286.out (fun _ hk => hk.1), zb⟩
   rw [if_pos c9] at H
   have c9b0 : decide (x15_1 < (t258.length : Int)) = true := decide_eq_true c9
   clear c9
   by_cases c10 : 0 ≤ x15_1
   rotate_left
   ·rw [if_neg c10] at H
    exact absurd H (by simp)
   rw [if_pos c10] at H
   have c10b0 : decide (0 ≤ x15_1) = true := decide_eq_true c10
   clear c10
   by_cases c11 : x15_1 < (t258.length : Int)
   rotate_left
   ·rw [if_neg c11] at H
    exact absurd H (by simp)
   rw [if_pos c11] at H
   have c11b0 : decide (x15_1 < (t258.length : Int)) = true := decide_eq_true c11
   clear c11
   replace H := Option.bind_eq_some_iff.mp H
   obtain ⟨t263, A120, H⟩ := H
   replace H : ((some (([(⟨(rd_T25 t258 x15_1).f0, (rd_T25 t258 x15_1).f1⟩ : S25)] : List (S25)) : List (S25))).bind fun y266 => (if t263.length + y266.length < 8796093022208 then ((impl_sorted.f (t263 ++ y266)).bind fun t272 => ((impl_normalTriangles.f k1 t272).bind fun t275 => ((some (([t275] : List (List (S25))) : List (List (S25)))).bind fun y278 => (if x7_1.length + y278.length < 5864062014805 then (impl_grown__impl_trianglesAround_impl_normalTriangles.l0 k1 l0 (x7_1 ++ y278) t258 (t258.length : Int) (wrap64 (x15_1 + 1))) else (none))))) else (none))) = some r := H
   have A12 := aM A120
   clear A120
   obtain ⟨y266, hy266⟩ : ∃ y_ : List (S25), y_ = (([(⟨(rd_T25 t258 x15_1).f0, (rd_T25 t258 x15_1).f1⟩ : S25)] : List (S25))) := ⟨_, rfl⟩
   replace H : (if t263.length + y266.length < 8796093022208 then ((impl_sorted.f (t263 ++ y266)).bind fun t272 => ((impl_normalTriangles.f k1 t272).bind fun t275 => ((some (([t275] : List (List (S25))) : List (List (S25)))).bind fun y278 => (if x7_1.length + y278.length < 5864062014805 then (impl_grown__impl_trianglesAround_impl_normalTriangles.l0 k1 l0 (x7_1 ++ y278) t258 (t258.length : Int) (wrap64 (x15_1 + 1))) else (none))))) else (none)) = some r := zy H hy266
   have Ny266 := aM hy266
   clear hy266
   by_cases c13 : t263.length + y266.length < 8796093022208
   rotate_left
   ·rw [if_neg c13] at H
    exact absurd H (by simp)
   rw [if_pos c13] at H
   have LMc13 := aM c13
   clear c13
   obtain ⟨y269, hy269⟩ : ∃ y_ : List (S25), y_ = (t263 ++ y266) := ⟨_, rfl⟩
   replace H : ((impl_sorted.f y269).bind fun t272 => ((impl_normalTriangles.f k1 t272).bind fun t275 => ((some (([t275] : List (List (S25))) : List (List (S25)))).bind fun y278 => (if x7_1.length + y278.length < 5864062014805 then (impl_grown__impl_trianglesAround_impl_normalTriangles.l0 k1 l0 (x7_1 ++ y278) t258 (t258.length : Int) (wrap64 (x15_1 + 1))) else (none))))) = some r := zy H hy269
   have Ny269 := aM hy269
   clear hy269
   replace H := Option.bind_eq_some_iff.mp H
   obtain ⟨t272, A140, H⟩ := H
   replace H : ((impl_normalTriangles.f k1 t272).bind fun t275 => ((some (([t275] : List (List (S25))) : List (List (S25)))).bind fun y278 => (if x7_1.length + y278.length < 5864062014805 then (impl_grown__impl_trianglesAround_impl_normalTriangles.l0 k1 l0 (x7_1 ++ y278) t258 (t258.length : Int) (wrap64 (x15_1 + 1))) else (none)))) = some r := H
   have A14 := aM A140
   clear A140
   replace H := Option.bind_eq_some_iff.mp H
   obtain ⟨t275, A150, H⟩ := H
   replace H : ((some (([t275] : List (List (S25))) : List (List (S25)))).bind fun y278 => (if x7_1.length + y278.length < 5864062014805 then (impl_grown__impl_trianglesAround_impl_normalTriangles.l0 k1 l0 (x7_1 ++ y278) t258 (t258.length : Int) (wrap64 (x15_1 + 1))) else (none))) = some r := H
   have A15 := aM A150
   clear A150
   obtain ⟨y278, hy278⟩ : ∃ y_ : List (List (S25)), y_ = (([t275] : List (List (S25)))) := ⟨_, rfl⟩
   replace H : (if x7_1.length + y278.length < 5864062014805 then (impl_grown__impl_trianglesAround_impl_normalTriangles.l0 k1 l0 (x7_1 ++ y278) t258 (t258.length : Int) (wrap64 (x15_1 + 1))) else (none)) = some r := zy H hy278
   have Ny278 := aM hy278
   clear hy278
   by_cases c16 : x7_1.length + y278.length < 5864062014805
   rotate_left
   ·rw [if_neg c16] at H
    exact absurd H (by simp)
   rw [if_pos c16] at H
   have LMc16 := aM c16
   clear c16
   obtain ⟨y281, hy281⟩ : ∃ y_ : List (List (S25)), y_ = (x7_1 ++ y278) := ⟨_, rfl⟩
   replace H : (impl_grown__impl_trianglesAround_impl_normalTriangles.l0 k1 l0 y281 t258 (t258.length : Int) (wrap64 (x15_1 + 1))) = some r := zy H hy281
   have Ny281 := aM hy281
   clear hy281
   have H' := aM H
   clear H
   have p261 : 0 ≤ (x15_1 : Int) := of_decide_eq_true za
   have q261 : x15_1 < (t258.length : Int) := of_decide_eq_true za
   obtain ⟨ad261, e261, hx261_0, hx261_1⟩ := at_T25 (Kd.R_reads' HO_13.out).2.2 x15_1 p261 q261
   cases e261
   replace p261 := eq_true p261
   replace q261 := eq_true q261
   try go_wp2_with (first | ((with_reducible refine gate_dst (N := 9) rfl ?_); refine box_event ?hg (N := 9) ?hd (cs := #[.int .i64 0, .int .i64 0]) (t := 25) ?hr ?_; (case hd => rfl); (case hg => rfl); (case hr => first | (go_simp; done) | (go_simp; rfl)); intro gb262 hg w17 hbox hb; have n0_ := aM (Kd.N_below (Kd.N_elderB (mN_ HO_7.out) gb262 (Nat.le_of_eq hg.symm)) hb); have n1_ := aM (Kd.R_below (Kd.R_elderB (mR_ HO_13.out) gb262 (Nat.le_of_eq hg.symm)) hb); have n2_ := aM (below_step zb hb); have n3_ := aM (hbox); have n4_ := aM ((ze : w.heap.size ≤ gb262)); have n5_ := aM ((ze : w.heap.size ≤ gb262)); clear HO_7; clear HO_13; clear HB; have HO_7 := n0_; have HO_13 := n1_; have HB := n2_; have BK262 := n3_; have GW262 := n4_; have GE262 := n5_; clear n0_ n1_ n2_ n3_ n4_ n5_; clear hb hbox hg; have hcz18_0 : w17.cell? ⟨gb262, 0, none⟩ = some (.int .i64 0) := (blk_cell BK262.out 0).trans rfl; have hcz18_1 : w17.cell? ⟨gb262, 1, none⟩ = some (.int .i64 0) := (blk_cell BK262.out 1).trans rfl; have hfz18_0 := blk_frozen BK262.out 0; have hfz18_1 := blk_frozen BK262.out 1; obtain ⟨Ao19, co19, eo19⟩ := Kd.N_slice HO_7.out; subst eo19))
   have n0_ : Aside0 (Kd.N (Kd.slice 25 k25) 27 ((w17.setCell ⟨gb262, 0, none⟩ (.int .i64 ((rd_T25 t258 x15_1).f0))).setCell ⟨gb262, 1, none⟩ (.int .i64 ((rd_T25 t258 x15_1).f1))) w.heap.size (fun k_ => (w.heap.size ≤ k_) ∧ some k_ ≠ (.slice (some ad261) t258.length co8 : Value).ownBlock ∧ k_ ≠ gb262) (.slice Ao19 x7_1.length co19) x7_1) := ⟨by (with_reducible repeat (first | apply Kd.N_alloc | apply Kd.N_drewN | apply Kd.N_drew)); exact Kd.N_mono (Kd.N_far (p := ⟨gb262, 1, none⟩) (Kd.N_far (p := ⟨gb262, 0, none⟩) (Kd.N_mono HO_7.out (fun k_ hk => (⟨hk, hk.2⟩ : _ ∧ k_ ≠ gb262))) (fun _ hk => hk.2) (.int .i64 ((rd_T25 t258 x15_1).f0))) (fun _ hk => hk.2) (.int .i64 ((rd_T25 t258 x15_1).f1))) (fun _ hk => ⟨hk.1.1.1, ⟨hk.1.1.2, hk.1.2⟩⟩)⟩
   have n1_ : Aside0 (Kd.R k25 25 ((w17.setCell ⟨gb262, 0, none⟩ (.int .i64 ((rd_T25 t258 x15_1).f0))).setCell ⟨gb262, 1, none⟩ (.int .i64 ((rd_T25 t258 x15_1).f1))) w.heap.size (fun k_ => (w.heap.size ≤ k_) ∧ k_ ≠ gb262) (.slice (some ad261) t258.length co8) t258) := ⟨by (with_reducible repeat (first | apply Kd.R_alloc | apply Kd.R_drewN | apply Kd.R_drew)); exact Kd.R_mono (Kd.R_far (p := ⟨gb262, 1, none⟩) (Kd.R_far (p := ⟨gb262, 0, none⟩) (Kd.R_mono HO_13.out (fun k_ hk => (⟨hk, hk.2⟩ : _ ∧ k_ ≠ gb262))) (fun _ hk => hk.2) (.int .i64 ((rd_T25 t258 x15_1).f0))) (fun _ hk => hk.2) (.int .i64 ((rd_T25 t258 x15_1).f1))) (fun _ hk => ⟨hk.1.1, hk.1.2⟩)⟩
   have n2_ : Aside0 (((w17.setCell ⟨gb262, 0, none⟩ (.int .i64 ((rd_T25 t258 x15_1).f0))).setCell ⟨gb262, 1, none⟩ (.int .i64 ((rd_T25 t258 x15_1).f1))).heap[gb262]? = some (.cells #[.int .i64 ((rd_T25 t258 x15_1).f0), .int .i64 ((rd_T25 t258 x15_1).f1)] 25 (0, 0))) := ⟨by (with_reducible repeat (first | refine blk_drewN ?_ _ | refine blk_drew ?_ | refine blk_alloc ?_ _)); refine blk_put (cs := #[.int .i64 ((rd_T25 t258 x15_1).f0), .int .i64 0]) ?_ 1 _ rfl; (with_reducible repeat (first | refine blk_drewN ?_ _ | refine blk_drew ?_ | refine blk_alloc ?_ _)); refine blk_put (cs := #[.int .i64 0, .int .i64 0]) ?_ 0 _ rfl; (with_reducible repeat (first | refine blk_drewN ?_ _ | refine blk_drew ?_ | refine blk_alloc ?_ _)); exact BK262.out⟩
   have n3_ : Aside0 (Below w.heap.size w ((w17.setCell ⟨gb262, 0, none⟩ (.int .i64 ((rd_T25 t258 x15_1).f0))).setCell ⟨gb262, 1, none⟩ (.int .i64 ((rd_T25 t258 x15_1).f1)))) := ⟨zs GE262.out⟩
   (try clear HO_7)
   (try clear HO_13)
   (try clear BK262)
   (try clear HB)
   generalize ((w17.setCell ⟨gb262, 0, none⟩ (.int .i64 ((rd_T25 t258 x15_1).f0))).setCell ⟨gb262, 1, none⟩ (.int .i64 ((rd_T25 t258 x15_1).f1))) = w20 at n0_ n1_ n2_ n3_ ⊢
   have HO_7 := n0_
   have HO_13 := n1_
   have BK262 := n2_
   have HB := n3_
   clear n0_ n1_ n2_ n3_
   have n0_ := aM (Kd.N_drew HO_7.out)
   have n1_ := aM (Kd.R_drew HO_13.out)
   have n2_ := aM (blk_drew BK262.out)
   have n3_ := aM (below_drew1 HB.out)
   clear HO_7
   clear HO_13
   clear BK262
   clear HB
   have HO_7 := n0_
   have HO_13 := n1_
   have BK262 := n2_
   have HB := n3_
   clear n0_ n1_ n2_ n3_
   refine start_ (n := 12) (S := fun w' => w'.cell? ⟨gb262, 0, none⟩ = some (.int .i64 ((rd_T25 t258 x15_1).f0)) ∧ w'.cell? ⟨gb262, 1, none⟩ = some (.int .i64 ((rd_T25 t258 x15_1).f1))) (ds := []) #[false, false, false, false, false, false, false, false, false, false, false, false] (by kernel_rfl) rfl rfl ⟨(blk_cell BK262.out 0).trans rfl, (blk_cell BK262.out 1).trans rfl⟩ (fun hHeld => ?_); refine with_tabW impl_grown__impl_trianglesAround_impl_normalTriangles.tab5 impl_grown__impl_trianglesAround_impl_normalTriangles.bits5 (fun HT_ HW_ => ?_)
   generalize w20.drew = w21 at HO_7 HO_13 BK262 HB hHeld ⊢
   refine pure_ (i := 0) (N := some 19) (v := ?_) (a' := ?_) #[true, false, false, false, false, false, false, false, false, false, false, false] rfl rfl zz (fun _ _ _ h => h) (Or.inl ⟨by rfl, ?_⟩) ?_ ?_
   rotate_left
   ·intro w'
    go_simp
    with_reducible rfl
   rotate_left
   ·simp only [Act.put, xA, xB, xC, i64_w, i32_w]
    rfl
   refine pure_ (i := 1) (N := some 20) (v := ?_) (a' := ?_) #[true, true, false, false, false, false, false, false, false, false, false, false] rfl rfl zz (fun _ _ _ h => h) (Or.inl ⟨by rfl, ?_⟩) ?_ ?_
   rotate_left
   ·intro w'
    go_simp
    with_reducible rfl
   rotate_left
   ·simp only [Act.put, xA, xB, xC, i64_w, i32_w]
    rfl
   refine pure_ (i := 2) (N := some 21) (v := ?_) (a' := ?_) #[true, true, true, false, false, false, false, false, false, false, false, false] rfl rfl zz (fun _ _ _ h => h) (Or.inl ⟨by rfl, ?_⟩) ?_ ?_
   rotate_left
   ·intro w'
    go_simp
    with_reducible rfl
   rotate_left
   ·simp only [Act.put, xA, xB, xC, i64_w, i32_w]
    rfl
   refine take_ (i := 4) (N := some 23) (v := ?_) (a' := ?_) #[true, true, true, false, true, false, false, false, false, false, false, false] rfl rfl (take_ofW HT_.out HW_.out (by kernel_rfl)) (fun _ _ _ h => h) (Or.inl ⟨by rfl, ?_⟩) hHeld ?_ ?_
   rotate_left
   ·rintro w' ⟨s0, s1⟩
    go_simp
    with_reducible rfl
   rotate_left
   ·simp only [Act.put, xA, xB, xC, i64_w, i32_w]
    rfl
   refine join_ (σ := Value × Value) 6 #[true, true, true, true, true, true, false, false, false, false, false, false] (fun s_ => [(22, s_.1), (24, s_.2)]) (fun s_ w' => (w'.cell? ⟨gb262, 0, none⟩ = some (.int .i64 ((rd_T25 t258 x15_1).f0)) ∧ w'.cell? ⟨gb262, 1, none⟩ = some (.int .i64 ((rd_T25 t258 x15_1).f1))) ∧ (Kd.R k25 25 w' w.heap.size (fun k_ => (w.heap.size ≤ k_) ∧ some k_ ≠ (s_.2 : Value).ownBlock ∧ some k_ ≠ (.slice (some ad261) t258.length co8 : Value).ownBlock ∧ k_ ≠ gb262) s_.1 t263) ∧ (Kd.R k25 25 w' w.heap.size (fun k_ => (w.heap.size ≤ k_) ∧ some k_ ≠ (s_.1 : Value).ownBlock ∧ some k_ ≠ (.slice (some ad261) t258.length co8 : Value).ownBlock ∧ k_ ≠ gb262) s_.2 y266) ∧ (Kd.R k25 25 w' w.heap.size (fun k_ => (w.heap.size ≤ k_) ∧ some k_ ≠ (s_.1 : Value).ownBlock ∧ some k_ ≠ (s_.2 : Value).ownBlock ∧ k_ ≠ gb262) (.slice (some ad261) t258.length co8) t258) ∧ (Kd.N (Kd.slice 25 k25) 27 w' w.heap.size (fun k_ => (w.heap.size ≤ k_) ∧ some k_ ≠ (s_.1 : Value).ownBlock ∧ some k_ ≠ (s_.2 : Value).ownBlock ∧ some k_ ≠ (.slice (some ad261) t258.length co8 : Value).ownBlock ∧ k_ ≠ gb262) (.slice Ao19 x7_1.length co19) x7_1) ∧ (w'.heap[gb262]? = some (.cells #[.int .i64 ((rd_T25 t258 x15_1).f0), .int .i64 ((rd_T25 t258 x15_1).f1)] 25 (0, 0))) ∧ (Below w.heap.size w w')) ?_ ?_
   rotate_left
   ·intro hCont
    refine two_ (i := 3) (j := 5) (Ni := some 22) (Nj := some 24) #[true, true, true, true, true, false, false, false, false, false, false, false] #[true, true, true, false, true, true, false, false, false, false, false, false] rfl rfl rfl rfl (two_of HT_.out (by kernel_rfl)) (by decide) (by decide) (fun K hK => ?_) (fun K hK => ?_)
    ·skip
     first | refine goesV_ Tryz.func46 (by kernel_rfl) rfl #[.slice A0 l0.length c0] (by rfl) rfl _ rfl rfl zm ?_ | refine goes_ Tryz.func46 (by kernel_rfl) rfl #[.slice A0 l0.length c0] (by rfl) rfl rfl zm ?_
     with_reducible refine (impl_Cell_46.calls _ _ l0 t263 _ ?side1 ?side2 A12.out).mono ?_
     (case side1 => repeat (first | exact (Kd.C_below HR0.out HB.out) | (with_reducible refine Kd.C_alloc ?_ _) | (with_reducible refine Kd.C_drewN ?_ _) | (with_reducible refine Kd.C_drew ?_)))
     (case side2 => exact HC0.out)
     rintro e w22 ⟨v264, rfl, ho0, hb⟩
     refine ⟨_, rfl, ?_⟩
     have n0_ := aM (Kd.N_elder' (mN_ HO_7.out) (Kd.R_base ho0) hb)
     have n1_ := aM (Kd.R_elder' (mR_ HO_13.out) (Kd.R_base ho0) hb)
     have n2_ := aM (Kd.R_lower (Kd.R_newB (Kd.R_new' (Kd.R_newM (M := fun k_ => (w.heap.size ≤ k_)) ho0 (below_size (zs GE262.out)) (fun k_ h_ => h_)) (Kd.R_lt (mR_ HO_13.out))) (g := gb262) (o := .cells #[.int .i64 ((rd_T25 t258 x15_1).f0), .int .i64 ((rd_T25 t258 x15_1).f1)] 25 (0, 0)) (mB_ BK262.out)) (below_size (zs GE262.out)))
     have n3_ := aM (blk_below (g := gb262) (o := .cells #[.int .i64 ((rd_T25 t258 x15_1).f0), .int .i64 ((rd_T25 t258 x15_1).f1)] 25 (0, 0)) (mB_ BK262.out) hb)
     have n4_ := aM (below_step (zs GE262.out) hb)
     clear HO_7
     clear HO_13
     clear BK262
     clear HB
     have HO_7 := n0_
     have HO_13 := n1_
     have HO265 := n2_
     have BK262 := n3_
     have HB := n4_
     clear n0_ n1_ n2_ n3_ n4_
     (try clear hb)
     (try clear hb2)
     (try clear hk)
     (try clear hi)
     (try clear ho0)
     refine hK.out _ _ ⟨(blk_cell BK262.out 0).trans rfl, (blk_cell BK262.out 1).trans rfl⟩ (fun hHeld => ?_)
     clear hK K
     refine norm_ (a' := ?_) ?_ ?_
     rotate_left
     ·show Act.put _ (some 22) _ = _
      simp only [Act.put, xA, xB, xC, i64_w, i32_w]
      rfl
     refine one_ (i := 5) (N := some 24) #[true, true, true, true, true, true, false, false, false, false, false, false] rfl rfl (one_of HT_.out (by kernel_rfl)) (by decide) (fun K hK => ?_)
     refine Kd.R_lit_step k25 _ 25 ?hg (N := 24) ?hd (xs := ([(⟨(rd_T25 t258 x15_1).f0, (rd_T25 t258 x15_1).f1⟩ : S25)] : List (S25))) (inner := [.int .i64 ((rd_T25 t258 x15_1).f0), .int .i64 ((rd_T25 t258 x15_1).f1)]) (ok := fun _ => True) (okp := fun _ => True) ?hr ?hp (fun _ hk => hk) trivial (Below.refl _ _) (Nat.le_refl _) (by simp) ?_; (case hd => rfl); (case hg => rfl); (case hr => first | (go_simp; done) | (go_simp; rfl)); (case hp => exact (Reps.c2 (show Kd.M k25 _ _ _ (⟨(rd_T25 t258 x15_1).f0, (rd_T25 t258 x15_1).f1⟩ : S25) [.int .i64 ((rd_T25 t258 x15_1).f0), .int .i64 ((rd_T25 t258 x15_1).f1)] from (k25_mkM _ _ _ (⟨(rd_T25 t258 x15_1).f0, (rd_T25 t258 x15_1).f1⟩ : S25) )) (Reps.none _ _)))
     intro v267 w23 ho24 hb hg_ hnew_
     clear hg_ hnew_
     (first | rw [← Ny266.out] at ho24 | (simp only [Int.reduceToNat] at ho24; rw [← Ny266.out] at ho24))
     have n0_ := aM (Kd.N_elder' (mN_ HO_7.out) (Kd.R_base ho24) hb)
     have n1_ := aM (Kd.R_elder' (mR_ HO_13.out) (Kd.R_base ho24) hb)
     have n2_ := aM (Kd.R_elder' (mR_ HO265.out) (Kd.R_base ho24) hb)
     have n3_ := aM (Kd.R_lower (Kd.R_newB (Kd.R_new' (Kd.R_new' (Kd.R_newM (M := fun k_ => (w.heap.size ≤ k_)) ho24 (below_size (zs GE262.out)) (fun k_ h_ => h_)) (Kd.R_lt (mR_ HO_13.out))) (Kd.R_lt (mR_ HO265.out))) (g := gb262) (o := .cells #[.int .i64 ((rd_T25 t258 x15_1).f0), .int .i64 ((rd_T25 t258 x15_1).f1)] 25 (0, 0)) (mB_ BK262.out)) (below_size (zs GE262.out)))
     have n4_ := aM (blk_below (g := gb262) (o := .cells #[.int .i64 ((rd_T25 t258 x15_1).f0), .int .i64 ((rd_T25 t258 x15_1).f1)] 25 (0, 0)) (mB_ BK262.out) hb)
     have n5_ := aM (below_step (zs GE262.out) hb)
     clear HO_7
     clear HO_13
     clear HO265
     clear BK262
     clear HB
     have HO_7 := n0_
     have HO_13 := n1_
     have HO265 := n2_
     have HO268 := n3_
     have BK262 := n4_
     have HB := n5_
     clear n0_ n1_ n2_ n3_ n4_ n5_
     clear hb ho24
     refine hK.out _ _ ⟨(blk_cell BK262.out 0).trans rfl, (blk_cell BK262.out 1).trans rfl⟩ (fun hHeld => ?_)
     clear hK K
     refine norm_ (a' := ?_) ?_ ?_
     rotate_left
     ·show Act.put _ (some 24) _ = _
      simp only [Act.put, xA, xB, xC, i64_w, i32_w]
      rfl
     exact norm_ (by simp only [putAll, Act.put, xA, xB, xC]) (hCont (v264, v267) _ ⟨hHeld, (by (with_reducible repeat (first | apply Kd.R_alloc | apply Kd.R_drewN | apply Kd.R_drew)); exact Kd.R_mono HO265.out (fun _ hk => ⟨hk.1.1.1.1, ⟨hk.2, ⟨hk.1.1.2, hk.1.2⟩⟩⟩)), (by (with_reducible repeat (first | apply Kd.R_alloc | apply Kd.R_drewN | apply Kd.R_drew)); exact Kd.R_mono HO268.out (fun _ hk => ⟨hk.1.1.1.1, ⟨hk.1.2, ⟨hk.1.1.2, hk.2⟩⟩⟩)), (by (with_reducible repeat (first | apply Kd.R_alloc | apply Kd.R_drewN | apply Kd.R_drew)); exact Kd.R_mono HO_13.out (fun _ hk => ⟨hk.1.1.1, ⟨hk.1.2, ⟨hk.2, hk.1.1.2⟩⟩⟩)), (by (with_reducible repeat (first | apply Kd.N_alloc | apply Kd.N_drewN | apply Kd.N_drew)); exact Kd.N_mono HO_7.out (fun _ hk => ⟨hk.1.1.1, ⟨hk.1.2, ⟨hk.2, ⟨hk.1.1.2.1, hk.1.1.2.2⟩⟩⟩⟩)), (mB_ BK262.out), (zs GE262.out)⟩)
    ·skip
     refine Kd.R_lit_step k25 _ 25 ?hg (N := 24) ?hd (xs := ([(⟨(rd_T25 t258 x15_1).f0, (rd_T25 t258 x15_1).f1⟩ : S25)] : List (S25))) (inner := [.int .i64 ((rd_T25 t258 x15_1).f0), .int .i64 ((rd_T25 t258 x15_1).f1)]) (ok := fun _ => True) (okp := fun _ => True) ?hr ?hp (fun _ hk => hk) trivial (Below.refl _ _) (Nat.le_refl _) (by simp) ?_; (case hd => rfl); (case hg => rfl); (case hr => first | (go_simp; done) | (go_simp; rfl)); (case hp => exact (Reps.c2 (show Kd.M k25 _ _ _ (⟨(rd_T25 t258 x15_1).f0, (rd_T25 t258 x15_1).f1⟩ : S25) [.int .i64 ((rd_T25 t258 x15_1).f0), .int .i64 ((rd_T25 t258 x15_1).f1)] from (k25_mkM _ _ _ (⟨(rd_T25 t258 x15_1).f0, (rd_T25 t258 x15_1).f1⟩ : S25) )) (Reps.none _ _)))
     intro v267 w22 ho23 hb hg_ hnew_
     clear hg_ hnew_
     (first | rw [← Ny266.out] at ho23 | (simp only [Int.reduceToNat] at ho23; rw [← Ny266.out] at ho23))
     have n0_ := aM (Kd.N_elder' (mN_ HO_7.out) (Kd.R_base ho23) hb)
     have n1_ := aM (Kd.R_elder' (mR_ HO_13.out) (Kd.R_base ho23) hb)
     have n2_ := aM (Kd.R_lower (Kd.R_newB (Kd.R_new' (Kd.R_newM (M := fun k_ => (w.heap.size ≤ k_)) ho23 (below_size (zs GE262.out)) (fun k_ h_ => h_)) (Kd.R_lt (mR_ HO_13.out))) (g := gb262) (o := .cells #[.int .i64 ((rd_T25 t258 x15_1).f0), .int .i64 ((rd_T25 t258 x15_1).f1)] 25 (0, 0)) (mB_ BK262.out)) (below_size (zs GE262.out)))
     have n3_ := aM (blk_below (g := gb262) (o := .cells #[.int .i64 ((rd_T25 t258 x15_1).f0), .int .i64 ((rd_T25 t258 x15_1).f1)] 25 (0, 0)) (mB_ BK262.out) hb)
     have n4_ := aM (below_step (zs GE262.out) hb)
     clear HO_7
     clear HO_13
     clear BK262
     clear HB
     have HO_7 := n0_
     have HO_13 := n1_
     have HO268 := n2_
     have BK262 := n3_
     have HB := n4_
     clear n0_ n1_ n2_ n3_ n4_
     clear hb ho23
     refine hK.out _ _ ⟨(blk_cell BK262.out 0).trans rfl, (blk_cell BK262.out 1).trans rfl⟩ (fun hHeld => ?_)
     clear hK K
     refine norm_ (a' := ?_) ?_ ?_
     rotate_left
     ·show Act.put _ (some 24) _ = _
      simp only [Act.put, xA, xB, xC, i64_w, i32_w]
      rfl
     refine one_ (i := 3) (N := some 22) #[true, true, true, true, true, true, false, false, false, false, false, false] rfl rfl (one_of HT_.out (by kernel_rfl)) (by decide) (fun K hK => ?_)
     first | refine goesV_ Tryz.func46 (by kernel_rfl) rfl #[.slice A0 l0.length c0] (by rfl) rfl _ rfl rfl zm ?_ | refine goes_ Tryz.func46 (by kernel_rfl) rfl #[.slice A0 l0.length c0] (by rfl) rfl rfl zm ?_
     with_reducible refine (impl_Cell_46.calls _ _ l0 t263 _ ?side1 ?side2 A12.out).mono ?_
     (case side1 => repeat (first | exact (Kd.C_below HR0.out HB.out) | (with_reducible refine Kd.C_alloc ?_ _) | (with_reducible refine Kd.C_drewN ?_ _) | (with_reducible refine Kd.C_drew ?_)))
     (case side2 => exact HC0.out)
     rintro e w24 ⟨v264, rfl, ho0, hb⟩
     refine ⟨_, rfl, ?_⟩
     have n0_ := aM (Kd.N_elder' (mN_ HO_7.out) (Kd.R_base ho0) hb)
     have n1_ := aM (Kd.R_elder' (mR_ HO_13.out) (Kd.R_base ho0) hb)
     have n2_ := aM (Kd.R_elder' (mR_ HO268.out) (Kd.R_base ho0) hb)
     have n3_ := aM (Kd.R_lower (Kd.R_newB (Kd.R_new' (Kd.R_new' (Kd.R_newM (M := fun k_ => (w.heap.size ≤ k_)) ho0 (below_size (zs GE262.out)) (fun k_ h_ => h_)) (Kd.R_lt (mR_ HO_13.out))) (Kd.R_lt (mR_ HO268.out))) (g := gb262) (o := .cells #[.int .i64 ((rd_T25 t258 x15_1).f0), .int .i64 ((rd_T25 t258 x15_1).f1)] 25 (0, 0)) (mB_ BK262.out)) (below_size (zs GE262.out)))
     have n4_ := aM (blk_below (g := gb262) (o := .cells #[.int .i64 ((rd_T25 t258 x15_1).f0), .int .i64 ((rd_T25 t258 x15_1).f1)] 25 (0, 0)) (mB_ BK262.out) hb)
     have n5_ := aM (below_step (zs GE262.out) hb)
     clear HO_7
     clear HO_13
     clear HO268
     clear BK262
     clear HB
     have HO_7 := n0_
     have HO_13 := n1_
     have HO268 := n2_
     have HO265 := n3_
     have BK262 := n4_
     have HB := n5_
     clear n0_ n1_ n2_ n3_ n4_ n5_
     (try clear hb)
     (try clear hb2)
     (try clear hk)
     (try clear hi)
     (try clear ho0)
     refine hK.out _ _ ⟨(blk_cell BK262.out 0).trans rfl, (blk_cell BK262.out 1).trans rfl⟩ (fun hHeld => ?_)
     clear hK K
     refine norm_ (a' := ?_) ?_ ?_
     rotate_left
     ·show Act.put _ (some 22) _ = _
      simp only [Act.put, xA, xB, xC, i64_w, i32_w]
      rfl
     exact norm_ (by simp only [putAll, Act.put, xA, xB, xC]) (hCont (v264, v267) _ ⟨hHeld, (by (with_reducible repeat (first | apply Kd.R_alloc | apply Kd.R_drewN | apply Kd.R_drew)); exact Kd.R_mono HO265.out (fun _ hk => ⟨hk.1.1.1.1, ⟨hk.1.2, ⟨hk.1.1.2, hk.2⟩⟩⟩)), (by (with_reducible repeat (first | apply Kd.R_alloc | apply Kd.R_drewN | apply Kd.R_drew)); exact Kd.R_mono HO268.out (fun _ hk => ⟨hk.1.1.1.1, ⟨hk.2, ⟨hk.1.1.2, hk.1.2⟩⟩⟩)), (by (with_reducible repeat (first | apply Kd.R_alloc | apply Kd.R_drewN | apply Kd.R_drew)); exact Kd.R_mono HO_13.out (fun _ hk => ⟨hk.1.1.1, ⟨hk.2, ⟨hk.1.2, hk.1.1.2⟩⟩⟩)), (by (with_reducible repeat (first | apply Kd.N_alloc | apply Kd.N_drewN | apply Kd.N_drew)); exact Kd.N_mono HO_7.out (fun _ hk => ⟨hk.1.1.1, ⟨hk.2, ⟨hk.1.2, ⟨hk.1.1.2.1, hk.1.1.2.2⟩⟩⟩⟩)), (mB_ BK262.out), (zs GE262.out)⟩)
   rintro ⟨v264, v267⟩ w25 ⟨hS_, h0_, h1_, h2_, h3_, h4_, h5_⟩
   have n0_ : Aside0 (Kd.R k25 25 w25 w.heap.size (fun k_ => (w.heap.size ≤ k_) ∧ some k_ ≠ (v267 : Value).ownBlock ∧ some k_ ≠ (.slice (some ad261) t258.length co8 : Value).ownBlock ∧ k_ ≠ gb262) v264 t263) := ⟨h0_⟩
   have n1_ : Aside0 (Kd.R k25 25 w25 w.heap.size (fun k_ => (w.heap.size ≤ k_) ∧ some k_ ≠ (v264 : Value).ownBlock ∧ some k_ ≠ (.slice (some ad261) t258.length co8 : Value).ownBlock ∧ k_ ≠ gb262) v267 y266) := ⟨h1_⟩
   have n2_ : Aside0 (Kd.R k25 25 w25 w.heap.size (fun k_ => (w.heap.size ≤ k_) ∧ some k_ ≠ (v264 : Value).ownBlock ∧ some k_ ≠ (v267 : Value).ownBlock ∧ k_ ≠ gb262) (.slice (some ad261) t258.length co8) t258) := ⟨h2_⟩
   have n3_ : Aside0 (Kd.N (Kd.slice 25 k25) 27 w25 w.heap.size (fun k_ => (w.heap.size ≤ k_) ∧ some k_ ≠ (v264 : Value).ownBlock ∧ some k_ ≠ (v267 : Value).ownBlock ∧ some k_ ≠ (.slice (some ad261) t258.length co8 : Value).ownBlock ∧ k_ ≠ gb262) (.slice Ao19 x7_1.length co19) x7_1) := ⟨h3_⟩
   have n4_ : Aside0 (w25.heap[gb262]? = some (.cells #[.int .i64 ((rd_T25 t258 x15_1).f0), .int .i64 ((rd_T25 t258 x15_1).f1)] 25 (0, 0))) := ⟨h4_⟩
   have n5_ : Aside0 (Below w.heap.size w w25) := ⟨h5_⟩
   clear HO_7
   clear HO_13
   clear BK262
   clear HB
   clear h0_ h1_ h2_ h3_ h4_ h5_
   have HO265 := n0_
   have HO268 := n1_
   have HO_13 := n2_
   have HO_7 := n3_
   have BK262 := n4_
   have HB := n5_
   clear n0_ n1_ n2_ n3_ n4_ n5_
   have hHeld : w25.cell? ⟨gb262, 0, none⟩ = some (.int .i64 ((rd_T25 t258 x15_1).f0)) ∧ w25.cell? ⟨gb262, 1, none⟩ = some (.int .i64 ((rd_T25 t258 x15_1).f1)) := hS_
   obtain ⟨Ao27, co27, eo27⟩ := Kd.R_slice HO268.out
   (first | subst eo27 | (injection eo27 with f1_ f2_ f3_; have f4_ := f1_.symm; have f5_ := f3_.symm; clear f1_ f2_ f3_; subst f4_; subst f5_))
   refine norm_ (a' := ?_) ?_ ?_
   rotate_left
   ·simp only [putAll, Act.put, xA, xB, xC]
    rfl
   refine one_ (i := 6) (N := some 25) #[true, true, true, true, true, true, true, false, false, false, false, false] rfl rfl (one_of HT_.out (by kernel_rfl)) (by decide) (fun K hK => ?_)
   refine Kd.R_append_rows_step k25 (w0 := w) w.heap.size (by rfl) (.tmp 22) (.tmp 24) 27 25 (.agg #[(.int .i64 0), (.int .i64 0)]) 16 rfl Tryz.underlying27 info25 rfl (by decide) (by omega) v264 t263 y266 _ _ _ (fun k_ => (w.heap.size ≤ k_) ∧ some k_ ≠ (.slice (some ad261) t258.length co8 : Value).ownBlock ∧ some k_ ≠ (.slice Ao27 y266.length co27 : Value).ownBlock ∧ k_ ≠ gb262) (fun _ => False) rfl rfl ?aO ?aR (fun _ _ h => h) (fun _ h => h.elim) ?aF ?aB ?aS ?aL ?_
   (case aR => repeat (first | exact (Kd.R_reads' HO268.out).2.2 | (with_reducible refine Kd.C_alloc ?_ _) | (with_reducible refine Kd.C_drewN ?_ _) | (with_reducible refine Kd.C_drew ?_)))
   (case aB => exact (zs GE262.out))
   (case aF => exact (fun k_ hk => ⟨(Nat.le_trans (below_size (zs GE262.out)) hk), Kd.fresh' (Kd.R_lt (mR_ HO_13.out)) k_ hk, Kd.fresh' (Kd.R_lt (mR_ HO268.out)) k_ hk, Kd.freshB (g := gb262) (o := .cells #[.int .i64 ((rd_T25 t258 x15_1).f0), .int .i64 ((rd_T25 t258 x15_1).f1)] 25 (0, 0)) (mB_ BK262.out) k_ hk⟩))
   (case aO => exact (by (with_reducible repeat (first | apply Kd.R_alloc | apply Kd.R_drewN | apply Kd.R_drew)); exact Kd.R_mono HO265.out (fun _ hk => ⟨hk.1, ⟨hk.2.2.1, ⟨hk.2.1, hk.2.2.2⟩⟩⟩)))
   (case aS => exact (below_size (zs GE262.out)))
   (case aL => have := LMc13.out; omega)
   intro v270 w26 ho hb hg hat
   rw [← Ny269.out] at ho
   have n0_ := aM (Kd.N_afterv (ok := (fun k_ => (w.heap.size ≤ k_) ∧ some k_ ≠ (.slice (some ad261) t258.length co8 : Value).ownBlock ∧ some k_ ≠ (.slice Ao27 y266.length co27 : Value).ownBlock ∧ k_ ≠ gb262)) (by (with_reducible repeat (first | apply Kd.N_alloc | apply Kd.N_drewN | apply Kd.N_drew)); exact Kd.N_mono HO_7.out (fun _ hk => ⟨⟨hk.1, ⟨hk.2.2.2.1, ⟨hk.2.2.1, hk.2.2.2.2⟩⟩⟩, hk.2.1⟩)) hg hat)
   have n1_ := aM (Kd.R_after (ok := (fun k_ => (w.heap.size ≤ k_) ∧ some k_ ≠ (.slice Ao27 y266.length co27 : Value).ownBlock ∧ k_ ≠ gb262)) (by (with_reducible repeat (first | apply Kd.R_alloc | apply Kd.R_drewN | apply Kd.R_drew)); exact Kd.R_mono HO_13.out (fun _ hk => ⟨⟨hk.1, ⟨hk.2.2.1, hk.2.2.2⟩⟩, hk.2.1⟩)) hg hat)
   have n2_ := aM (blk_grown (g := gb262) (o := .cells #[.int .i64 ((rd_T25 t258 x15_1).f0), .int .i64 ((rd_T25 t258 x15_1).f1)] 25 (0, 0)) (mB_ BK262.out) hg (Kd.R_away HO265.out (fun _ hk => hk.2.2.2)))
   have n3_ := aM (Kd.R_after (ok := (fun k_ => (w.heap.size ≤ k_) ∧ some k_ ≠ (.slice (some ad261) t258.length co8 : Value).ownBlock ∧ k_ ≠ gb262)) (by (with_reducible repeat (first | apply Kd.R_alloc | apply Kd.R_drewN | apply Kd.R_drew)); exact Kd.R_mono HO268.out (fun _ hk => ⟨⟨hk.1, ⟨hk.2.2.1, hk.2.2.2⟩⟩, hk.2.1⟩)) hg hat)
   have n4_ := aM (hb)
   have n5_ := aM (ho)
   clear HO_7
   clear HO_13
   clear BK262
   clear HO268
   clear HB
   clear HO265
   have HO_7 := n0_
   have HO_13 := n1_
   have BK262 := n2_
   have HO268 := n3_
   have HB := n4_
   have HO271 := n5_
   clear n0_ n1_ n2_ n3_ n4_ n5_
   clear ho hb hg hat
   obtain ⟨Ao28, co28, eo28⟩ := Kd.R_slice HO271.out
   (first | subst eo28 | (injection eo28 with f1_ f2_ f3_; have f4_ := f1_.symm; have f5_ := f3_.symm; clear f1_ f2_ f3_; subst f4_; subst f5_))
   refine hK.out _ _ ⟨(blk_cell BK262.out 0).trans rfl, (blk_cell BK262.out 1).trans rfl⟩ (fun hHeld => ?_)
   clear hK K
   refine norm_ (a' := ?_) ?_ ?_
   rotate_left
   ·show Act.put _ (some 25) _ = _
    simp only [Act.put, xA, xB, xC, i64_w, i32_w]
    rfl
   refine one_ (i := 7) (N := some 26) #[true, true, true, true, true, true, true, true, false, false, false, false] rfl rfl (one_of HT_.out (by kernel_rfl)) (by decide) (fun K hK => ?_)
   first | refine goesV_ Tryz.func30 (by kernel_rfl) rfl #[.slice Ao28 y269.length co28] (by rfl) rfl _ rfl rfl zm ?_ | refine goes_ Tryz.func30 (by kernel_rfl) rfl #[.slice Ao28 y269.length co28] (by rfl) rfl rfl zm ?_
   with_reducible refine (impl_sorted.calls _ _ y269 t272 _ ?side1 ?side2 A14.out).mono ?_
   (case side1 => repeat (first | exact (Kd.R_reads' HO271.out).2.2 | (with_reducible refine Kd.C_alloc ?_ _) | (with_reducible refine Kd.C_drewN ?_ _) | (with_reducible refine Kd.C_drew ?_)))
   (case side2 => exact (Kd.R_reads' HO271.out).2.1)
   rintro e w29 ⟨v273, rfl, ho0, hb⟩
   refine ⟨_, rfl, ?_⟩
   have n0_ := aM (Kd.N_elder' (mN_ HO_7.out) (Kd.R_base ho0) hb)
   have n1_ := aM (Kd.R_elder' (mR_ HO_13.out) (Kd.R_base ho0) hb)
   have n2_ := aM (Kd.R_elder' (mR_ HO268.out) (Kd.R_base ho0) hb)
   have n3_ := aM (Kd.R_elder' (mR_ HO271.out) (Kd.R_base ho0) hb)
   have n4_ := aM (Kd.R_lower (Kd.R_newB (Kd.R_new' (Kd.R_new' (Kd.R_new' (Kd.R_newM (M := fun k_ => (w.heap.size ≤ k_)) ho0 (below_size (zs GE262.out)) (fun k_ h_ => h_)) (Kd.R_lt (mR_ HO_13.out))) (Kd.R_lt (mR_ HO268.out))) (Kd.R_lt (mR_ HO271.out))) (g := gb262) (o := .cells #[.int .i64 ((rd_T25 t258 x15_1).f0), .int .i64 ((rd_T25 t258 x15_1).f1)] 25 (0, 0)) (mB_ BK262.out)) (below_size (zs GE262.out)))
   have n5_ := aM (blk_below (g := gb262) (o := .cells #[.int .i64 ((rd_T25 t258 x15_1).f0), .int .i64 ((rd_T25 t258 x15_1).f1)] 25 (0, 0)) (mB_ BK262.out) hb)
   have n6_ := aM (below_step (zs GE262.out) hb)
   clear HO_7
   clear HO_13
   clear HO268
   clear HO271
   clear BK262
   clear HB
   have HO_7 := n0_
   have HO_13 := n1_
   have HO268 := n2_
   have HO271 := n3_
   have HO274 := n4_
   have BK262 := n5_
   have HB := n6_
   clear n0_ n1_ n2_ n3_ n4_ n5_ n6_
   (try clear hb)
   (try clear hb2)
   (try clear hk)
   (try clear hi)
   (try clear ho0)
   obtain ⟨Ao30, co30, eo30⟩ := Kd.R_slice HO274.out
   (first | subst eo30 | (injection eo30 with f1_ f2_ f3_; have f4_ := f1_.symm; have f5_ := f3_.symm; clear f1_ f2_ f3_; subst f4_; subst f5_))
   refine hK.out _ _ ⟨(blk_cell BK262.out 0).trans rfl, (blk_cell BK262.out 1).trans rfl⟩ (fun hHeld => ?_)
   clear hK K
   refine norm_ (a' := ?_) ?_ ?_
   rotate_left
   ·show Act.put _ (some 26) _ = _
    simp only [Act.put, xA, xB, xC, i64_w, i32_w]
    rfl
   refine one_ (i := 8) (N := some 27) #[true, true, true, true, true, true, true, true, true, false, false, false] rfl rfl (one_of HT_.out (by kernel_rfl)) (by decide) (fun K hK => ?_)
   first | refine goesV_ Tryz.func35 (by kernel_rfl) rfl #[.slice Ao30 t272.length co30] (by rfl) rfl _ rfl rfl zm ?_ | refine goes_ Tryz.func35 (by kernel_rfl) rfl #[.slice Ao30 t272.length co30] (by rfl) rfl rfl zm ?_
   with_reducible refine (impl_normalTriangles.calls k1 _ _ t272 t275 _ ?side1 ?side2 A15.out).mono ?_
   (case side1 => repeat (first | exact (Kd.R_reads' HO274.out).2.2 | (with_reducible refine Kd.C_alloc ?_ _) | (with_reducible refine Kd.C_drewN ?_ _) | (with_reducible refine Kd.C_drew ?_)))
   (case side2 => exact (Kd.R_reads' HO274.out).2.1)
   rintro e w31 ⟨v276, rfl, ho0, hb⟩
   refine ⟨_, rfl, ?_⟩
   have n0_ := aM (Kd.N_elder' (mN_ HO_7.out) (Kd.R_base ho0) hb)
   have n1_ := aM (Kd.R_elder' (mR_ HO_13.out) (Kd.R_base ho0) hb)
   have n2_ := aM (Kd.R_elder' (mR_ HO268.out) (Kd.R_base ho0) hb)
   have n3_ := aM (Kd.R_elder' (mR_ HO271.out) (Kd.R_base ho0) hb)
   have n4_ := aM (Kd.R_elder' (mR_ HO274.out) (Kd.R_base ho0) hb)
   have n5_ := aM (Kd.R_lower (Kd.R_newB (Kd.R_new' (Kd.R_new' (Kd.R_new' (Kd.R_new' (Kd.R_newM (M := fun k_ => (w.heap.size ≤ k_)) ho0 (below_size (zs GE262.out)) (fun k_ h_ => h_)) (Kd.R_lt (mR_ HO_13.out))) (Kd.R_lt (mR_ HO268.out))) (Kd.R_lt (mR_ HO271.out))) (Kd.R_lt (mR_ HO274.out))) (g := gb262) (o := .cells #[.int .i64 ((rd_T25 t258 x15_1).f0), .int .i64 ((rd_T25 t258 x15_1).f1)] 25 (0, 0)) (mB_ BK262.out)) (below_size (zs GE262.out)))
   have n6_ := aM (blk_below (g := gb262) (o := .cells #[.int .i64 ((rd_T25 t258 x15_1).f0), .int .i64 ((rd_T25 t258 x15_1).f1)] 25 (0, 0)) (mB_ BK262.out) hb)
   have n7_ := aM (below_step (zs GE262.out) hb)
   clear HO_7
   clear HO_13
   clear HO268
   clear HO271
   clear HO274
   clear BK262
   clear HB
   have HO_7 := n0_
   have HO_13 := n1_
   have HO268 := n2_
   have HO271 := n3_
   have HO274 := n4_
   have HO277 := n5_
   have BK262 := n6_
   have HB := n7_
   clear n0_ n1_ n2_ n3_ n4_ n5_ n6_ n7_
   (try clear hb)
   (try clear hb2)
   (try clear hk)
   (try clear hi)
   (try clear ho0)
   obtain ⟨Ao32, co32, eo32⟩ := Kd.R_slice HO277.out
   (first | subst eo32 | (injection eo32 with f1_ f2_ f3_; have f4_ := f1_.symm; have f5_ := f3_.symm; clear f1_ f2_ f3_; subst f4_; subst f5_))
   refine hK.out _ _ ⟨(blk_cell BK262.out 0).trans rfl, (blk_cell BK262.out 1).trans rfl⟩ (fun hHeld => ?_)
   clear hK K
   refine norm_ (a' := ?_) ?_ ?_
   rotate_left
   ·show Act.put _ (some 27) _ = _
    simp only [Act.put, xA, xB, xC, i64_w, i32_w]
    rfl
   refine one_ (i := 9) (N := some 28) #[true, true, true, true, true, true, true, true, true, true, false, false] rfl rfl (one_of HT_.out (by kernel_rfl)) (by decide) (fun K hK => ?_)
   refine Kd.N_lit_step (Kd.slice 25 k25) _ 27 ?hg (N' := 28) ?hd (xs := ([t275] : List (List (S25)))) (inner := [.slice Ao32 t275.length co32]) (ok := (fun k_ => (w.heap.size ≤ k_) ∧ some k_ ≠ (.slice Ao19 x7_1.length co19 : Value).ownBlock ∧ some k_ ≠ (.slice (some ad261) t258.length co8 : Value).ownBlock ∧ some k_ ≠ (.slice Ao27 y266.length co27 : Value).ownBlock ∧ some k_ ≠ (.slice Ao28 y269.length co28 : Value).ownBlock ∧ some k_ ≠ (.slice Ao30 t272.length co30 : Value).ownBlock ∧ k_ ≠ gb262)) (okp := (fun k_ => (w.heap.size ≤ k_) ∧ some k_ ≠ (.slice Ao19 x7_1.length co19 : Value).ownBlock ∧ some k_ ≠ (.slice (some ad261) t258.length co8 : Value).ownBlock ∧ some k_ ≠ (.slice Ao27 y266.length co27 : Value).ownBlock ∧ some k_ ≠ (.slice Ao28 y269.length co28 : Value).ownBlock ∧ some k_ ≠ (.slice Ao30 t272.length co30 : Value).ownBlock ∧ k_ ≠ gb262)) ?hr ?hp (fun _ hk => hk) ((show ∀ k_, w31.heap.size ≤ k_ → (fun k_ => (w.heap.size ≤ k_) ∧ some k_ ≠ (.slice Ao19 x7_1.length co19 : Value).ownBlock ∧ some k_ ≠ (.slice (some ad261) t258.length co8 : Value).ownBlock ∧ some k_ ≠ (.slice Ao27 y266.length co27 : Value).ownBlock ∧ some k_ ≠ (.slice Ao28 y269.length co28 : Value).ownBlock ∧ some k_ ≠ (.slice Ao30 t272.length co30 : Value).ownBlock ∧ k_ ≠ gb262) k_ from fun k_ hk => ⟨(Nat.le_trans (below_size (zs GE262.out)) hk), Kd.fresh' (Kd.N_lt (mN_ HO_7.out)) k_ hk, Kd.fresh' (Kd.R_lt (mR_ HO_13.out)) k_ hk, Kd.fresh' (Kd.R_lt (mR_ HO268.out)) k_ hk, Kd.fresh' (Kd.R_lt (mR_ HO271.out)) k_ hk, Kd.fresh' (Kd.R_lt (mR_ HO274.out)) k_ hk, Kd.freshB (g := gb262) (o := .cells #[.int .i64 ((rd_T25 t258 x15_1).f0), .int .i64 ((rd_T25 t258 x15_1).f1)] 25 (0, 0)) (mB_ BK262.out) k_ hk⟩) _ (Nat.le_refl _)) (Below.refl _ _) (Nat.le_refl _) (by simp) ?_; (case hd => rfl); (case hg => rfl); (case hr => first | (go_simp; done) | (go_simp; rfl)); (case hp => exact (Reps.one (show Kd.FK (Kd.slice 25 k25) _ _ t275 [.slice Ao32 t275.length co32] from (Kd.FK_slice_mk (Kd.R_reads' (Kd.R_mono (ok' := (fun k_ => (w.heap.size ≤ k_) ∧ some k_ ≠ (.slice Ao19 x7_1.length co19 : Value).ownBlock ∧ some k_ ≠ (.slice (some ad261) t258.length co8 : Value).ownBlock ∧ some k_ ≠ (.slice Ao27 y266.length co27 : Value).ownBlock ∧ some k_ ≠ (.slice Ao28 y269.length co28 : Value).ownBlock ∧ some k_ ≠ (.slice Ao30 t272.length co30 : Value).ownBlock ∧ k_ ≠ gb262)) (Kd.R_apart' (HO277.out) (Kd.N_typed HO_7.out) (by decide)) (fun k_ hk => ⟨hk.1.1.1.1.1.1.1, ⟨hk.2, ⟨hk.1.1.1.1.1.2, ⟨hk.1.1.1.1.2, ⟨hk.1.1.1.2, ⟨hk.1.1.2, hk.1.2⟩⟩⟩⟩⟩⟩))).2.1 (Kd.R_F (Kd.R_mono (ok' := (fun k_ => (w.heap.size ≤ k_) ∧ some k_ ≠ (.slice Ao19 x7_1.length co19 : Value).ownBlock ∧ some k_ ≠ (.slice (some ad261) t258.length co8 : Value).ownBlock ∧ some k_ ≠ (.slice Ao27 y266.length co27 : Value).ownBlock ∧ some k_ ≠ (.slice Ao28 y269.length co28 : Value).ownBlock ∧ some k_ ≠ (.slice Ao30 t272.length co30 : Value).ownBlock ∧ k_ ≠ gb262)) (Kd.R_apart' (HO277.out) (Kd.N_typed HO_7.out) (by decide)) (fun k_ hk => ⟨hk.1.1.1.1.1.1.1, ⟨hk.2, ⟨hk.1.1.1.1.1.2, ⟨hk.1.1.1.1.2, ⟨hk.1.1.1.2, ⟨hk.1.1.2, hk.1.2⟩⟩⟩⟩⟩⟩))))) (Reps.none _ _)))
   intro v279 w33 ho34 hb hg_ hnew_
   clear hg_ hnew_
   (first | rw [← Ny278.out] at ho34 | (simp only [Int.reduceToNat] at ho34; rw [← Ny278.out] at ho34))
   have n0_ := aM (Kd.N_elder' (mN_ HO_7.out) (by first | exact Kd.N_base ho34 | exact Kd.S_base ho34 | exact Kd.R_base ho34) hb)
   have n1_ := aM (Kd.R_below (mR_ HO_13.out) hb)
   have n2_ := aM (Kd.R_below (mR_ HO268.out) hb)
   have n3_ := aM (Kd.R_below (mR_ HO271.out) hb)
   have n4_ := aM (Kd.R_below (mR_ HO274.out) hb)
   have n5_ := aM (Kd.N_lower ho34 (below_size (zs GE262.out)))
   have n6_ := aM (blk_below (g := gb262) (o := .cells #[.int .i64 ((rd_T25 t258 x15_1).f0), .int .i64 ((rd_T25 t258 x15_1).f1)] 25 (0, 0)) (mB_ BK262.out) hb)
   have n7_ := aM (below_step (zs GE262.out) hb)
   clear HO_7
   clear HO_13
   clear HO268
   clear HO271
   clear HO274
   clear BK262
   clear HB
   clear HO277
   have HO_7 := n0_
   have HO_13 := n1_
   have HO268 := n2_
   have HO271 := n3_
   have HO274 := n4_
   have HO280 := n5_
   have BK262 := n6_
   have HB := n7_
   clear n0_ n1_ n2_ n3_ n4_ n5_ n6_ n7_
   clear hb ho34
   obtain ⟨Ao36, co36, eo36⟩ := Kd.N_slice HO280.out
   (first | subst eo36 | (injection eo36 with f1_ f2_ f3_; have f4_ := f1_.symm; have f5_ := f3_.symm; clear f1_ f2_ f3_; subst f4_; subst f5_))
   refine hK.out _ _ ⟨(blk_cell BK262.out 0).trans rfl, (blk_cell BK262.out 1).trans rfl⟩ (fun hHeld => ?_)
   clear hK K
   refine norm_ (a' := ?_) ?_ ?_
   rotate_left
   ·show Act.put _ (some 28) _ = _
    simp only [Act.put, xA, xB, xC, i64_w, i32_w]
    rfl
   refine one_ (i := 10) (N := some 29) #[true, true, true, true, true, true, true, true, true, true, true, false] rfl rfl (one_of HT_.out (by kernel_rfl)) (by decide) (fun K hK => ?_)
   refine Kd.N_append_rows_step (Kd.slice 25 k25) (w0 := w) w.heap.size (by rfl) (.tmp 19) (.tmp 28) 39 27 (.slice none 0 0) 24 rfl Tryz.underlying39 info27 rfl (by decide) (by omega) (.slice Ao19 x7_1.length co19) x7_1 y278 _ _ _ (fun k_ => (w.heap.size ≤ k_) ∧ some k_ ≠ (.slice (some ad261) t258.length co8 : Value).ownBlock ∧ some k_ ≠ (.slice Ao27 y266.length co27 : Value).ownBlock ∧ some k_ ≠ (.slice Ao28 y269.length co28 : Value).ownBlock ∧ some k_ ≠ (.slice Ao30 t272.length co30 : Value).ownBlock ∧ k_ ≠ gb262) (fun k_ => ((fun k_ => (w.heap.size ≤ k_) ∧ some k_ ≠ (.slice (some ad261) t258.length co8 : Value).ownBlock ∧ some k_ ≠ (.slice Ao27 y266.length co27 : Value).ownBlock ∧ some k_ ≠ (.slice Ao28 y269.length co28 : Value).ownBlock ∧ some k_ ≠ (.slice Ao30 t272.length co30 : Value).ownBlock ∧ k_ ≠ gb262)) k_ ∧ some k_ ≠ (.slice Ao19 x7_1.length co19 : Value).ownBlock) rfl rfl ?aO ?aR (fun _ hk => hk) ?aF ?aB ?aS ?aL ?_
   (case aR => exact (by skip; exact Kd.N_F (Kd.N_mono (ok' := (fun k_ => ((fun k_ => (w.heap.size ≤ k_) ∧ some k_ ≠ (.slice (some ad261) t258.length co8 : Value).ownBlock ∧ some k_ ≠ (.slice Ao27 y266.length co27 : Value).ownBlock ∧ some k_ ≠ (.slice Ao28 y269.length co28 : Value).ownBlock ∧ some k_ ≠ (.slice Ao30 t272.length co30 : Value).ownBlock ∧ k_ ≠ gb262)) k_ ∧ some k_ ≠ (.slice Ao19 x7_1.length co19 : Value).ownBlock)) (HO280.out) (fun k_ hk => ⟨⟨hk.1, ⟨hk.2.2.1, ⟨hk.2.2.2.1, ⟨hk.2.2.2.2.1, ⟨hk.2.2.2.2.2.1, hk.2.2.2.2.2.2⟩⟩⟩⟩⟩, hk.2.1⟩))))
   (case aB => exact (zs GE262.out))
   (case aF => exact (fun k_ hk => ⟨(Nat.le_trans (below_size (zs GE262.out)) hk), Kd.fresh' (Kd.R_lt (mR_ HO_13.out)) k_ hk, Kd.fresh' (Kd.R_lt (mR_ HO268.out)) k_ hk, Kd.fresh' (Kd.R_lt (mR_ HO271.out)) k_ hk, Kd.fresh' (Kd.R_lt (mR_ HO274.out)) k_ hk, Kd.freshB (g := gb262) (o := .cells #[.int .i64 ((rd_T25 t258 x15_1).f0), .int .i64 ((rd_T25 t258 x15_1).f1)] 25 (0, 0)) (mB_ BK262.out) k_ hk⟩))
   (case aO => exact (by (with_reducible repeat (first | apply Kd.N_alloc | apply Kd.N_drewN | apply Kd.N_drew)); exact Kd.N_mono HO_7.out (fun _ hk => ⟨hk.1.1.1.1.1, ⟨hk.1.1.1.1.2.1, ⟨hk.1.1.1.1.2.2.1, ⟨hk.1.1.1.2, ⟨hk.1.1.2, hk.1.1.1.1.2.2.2⟩⟩⟩⟩⟩)))
   (case aS => exact (below_size (zs GE262.out)))
   (case aL => have := LMc16.out; omega)
   intro v282 w35 ho hb hg hat
   rw [← Ny281.out] at ho
   have n0_ := aM (Kd.R_over' (mR_ HO_13.out) (Kd.N_typed (mN_ HO_7.out)) (by decide) hg)
   have n1_ := aM (blk_grown (g := gb262) (o := .cells #[.int .i64 ((rd_T25 t258 x15_1).f0), .int .i64 ((rd_T25 t258 x15_1).f1)] 25 (0, 0)) (mB_ BK262.out) hg (Kd.N_ne HO_7.out BK262.out (by decide)))
   have n2_ := aM (Kd.R_over' (mR_ HO268.out) (Kd.N_typed (mN_ HO_7.out)) (by decide) hg)
   have n3_ := aM (Kd.R_over' (mR_ HO271.out) (Kd.N_typed (mN_ HO_7.out)) (by decide) hg)
   have n4_ := aM (Kd.R_over' (mR_ HO274.out) (Kd.N_typed (mN_ HO_7.out)) (by decide) hg)
   have n5_ := aM (Kd.N_afterv (ok := (fun k_ => (w.heap.size ≤ k_) ∧ some k_ ≠ (.slice (some ad261) t258.length co8 : Value).ownBlock ∧ some k_ ≠ (.slice Ao27 y266.length co27 : Value).ownBlock ∧ some k_ ≠ (.slice Ao28 y269.length co28 : Value).ownBlock ∧ some k_ ≠ (.slice Ao30 t272.length co30 : Value).ownBlock ∧ k_ ≠ gb262)) (by (with_reducible repeat (first | apply Kd.N_alloc | apply Kd.N_drewN | apply Kd.N_drew)); exact Kd.N_mono HO280.out (fun _ hk => ⟨⟨hk.1, ⟨hk.2.2.1, ⟨hk.2.2.2.1, ⟨hk.2.2.2.2.1, ⟨hk.2.2.2.2.2.1, hk.2.2.2.2.2.2⟩⟩⟩⟩⟩, hk.2.1⟩)) hg hat)
   have n6_ := aM (hb)
   have n7_ := aM (ho)
   clear HO_13
   clear BK262
   clear HO268
   clear HO271
   clear HO274
   clear HO280
   clear HB
   clear HO_7
   have HO_13 := n0_
   have BK262 := n1_
   have HO268 := n2_
   have HO271 := n3_
   have HO274 := n4_
   have HO280 := n5_
   have HB := n6_
   have HO283 := n7_
   clear n0_ n1_ n2_ n3_ n4_ n5_ n6_ n7_
   clear ho hb hg hat
   refine hK.out _ _ ⟨(blk_cell BK262.out 0).trans rfl, (blk_cell BK262.out 1).trans rfl⟩ (fun hHeld => ?_)
   clear hK K
   refine norm_ (a' := ?_) ?_ ?_
   rotate_left
   ·show Act.put _ (some 29) _ = _
    simp only [Act.put, xA, xB, xC, i64_w, i32_w]
    rfl
   refine pure_ (i := 11) (N := some 7) (v := ?_) (a' := ?_) #[true, true, true, true, true, true, true, true, true, true, true, true] rfl rfl zz (fun _ _ _ h => h) (Or.inl ⟨by rfl, ?_⟩) ?_ ?_
   rotate_left
   ·intro w'
    go_simp
    with_reducible rfl
   rotate_left
   ·simp only [Act.put, xA, xB, xC, i64_w, i32_w]
    rfl
   refine done_ (done_of HT_.out (by kernel_rfl)) ?_
   try go_wp2
   go_roundg k1
   case measure => have := HK1.out; omega
   case rel => exact ⟨(y281), (wrap64 (x15_1 + 1)), zr, H', ⟨by have := HK1.out; omega⟩, ⟨by (with_reducible repeat (first | apply Kd.N_alloc | apply Kd.N_drewN | apply Kd.N_drew)); exact Kd.N_mono HO283.out (fun _ hk => ⟨hk.1, hk.2.1⟩)⟩, ⟨by (with_reducible repeat (first | apply Kd.R_alloc | apply Kd.R_drewN | apply Kd.R_drew)); exact Kd.R_mono HO_13.out (fun _ hk => hk.1.1.1.1)⟩, ⟨zs GE262.out⟩⟩
mutual
def impl_allGrown__impl_trianglesAround_impl_normalTriangles.l0 : Nat → List (List (S25)) → Int → Int → Option ((List (List (S25))))
 | 0, _, _, _ => none
 | k + 1, x9, x15, x16 => if x16 < x15 then (impl_allGrown__impl_trianglesAround_impl_normalTriangles.l1 k (([] : List (List (S25)))) x15 x16 x9 (x9.length : Int) 0) else (some x9)
def impl_allGrown__impl_trianglesAround_impl_normalTriangles.l1 : Nat → List (List (S25)) → Int → Int → List (List (S25)) → Int → Int → Option ((List (List (S25))))
 | 0, _, _, _, _, _, _ => none
 | k + 1, x10, x15, x16, x19, x20, x21 => if x21 < x20 then (if 0 ≤ x21 then (if x21 < (x19.length : Int) then ((impl_grown__impl_trianglesAround_impl_normalTriangles.f k (rd_L2 x19 x21)).bind fun t291 => (if x10.length + t291.length < 5864062014805 then (impl_allGrown__impl_trianglesAround_impl_normalTriangles.l1 k (x10 ++ t291) x15 x16 x19 x20 (wrap64 (x21 + 1))) else (none))) else (none)) else (none)) else ((impl_tidyShapes.f x10).bind fun t297 => (impl_allGrown__impl_trianglesAround_impl_normalTriangles.l0 k t297 x15 (wrap64 (x16 + 1))))
end
def impl_allGrown__impl_trianglesAround_impl_normalTriangles.f (k : Nat) (a0 : Int) (l1 : List (List (S25)))   : Option ((List (List (S25)))) := impl_allGrown__impl_trianglesAround_impl_normalTriangles.l0 k l1 (wrap64 (a0 - 1)) 0
theorem impl_allGrown__impl_trianglesAround_impl_normalTriangles.calls (k : Nat) (a0 : Int) (P1_ : Nat → Prop) (A1 : Option Addr) (c1 : Nat) (l1 : List (List (S25)))   (r : List (List (S25))) (w : World) (hs1 : Kd.V (Kd.slice 25 k25) 27 w w.heap.size (fun k_ => P1_ k_) (.slice A1 l1.length c1) l1) (h : impl_allGrown__impl_trianglesAround_impl_normalTriangles.f k a0 l1 = some r) :
  Calls Tryz.prog 34 #[.int .i64 a0, .slice A1 l1.length c1, .func (.func 14) #[] #[], .func (.func 35) #[] #[]] w fun e w' => ∃ v0_ : Value, e = .returned (v0_) ∧ Kd.V (Kd.slice 25 k25) 27 w' w.heap.size (fun k_ => (P1_ k_ ∨ w.heap.size ≤ k_)) v0_ r ∧ Below w.heap.size w w' := by
 have HO1 := aM (show Kd.V (Kd.slice 25 k25) 27 w w.heap.size (fun k_ => (P1_ k_ ∨ w.heap.size ≤ k_)) (.slice A1 l1.length c1) l1 from Kd.V_mono hs1 (fun k_ hk => .inl hk))
 have HB := aM (Below.refl w.heap.size w)
 have H : (impl_allGrown__impl_trianglesAround_impl_normalTriangles.l0 k l1 (wrap64 (a0 - 1)) 0) = some r := h
 clear h
 have H' := aM H
 clear H
 go_enter Tryz.func34, Tryz.ntmps34
 go_wp2
 go_loopg [9, 16] k (fun kq v9 v16 w' => ∃ (x9_1 : List (List (S25))) (x16_1 : Int), v16 = .int .i64 x16_1 ∧ Aside0 (impl_allGrown__impl_trianglesAround_impl_normalTriangles.l0 kq x9_1 (wrap64 (a0 - 1)) x16_1 = some r) ∧ Aside0 (kq ≤ k) ∧ Aside0 (Kd.V (Kd.slice 25 k25) 27 w' w.heap.size (fun k_ => (P1_ k_ ∨ w.heap.size ≤ k_)) v9 x9_1) ∧ Aside0 (Below w.heap.size w w'))
 case atStart => exact ⟨(l1), (0), zr, H', ⟨Nat.le_refl _⟩, ⟨mV_ HO1.out⟩, ⟨zb⟩⟩
 case round =>
  clear H'
  try clear c1
  try clear p2
  obtain ⟨x9_1, x16_1, rfl, HA, HK1, HO_9, HB⟩ := hrel
  cases gk with
  | zero => exact absurd HA.out (by simp [impl_allGrown__impl_trianglesAround_impl_normalTriangles.l0])
  | succ k1 =>
   have H := HA.out
   clear HA
   simp only [impl_allGrown__impl_trianglesAround_impl_normalTriangles.l0] at H
   by_cases c5 : x16_1 < (wrap64 (a0 - 1))
   rotate_left
   ·rw [if_neg c5] at H
    have c5b0 : decide (x16_1 < (wrap64 (a0 - 1))) = false := decide_eq_false c5
    clear c5
    obtain rfl := Option.some.inj H
    go_wp2
    go_ret
    exact ⟨_, zw, mV_ HO_9.out, zb⟩
   rw [if_pos c5] at H
   have c5b0 : decide (x16_1 < (wrap64 (a0 - 1))) = true := decide_eq_true c5
   clear c5
   obtain ⟨y287, hy287⟩ : ∃ y_ : List (List (S25)), y_ = (([] : List (List (S25)))) := ⟨_, rfl⟩
   replace H : (impl_allGrown__impl_trianglesAround_impl_normalTriangles.l1 k1 y287 (wrap64 (a0 - 1)) x16_1 x9_1 (x9_1.length : Int) 0) = some r := zy H hy287
   have Ny287 := aM hy287
   clear hy287
   have H' := aM H
   clear H
   go_wp2_with (first | ((with_reducible refine gate_dst (N := 18) rfl ?_); refine Kd.N_lit (Kd.slice 25 k25) _ 27 ?hg (N' := 18) ?hd (xs := ([] : List (List (S25)))) (inner := []) (ok := (fun k_ => (P1_ k_ ∨ w.heap.size ≤ k_))) (okp := (fun k_ => (P1_ k_ ∨ w.heap.size ≤ k_))) ?hr ?hp (fun _ hk => hk) ((show ∀ k_, wr.heap.size ≤ k_ → (fun k_ => (P1_ k_ ∨ w.heap.size ≤ k_)) k_ from fun k_ hk => (.inr (Nat.le_trans (below_size zb) hk))) _ (Nat.le_refl _)) (Below.refl _ _) (Nat.le_refl _) (by simp) ?_; (case hd => rfl); (case hg => rfl); (case hr => first | (go_simp; done) | (go_simp; rfl)); (case hp => exact (Reps.none _ _)); intro v288 w6 ho7 hb hg_ hnew_; clear hg_ hnew_; (first | rw [← Ny287.out] at ho7 | (simp only [Int.reduceToNat] at ho7; rw [← Ny287.out] at ho7)); have n0_ := aM (Kd.V_elder' (mV_ HO_9.out) (by first | exact Kd.N_base ho7 | exact Kd.S_base ho7 | exact Kd.R_base ho7) hb); have n1_ := aM (Kd.N_lower ho7 (below_size zb)); have n2_ := aM (below_step zb hb); clear HO_9; clear HB; have HO_9 := n0_; have HO289 := n1_; have HB := n2_; clear n0_ n1_ n2_; clear hb ho7; obtain ⟨Ao8, co8, eo8⟩ := Kd.V_slice HO_9.out; subst eo8))
   go_loopg [10, 21] k1 (fun kq v10 v21 w' => ∃ (x10_2 : List (List (S25))) (x21_2 : Int), v21 = .int .i64 x21_2 ∧ Aside0 (impl_allGrown__impl_trianglesAround_impl_normalTriangles.l1 kq x10_2 (wrap64 (a0 - 1)) x16_1 x9_1 (x9_1.length : Int) x21_2 = some r) ∧ Aside0 (kq ≤ k1) ∧ Aside0 (Kd.N (Kd.slice 25 k25) 27 w' w.heap.size (fun k_ => (P1_ k_ ∨ w.heap.size ≤ k_)) v10 x10_2) ∧ Aside0 (Kd.V (Kd.slice 25 k25) 27 w' w.heap.size (fun k_ => (P1_ k_ ∨ w.heap.size ≤ k_) ∧ some k_ ≠ (v10 : Value).ownBlock) (.slice Ao8 x9_1.length co8) x9_1) ∧ Aside0 (Below w.heap.size w w'))
   case atStart => exact ⟨(y287), (0), zr, H', ⟨Nat.le_refl _⟩, ⟨mN_ HO289.out⟩, ⟨mV_ HO_9.out⟩, ⟨zb⟩⟩
   case round =>
    clear H'
    try clear c1
    try clear p2
    try clear c5
    try clear c5b0
    try clear p6
    try clear c7
    try clear p2
    obtain ⟨x10_2, x21_2, rfl, HA, HK2, HO_10, HO_19, HB⟩ := hrel
    cases gk with
    | zero => exact absurd HA.out (by simp [impl_allGrown__impl_trianglesAround_impl_normalTriangles.l1])
    | succ k2 =>
     have H := HA.out
     clear HA
     simp only [impl_allGrown__impl_trianglesAround_impl_normalTriangles.l1] at H
     by_cases c9 : x21_2 < (x9_1.length : Int)
     rotate_left
     ·rw [if_neg c9] at H
      have c9b0 : decide (x21_2 < (x9_1.length : Int)) = false := decide_eq_false c9
      clear c9
      replace H := Option.bind_eq_some_iff.mp H
      obtain ⟨t297, A170, H⟩ := H
      replace H : (impl_allGrown__impl_trianglesAround_impl_normalTriangles.l0 k2 t297 (wrap64 (a0 - 1)) (wrap64 (x16_1 + 1))) = some r := H
      have A17 := aM A170
      clear A170
      have H' := aM H
      clear H
      obtain ⟨Ao18, co18, eo18⟩ := Kd.N_slice HO_10.out
      subst eo18
      go_wp2_with (first | ((with_reducible refine gate_callee (f := 50) rfl ?_); refine goesL_ (some 33) rfl rfl Tryz.func50 (by kernel_rfl) rfl #[.slice Ao18 x10_2.length co18] rfl zm ?_; (with_reducible refine (impl_tidyShapes.callsN (fun k_ => (P1_ k_ ∨ w.heap.size ≤ k_)) (.slice Ao18 x10_2.length co18) x10_2 t297 w _ ?side1 ?side2 A17.out).mono ?_); (case side1 => repeat (first | (with_reducible first | exact HB.out | apply below_alloc | apply pw_below_drewN | apply below_drew1) | exact HB.out)); (case side2 => exact HO_10.out); rintro e w19 ⟨v298, rfl, ho0, hb, hkp, hob⟩; refine ⟨_, rfl, ?_⟩; have n0_ := aM (Kd.V_mono (ok' := fun k_ => (P1_ k_ ∨ w.heap.size ≤ k_) ∧ some k_ ≠ (v298 : Value).ownBlock) (Kd.V_keptB (HO_19.out) hkp (fun k_ hk_ hs_ => (hk_.2) hs_)) (fun k_ hk_ => ⟨hk_.1.1, fun e_ => hk_.2.1 (e_.trans hob)⟩)); have n1_ := aM (Kd.N_lower (Kd.N_mono (ok' := fun k_ => (P1_ k_ ∨ w.heap.size ≤ k_)) ho0 (fun k_ hk_ => Or.elim hk_ (fun hs_ => hs_) (fun hn_ => (.inr (Nat.le_trans (below_size zb) hn_))))) (Nat.le_refl _)); have n2_ := aM (hb); clear HO_19; clear HB; clear HO_10; have HO_19 := n0_; have HO299 := n1_; have HB := n2_; clear n0_ n1_ n2_; (try clear hb); (try clear hkp); (try clear hob); (try clear ho0)))
      go_roundg k2
      case measure => have := HK1.out; have := HK2.out; omega
      case rel => exact ⟨(t297), (wrap64 (x16_1 + 1)), zr, H', ⟨by have := HK1.out; have := HK2.out; omega⟩, ⟨Kd.N_V (mN_ HO299.out)⟩, ⟨zb⟩⟩
     rw [if_pos c9] at H
     have c9b0 : decide (x21_2 < (x9_1.length : Int)) = true := decide_eq_true c9
     clear c9
     by_cases c10 : 0 ≤ x21_2
     rotate_left
     ·rw [if_neg c10] at H
      exact absurd H (by simp)
     rw [if_pos c10] at H
     have c10b0 : decide (0 ≤ x21_2) = true := decide_eq_true c10
     clear c10
     by_cases c11 : x21_2 < (x9_1.length : Int)
     rotate_left
     ·rw [if_neg c11] at H
      exact absurd H (by simp)
     rw [if_pos c11] at H
     have c11b0 : decide (x21_2 < (x9_1.length : Int)) = true := decide_eq_true c11
     clear c11
     replace H := Option.bind_eq_some_iff.mp H
     obtain ⟨t291, A120, H⟩ := H
     replace H : (if x10_2.length + t291.length < 5864062014805 then (impl_allGrown__impl_trianglesAround_impl_normalTriangles.l1 k2 (x10_2 ++ t291) (wrap64 (a0 - 1)) x16_1 x9_1 (x9_1.length : Int) (wrap64 (x21_2 + 1))) else (none)) = some r := H
     have A12 := aM A120
     clear A120
     by_cases c13 : x10_2.length + t291.length < 5864062014805
     rotate_left
     ·rw [if_neg c13] at H
      exact absurd H (by simp)
     rw [if_pos c13] at H
     have LMc13 := aM c13
     clear c13
     obtain ⟨y294, hy294⟩ : ∃ y_ : List (List (S25)), y_ = (x10_2 ++ t291) := ⟨_, rfl⟩
     replace H : (impl_allGrown__impl_trianglesAround_impl_normalTriangles.l1 k2 y294 (wrap64 (a0 - 1)) x16_1 x9_1 (x9_1.length : Int) (wrap64 (x21_2 + 1))) = some r := zy H hy294
     have Ny294 := aM hy294
     clear hy294
     have H' := aM H
     clear H
     have p290 : 0 ≤ (x21_2 : Int) := of_decide_eq_true za
     have q290 : x21_2 < (x9_1.length : Int) := of_decide_eq_true za
     obtain ⟨ad290, A290_0, c290_0, e290, hx290_0, hl290_0, hi290_0⟩ := at_L2 (Kd.V_reads' HO_19.out).2.2 x21_2 p290 q290
     cases e290
     obtain ⟨ce290, hce290, hMe290, hcc290⟩ := Kd.V_get HO_19.out [] x21_2 p290 (by first | exact q290 | exact of_decide_eq_true za | (have e_ := (Kd.V_reads' HO_19.out).1; omega))
     obtain ⟨ua290_0, uc290_0, rfl, ul290_0, ge290_0⟩ := Kd.FK_slice_open hMe290
     have hv290_0 := hcc290 0 _ rfl
     rw [Nat.add_zero, show ((Kd.slice 25 k25)).sz = 1 from rfl, Nat.mul_one] at hv290_0
     replace hv290_0 := Option.some.inj (hv290_0.symm.trans hx290_0)
     injection hv290_0 with hva_ hvn_ hvc_
     rw [hva_] at ge290_0
     rw [hvc_] at ul290_0
     have HL290_0 := aM (show Kd.V k25 25 _ w.heap.size _ _ (rd_L2 x9_1 x21_2) from Kd.V_mk ul290_0 ge290_0)
     clear hva_ hvn_ hvc_ ge290_0 ul290_0
     clear hcc290 hce290
     have HR290_0 := aM hi290_0
     have HC290_0 := aM hl290_0
     clear hi290_0 hl290_0
     replace p290 := eq_true p290
     replace q290 := eq_true q290
     go_wp2_with (first | ((with_reducible refine gate_callee (f := 49) rfl ?_); refine goesL_ (some 29) rfl rfl Tryz.func49 (by kernel_rfl) rfl #[.slice A290_0 (rd_L2 x9_1 x21_2).length c290_0, .func (.func 14) #[] #[], .func (.func 35) #[] #[]] rfl zm ?_; (with_reducible refine (impl_grown__impl_trianglesAround_impl_normalTriangles.calls k2 _ _ (rd_L2 x9_1 x21_2)   t291 _ ?side1 ?side2 A12.out).mono ?_); (case side1 => repeat (first | exact (mQ_ HR290_0.out) | (with_reducible refine Kd.C_alloc ?_ _) | (with_reducible refine Kd.C_drewN ?_ _) | (with_reducible refine Kd.C_drew ?_))); (case side2 => exact HC290_0.out); rintro e w14 ⟨v292, rfl, ho0, hb⟩; refine ⟨_, rfl, ?_⟩; have n0_ := aM (Kd.N_elder' (mN_ HO_10.out) (by first | exact Kd.N_base ho0 | exact Kd.S_base ho0 | exact Kd.R_base ho0) hb); have n1_ := aM (Kd.V_elder' (mV_ HO_19.out) (by first | exact Kd.N_base ho0 | exact Kd.S_base ho0 | exact Kd.R_base ho0) hb); have n2_ := aM (Kd.V_elder' (mV_ HL290_0.out) (by first | exact Kd.N_base ho0 | exact Kd.S_base ho0 | exact Kd.R_base ho0) hb); have n3_ := aM (Kd.N_lower (Kd.N_mono (ok' := fun k_ => (P1_ k_ ∨ w.heap.size ≤ k_) ∧ some k_ ≠ (u10 : Value).ownBlock) ho0 (fun k_ hk_ => ⟨(.inr (Nat.le_trans (below_size zb) hk_)), (Kd.fresh' (Kd.N_lt (mN_ HO_10.out)) k_ hk_)⟩)) (below_size zb)); have n4_ := aM (Kd.C_below (mQ_ HR290_0.out) hb); have n5_ := aM (below_step zb hb); clear HO_10; clear HO_19; clear HL290_0; clear HR290_0; clear HB; have HO_10 := n0_; have HO_19 := n1_; have HL290_0 := n2_; have HO293 := n3_; have HR290_0 := n4_; have HB := n5_; clear n0_ n1_ n2_ n3_ n4_ n5_; (try clear hb); (try clear hb2); (try clear hk); (try clear hi); (try clear ho0); obtain ⟨Ao16, co16, eo16⟩ := Kd.N_slice HO293.out; subst eo16) | ((with_reducible refine gate_builtin (b := .append) (xs := #[.tmp 25, .tmp 29]) rfl ?_); at_builtin; refine Kd.N_append_rows (Kd.slice 25 k25) (w0 := w) w.heap.size rfl (.tmp 25) (.tmp 29) 39 27 (.slice none 0 0) 24 rfl Tryz.underlying39 info27 rfl (by decide) (by omega) u10 x10_2 t291 _ _ _ (fun k_ => (P1_ k_ ∨ w.heap.size ≤ k_)) (fun k_ => ((fun k_ => (P1_ k_ ∨ w.heap.size ≤ k_))) k_ ∧ some k_ ≠ (u10 : Value).ownBlock) rfl rfl ?aO ?aR (fun _ hk => hk) ?aF ?aB ?aS ?aL ?_; (case aR => exact (by skip; exact Kd.N_F (Kd.N_mono (ok' := (fun k_ => ((fun k_ => (P1_ k_ ∨ w.heap.size ≤ k_))) k_ ∧ some k_ ≠ (u10 : Value).ownBlock)) (HO293.out) (fun k_ hk => ⟨hk.1, hk.2⟩)))); (case aB => exact zb); (case aF => exact (fun k_ hk => (.inr (Nat.le_trans (below_size zb) hk)))); (case aO => exact (by (with_reducible repeat (first | apply Kd.N_alloc | apply Kd.N_drewN | apply Kd.N_drew)); exact Kd.N_mono HO_10.out (fun _ hk => hk.1))); (case aS => exact (below_size zb)); (case aL => have := LMc13.out; omega); intro v295 w15 ho hb hg hat; rw [← Ny294.out] at ho; have n0_ := aM (Kd.V_afterv (ok := (fun k_ => (P1_ k_ ∨ w.heap.size ≤ k_) ∧ some k_ ≠ (.slice Ao16 t291.length co16 : Value).ownBlock)) (by (with_reducible repeat (first | apply Kd.V_alloc | apply Kd.V_drewN | apply Kd.V_drew)); exact Kd.V_mono HO_19.out (fun _ hk => ⟨⟨hk.1.1, hk.2⟩, hk.1.2⟩)) hg hat); have n1_ := aM (Kd.V_afterv (ok := (fun k_ => (P1_ k_ ∨ w.heap.size ≤ k_) ∧ some k_ ≠ (.slice Ao16 t291.length co16 : Value).ownBlock)) (by (with_reducible repeat (first | apply Kd.V_alloc | apply Kd.V_drewN | apply Kd.V_drew)); exact Kd.V_mono HL290_0.out (fun _ hk => ⟨⟨hk.1.1, hk.2⟩, hk.1.2⟩)) hg hat); have n2_ := aM (Kd.N_afterv (ok := (fun k_ => (P1_ k_ ∨ w.heap.size ≤ k_))) (mN_ HO293.out) hg hat); have n3_ := aM (hb); have n4_ := aM (ho); clear HO_19; clear HL290_0; clear HO293; clear HB; clear HO_10; have HO_19 := n0_; have HL290_0 := n1_; have HO293 := n2_; have HB := n3_; have HO296 := n4_; clear n0_ n1_ n2_ n3_ n4_; clear ho hb hg hat))
     go_roundg k2
     case measure => have := HK1.out; have := HK2.out; omega
     case rel => exact ⟨(y294), (wrap64 (x21_2 + 1)), zr, H', ⟨by have := HK1.out; have := HK2.out; omega⟩, ⟨mN_ HO296.out⟩, ⟨by (with_reducible repeat (first | apply Kd.V_alloc | apply Kd.V_drewN | apply Kd.V_drew)); exact Kd.V_mono HO_19.out (fun _ hk => ⟨hk.1.1, hk.2⟩)⟩, ⟨zb⟩⟩
def impl_allTriangles.f (k : Nat) (a0 : Int) : Option ((List (List (S25)))) := (impl_allGrown__impl_trianglesAround_impl_normalTriangles.f k a0 (([(([(⟨1, 1⟩ : S25)] : List (S25))), (([(⟨2, 2⟩ : S25)] : List (S25)))] : List (List (S25))))).bind fun t309 => (some t309)
theorem impl_allTriangles.calls (k : Nat) (a0 : Int) (r : List (List (S25))) (w : World) (h : impl_allTriangles.f k a0 = some r) :
  Calls Tryz.prog 19 #[.int .i64 a0] w fun e w' => ∃ v0_ : Value, e = .returned (v0_) ∧ Kd.V (Kd.slice 25 k25) 27 w' w.heap.size (fun k_ => (w.heap.size ≤ k_)) v0_ r ∧ Below w.heap.size w w' := by
 have hu25 := Tryz.underlying25
 have HB := aM (Below.refl w.heap.size w)
 have H : ((impl_allGrown__impl_trianglesAround_impl_normalTriangles.f k a0 (([(([(⟨1, 1⟩ : S25)] : List (S25))), (([(⟨2, 2⟩ : S25)] : List (S25)))] : List (List (S25))))).bind fun t309 => (some t309)) = some r := h
 clear h
 obtain ⟨y300, hy300⟩ : ∃ y_ : List (S25), y_ = (([(⟨1, 1⟩ : S25)] : List (S25))) := ⟨_, rfl⟩
 replace H : ((impl_allGrown__impl_trianglesAround_impl_normalTriangles.f k a0 (([y300, (([(⟨2, 2⟩ : S25)] : List (S25)))] : List (List (S25))))).bind fun t309 => (some t309)) = some r := zy H hy300
 have Ny300 := aM hy300
 clear hy300
 obtain ⟨y303, hy303⟩ : ∃ y_ : List (S25), y_ = (([(⟨2, 2⟩ : S25)] : List (S25))) := ⟨_, rfl⟩
 replace H : ((impl_allGrown__impl_trianglesAround_impl_normalTriangles.f k a0 (([y300, y303] : List (List (S25))))).bind fun t309 => (some t309)) = some r := zy H hy303
 have Ny303 := aM hy303
 clear hy303
 obtain ⟨y306, hy306⟩ : ∃ y_ : List (List (S25)), y_ = (([y300, y303] : List (List (S25)))) := ⟨_, rfl⟩
 replace H : ((impl_allGrown__impl_trianglesAround_impl_normalTriangles.f k a0 y306).bind fun t309 => (some t309)) = some r := zy H hy306
 have Ny306 := aM hy306
 clear hy306
 replace H := Option.bind_eq_some_iff.mp H
 obtain ⟨t309, A20, H⟩ := H
 replace H : (some t309) = some r := H
 have A2 := aM A20
 clear A20
 obtain rfl := Option.some.inj H
 go_enter Tryz.func19, Tryz.ntmps19
 go_wp2_with (first | ((with_reducible refine gate_dst (N := 5) rfl ?_); refine Kd.R_lit k25 _ 25 ?hg (N := 5) ?hd (xs := ([(⟨1, 1⟩ : S25)] : List (S25))) (inner := [.int .i64 1, .int .i64 1]) (ok := fun _ => True) (okp := fun _ => True) ?hr ?hp (fun _ hk => hk) trivial (Below.refl _ _) (Nat.le_refl _) (by simp) ?_; (case hd => rfl); (case hg => rfl); (case hr => first | (go_simp; done) | (go_simp; rfl)); (case hp => exact (Reps.c2 (show Kd.M k25 _ _ _ (⟨1, 1⟩ : S25) [.int .i64 1, .int .i64 1] from (k25_mkM _ _ _ (⟨1, 1⟩ : S25) )) (Reps.none _ _))); intro v301 w3 ho4 hb hg_ hnew_; clear hg_ hnew_; (first | rw [← Ny300.out] at ho4 | (simp only [Int.reduceToNat] at ho4; rw [← Ny300.out] at ho4)); have n0_ := aM (Kd.R_lower (Kd.R_newM (M := fun k_ => (w.heap.size ≤ k_)) ho4 (below_size zb) (fun k_ h_ => h_)) (below_size zb)); have n1_ := aM (below_step zb hb); clear HB; have HO302 := n0_; have HB := n1_; clear n0_ n1_; clear hb ho4) | ((with_reducible refine gate_dst (N := 7) rfl ?_); refine Kd.R_lit k25 _ 25 ?hg (N := 7) ?hd (xs := ([(⟨2, 2⟩ : S25)] : List (S25))) (inner := [.int .i64 2, .int .i64 2]) (ok := fun _ => True) (okp := fun _ => True) ?hr ?hp (fun _ hk => hk) trivial (Below.refl _ _) (Nat.le_refl _) (by simp) ?_; (case hd => rfl); (case hg => rfl); (case hr => first | (go_simp; done) | (go_simp; rfl)); (case hp => exact (Reps.c2 (show Kd.M k25 _ _ _ (⟨2, 2⟩ : S25) [.int .i64 2, .int .i64 2] from (k25_mkM _ _ _ (⟨2, 2⟩ : S25) )) (Reps.none _ _))); intro v304 w5 ho6 hb hg_ hnew_; clear hg_ hnew_; (first | rw [← Ny303.out] at ho6 | (simp only [Int.reduceToNat] at ho6; rw [← Ny303.out] at ho6)); have n0_ := aM (Kd.R_elder' (mR_ HO302.out) (Kd.R_base ho6) hb); have n1_ := aM (Kd.R_lower (Kd.R_new' (Kd.R_newM (M := fun k_ => (w.heap.size ≤ k_)) ho6 (below_size zb) (fun k_ h_ => h_)) (Kd.R_lt (mR_ HO302.out))) (below_size zb)); have n2_ := aM (below_step zb hb); clear HO302; clear HB; have HO302 := n0_; have HO305 := n1_; have HB := n2_; clear n0_ n1_ n2_; clear hb ho6; obtain ⟨Ao7, co7, eo7⟩ := Kd.R_slice HO302.out; subst eo7; obtain ⟨Ao8, co8, eo8⟩ := Kd.R_slice HO305.out; subst eo8) | ((with_reducible refine gate_dst (N := 8) rfl ?_); refine Kd.N_lit (Kd.slice 25 k25) _ 27 ?hg (N' := 8) ?hd (xs := ([y300, y303] : List (List (S25)))) (inner := [.slice Ao7 y300.length co7, .slice Ao8 y303.length co8]) (ok := (fun k_ => (w.heap.size ≤ k_))) (okp := (fun k_ => (w.heap.size ≤ k_))) ?hr ?hp (fun _ hk => hk) ((show ∀ k_, w5.heap.size ≤ k_ → (fun k_ => (w.heap.size ≤ k_)) k_ from fun k_ hk => (Nat.le_trans (below_size zb) hk)) _ (Nat.le_refl _)) (Below.refl _ _) (Nat.le_refl _) (by simp) ?_; (case hd => rfl); (case hg => rfl); (case hr => first | (go_simp; done) | (go_simp; rfl)); (case hp => exact (Reps.one (show Kd.FK (Kd.slice 25 k25) _ _ y300 [.slice Ao7 y300.length co7] from (Kd.FK_slice_mk (Kd.R_reads' (Kd.R_mono (ok' := (fun k_ => (w.heap.size ≤ k_))) (HO302.out) (fun k_ hk => hk.1.1))).2.1 (Kd.R_F (Kd.R_mono (ok' := (fun k_ => (w.heap.size ≤ k_))) (HO302.out) (fun k_ hk => hk.1.1))))) (Reps.one (show Kd.FK (Kd.slice 25 k25) _ _ y303 [.slice Ao8 y303.length co8] from (Kd.FK_slice_mk (Kd.R_reads' (Kd.R_mono (ok' := (fun k_ => (w.heap.size ≤ k_))) (HO305.out) (fun k_ hk => hk.1.1))).2.1 (Kd.R_F (Kd.R_mono (ok' := (fun k_ => (w.heap.size ≤ k_))) (HO305.out) (fun k_ hk => hk.1.1))))) (Reps.none _ _)))); intro v307 w9 ho10 hb hg_ hnew_; clear hg_ hnew_; (first | rw [← Ny306.out] at ho10 | (simp only [Int.reduceToNat] at ho10; rw [← Ny306.out] at ho10)); have n0_ := aM (Kd.N_lower ho10 (below_size zb)); have n1_ := aM (below_step zb hb); clear HB; clear HO302; clear HO305; have HO308 := n0_; have HB := n1_; clear n0_ n1_; clear hb ho10; obtain ⟨Ao11, co11, eo11⟩ := Kd.N_slice HO308.out; subst eo11) | ((with_reducible refine gate_callee (f := 34) rfl ?_); refine goesL_ (some 9) rfl rfl Tryz.func34 (by kernel_rfl) rfl #[.int .i64 a0, .slice Ao11 y306.length co11, .func (.func 14) #[] #[], .func (.func 35) #[] #[]] rfl zm ?_; (with_reducible refine (impl_allGrown__impl_trianglesAround_impl_normalTriangles.calls k a0 (fun k_ => (w.heap.size ≤ k_)) _ _ y306   t309 _ ?side1 A2.out).mono ?_); (case side1 => exact Kd.N_V (HO308.out)); rintro e w12 ⟨v310, rfl, ho0, hb⟩; refine ⟨_, rfl, ?_⟩; have n0_ := aM (Kd.N_below (mN_ HO308.out) hb); have n1_ := aM (Kd.V_lower (Kd.V_mono (ok' := fun k_ => (w.heap.size ≤ k_)) ho0 (fun k_ hk_ => Or.elim hk_ (fun hs_ => hs_) (fun hn_ => (Nat.le_trans (below_size zb) hn_)))) (below_size zb)); have n2_ := aM (below_step zb hb); clear HO308; clear HB; have HO308 := n0_; have HO311 := n1_; have HB := n2_; clear n0_ n1_ n2_; (try clear hb); (try clear hb2); (try clear hk); (try clear hi); (try clear ho0)))
 go_ret
 exact ⟨_, zw, mV_ HO311.out, zb⟩
mutual
def impl_latticeCells.l0 : Nat → Int → List (S25) → List (S25) → Int → Int → Option ((List (S25)))
 | 0, _, _, _, _, _ => none
 | k + 1, x1, x5, x11, x12, x13 => if x13 < x12 then (if 0 ≤ x13 then (if x13 < (x11.length : Int) then (if x1 ≥ 6 then (impl_latticeCells.j1 k x1 x5 x11 x12 x13 ((rd_T25 x11 x13).f1) ((rd_T25 x11 x13).f0)) else (impl_latticeCells.j1 k x1 x5 x11 x12 x13 ((rd_T25 x11 x13).f0) ((rd_T25 x11 x13).f1))) else (none)) else (none)) else ((impl_sorted.f x5).bind fun t315 => (some t315))
def impl_latticeCells.j1 : Nat → Int → List (S25) → List (S25) → Int → Int → Int → Int → Option ((List (S25)))
 | 0, _, _, _, _, _, _, _ => none
 | k + 1, x1, x5, x11, x12, x13, x320000, x320001 => impl_latticeCells.l1 k x1 x5 x11 x12 x13 (Int.tmod x1 6) 0 x320000 x320001
def impl_latticeCells.l1 : Nat → Int → List (S25) → List (S25) → Int → Int → Int → Int → Int → Int → Option ((List (S25)))
 | 0, _, _, _, _, _, _, _, _, _ => none
 | k + 1, x1, x5, x11, x12, x13, x25, x26, x320000, x320001 => if x26 < x25 then (impl_latticeCells.l1 k x1 x5 x11 x12 x13 x25 (wrap64 (x26 + 1)) (wrap64 (-x320001)) (wrap64 (x320000 + x320001))) else (if x5.length < 8796093022208 then (impl_latticeCells.l0 k x1 (x5 ++ [(⟨x320000, x320001⟩ : S25)]) x11 x12 (wrap64 (x13 + 1))) else (none))
end
def impl_latticeCells.f (k : Nat) (l0 : List (S25)) (a1 : Int) : Option ((List (S25))) := if 0 ≤ (l0.length : Int) then (if ((l0.length : Int) : Int).toNat ≤ 17592186044416 then (impl_latticeCells.l0 k a1 (([] : List (S25))) l0 (l0.length : Int) 0) else (none)) else (none)
theorem impl_latticeCells.calls (k : Nat) (A0 : Option Addr) (c0 : Nat) (l0 : List (S25)) (a1 : Int) (r : List (S25)) (w : World) (hr0 : Kd.C k25 w A0 l0.length l0) (hc0 : l0.length ≤ c0) (h : impl_latticeCells.f k l0 a1 = some r) :
  Calls Tryz.prog 38 #[.slice A0 l0.length c0, .int .i64 a1] w fun e w' => ∃ v0_ : Value, e = .returned (v0_) ∧ Kd.R k25 25 w' w.heap.size (fun _ => True) v0_ r ∧ Below w.heap.size w w' := by
 have hu25 := Tryz.underlying25
 have HR0 := aM hr0
 have HC0 := aM hc0
 clear hr0 hc0
 have HB := aM (Below.refl w.heap.size w)
 have H : (if 0 ≤ (l0.length : Int) then (if ((l0.length : Int) : Int).toNat ≤ 17592186044416 then (impl_latticeCells.l0 k a1 (([] : List (S25))) l0 (l0.length : Int) 0) else (none)) else (none)) = some r := h
 clear h
 by_cases c3 : 0 ≤ (l0.length : Int)
 rotate_left
 ·rw [if_neg c3] at H
  exact absurd H (by simp)
 rw [if_pos c3] at H
 have c3b0 := eq_true c3
 have c3b1 : decide (0 ≤ (l0.length : Int)) = true := decide_eq_true c3
 clear c3
 by_cases c4 : ((l0.length : Int) : Int).toNat ≤ 17592186044416
 rotate_left
 ·rw [if_neg c4] at H
  exact absurd H (by simp)
 rw [if_pos c4] at H
 have c4b0 := eq_true c4
 have c4b1 : decide (((l0.length : Int) : Int).toNat ≤ 17592186044416) = true := decide_eq_true c4
 clear c4
 obtain ⟨y312, hy312⟩ : ∃ y_ : List (S25), y_ = (([] : List (S25))) := ⟨_, rfl⟩
 replace H : (impl_latticeCells.l0 k a1 y312 l0 (l0.length : Int) 0) = some r := zy H hy312
 have Ny312 := aM hy312
 clear hy312
 have H' := aM H
 clear H
 go_enter Tryz.func38, Tryz.ntmps38
 go_wp2_with (first | ((with_reducible refine gate_dst (N := 10) rfl ?_); refine Kd.R_make0 k25 _ 25 rfl (N := 10) rfl 27 _ _ rfl (l0.length : Int) rfl rfl Tryz.underlying27 (.agg #[(.int .i64 0), (.int .i64 0)]) 16 info25 rfl (by decide) (by omega) z25 (ok := fun _ => True) (okp := fun _ => True) (k25_mkM _ _ _ z25 ) (fun _ hk => hk) trivial (of_decide_eq_true za) (Nat.le_trans (Nat.mul_le_mul_right _ (of_decide_eq_true za : (l0.length : Int).toNat ≤ 17592186044416)) (by omega)) (Below.refl _ _) (Nat.le_refl _) ?_; intro v313 w5 ho6 hb hg_ hnew_; clear hg_ hnew_; (first | rw [← Ny312.out] at ho6 | (simp only [Int.reduceToNat] at ho6; rw [← Ny312.out] at ho6)); have n0_ := aM (Kd.R_lower ho6 (below_size zb)); have n1_ := aM (below_step zb hb); clear HB; have HO314 := n0_; have HB := n1_; clear n0_ n1_; clear hb ho6))
 go_loopg [5, 13] k (fun kq v5 v13 w' => ∃ (x5_1 : List (S25)) (x13_1 : Int), v13 = .int .i64 x13_1 ∧ Aside0 (impl_latticeCells.l0 kq a1 x5_1 l0 (l0.length : Int) x13_1 = some r) ∧ Aside0 (kq ≤ k) ∧ Aside0 (Kd.R k25 25 w' w.heap.size (fun _ => True) v5 x5_1) ∧ Aside0 (Below w.heap.size w w'))
 case atStart => exact ⟨(y312), (0), zr, H', ⟨Nat.le_refl _⟩, ⟨mR_ HO314.out⟩, ⟨zb⟩⟩
 case round =>
  clear H'
  try clear p2
  try clear c3
  try clear c3b0
  try clear c3b1
  try clear c4
  try clear c4b0
  try clear c4b1
  obtain ⟨x5_1, x13_1, rfl, HA, HK1, HO_5, HB⟩ := hrel
  cases gk with
  | zero => exact absurd HA.out (by simp [impl_latticeCells.l0])
  | succ k1 =>
   have H := HA.out
   clear HA
   simp only [impl_latticeCells.l0] at H
   by_cases c7 : x13_1 < (l0.length : Int)
   rotate_left
   ·rw [if_neg c7] at H
    have c7b0 : decide (x13_1 < (l0.length : Int)) = false := decide_eq_false c7
    clear c7
    replace H := Option.bind_eq_some_iff.mp H
    obtain ⟨t315, A200, H⟩ := H
    replace H : (some t315) = some r := H
    have A20 := aM A200
    clear A200
    obtain rfl := Option.some.inj H
    obtain ⟨Ao21, co21, eo21⟩ := Kd.R_slice HO_5.out
    subst eo21
    go_wp2_with (first | ((with_reducible refine gate_callee (f := 30) rfl ?_); refine goesL_ (some 44) rfl rfl Tryz.func30 (by kernel_rfl) rfl #[.slice Ao21 x5_1.length co21] rfl zm ?_; (with_reducible refine (impl_sorted.calls _ _ x5_1 t315 _ ?side1 ?side2 A20.out).mono ?_); (case side1 => repeat (first | exact (Kd.R_reads' HO_5.out).2.2 | (with_reducible refine Kd.C_alloc ?_ _) | (with_reducible refine Kd.C_drewN ?_ _) | (with_reducible refine Kd.C_drew ?_))); (case side2 => exact (Kd.R_reads' HO_5.out).2.1); rintro e w22 ⟨v316, rfl, ho0, hb⟩; refine ⟨_, rfl, ?_⟩; have n0_ := aM (Kd.R_elder' (mR_ HO_5.out) (Kd.R_base ho0) hb); have n1_ := aM (Kd.R_lower (Kd.R_new' ho0 (Kd.R_lt (mR_ HO_5.out))) (below_size zb)); have n2_ := aM (below_step zb hb); clear HO_5; clear HB; have HO_5 := n0_; have HO317 := n1_; have HB := n2_; clear n0_ n1_ n2_; (try clear hb); (try clear hb2); (try clear hk); (try clear hi); (try clear ho0)))
    go_ret
    exact ⟨_, zw, by (with_reducible repeat (first | apply Kd.R_alloc | apply Kd.R_drewN | apply Kd.R_drew)); exact Kd.R_mono HO317.out (fun _ hk => trivial), zb⟩
   rw [if_pos c7] at H
   have c7b0 : decide (x13_1 < (l0.length : Int)) = true := decide_eq_true c7
   clear c7
   by_cases c8 : 0 ≤ x13_1
   rotate_left
   ·rw [if_neg c8] at H
    exact absurd H (by simp)
   rw [if_pos c8] at H
   have c8b0 : decide (0 ≤ x13_1) = true := decide_eq_true c8
   clear c8
   by_cases c9 : x13_1 < (l0.length : Int)
   rotate_left
   ·rw [if_neg c9] at H
    exact absurd H (by simp)
   rw [if_pos c9] at H
   have c9b0 : decide (x13_1 < (l0.length : Int)) = true := decide_eq_true c9
   clear c9
   have HC10 := aM H
   clear H
   have p318 : 0 ≤ (x13_1 : Int) := of_decide_eq_true za
   have q318 : x13_1 < (l0.length : Int) := of_decide_eq_true za
   obtain ⟨ad318, e318, hx318_0, hx318_1⟩ := at_T25 HR0.out x13_1 p318 q318
   cases e318
   replace hx318_0 := (HB.out.cell (World.block_lt_of_cell? w _ hx318_0)).trans hx318_0
   replace hx318_1 := (HB.out.cell (World.block_lt_of_cell? w _ hx318_1)).trans hx318_1
   replace p318 := eq_true p318
   replace q318 := eq_true q318
   go_upto_if 18 with (first | ((with_reducible refine gate_dst (N := 7) rfl ?_); refine box_event ?hg (N := 7) ?hd (cs := #[.int .i64 0, .int .i64 0]) (t := 25) ?hr ?_; (case hd => rfl); (case hg => rfl); (case hr => first | (go_simp; done) | (go_simp; rfl)); intro gb319 hg w11 hbox hb; have n0_ := aM (Kd.R_below (Kd.R_elderB (mR_ HO_5.out) gb319 (Nat.le_of_eq hg.symm)) hb); have n1_ := aM (below_step zb hb); have n2_ := aM (hbox); have n3_ := aM ((ze : w.heap.size ≤ gb319)); have n4_ := aM ((ze : w.heap.size ≤ gb319)); clear HO_5; clear HB; have HO_5 := n0_; have HB := n1_; have BK319 := n2_; have GW319 := n3_; have GE319 := n4_; clear n0_ n1_ n2_ n3_ n4_; clear hb hbox hg; have hcz12_0 : w11.cell? ⟨gb319, 0, none⟩ = some (.int .i64 0) := (blk_cell BK319.out 0).trans rfl; have hcz12_1 : w11.cell? ⟨gb319, 1, none⟩ = some (.int .i64 0) := (blk_cell BK319.out 1).trans rfl; have hfz12_0 := blk_frozen BK319.out 0; have hfz12_1 := blk_frozen BK319.out 1))
   (try simp only [Act.put, xA, xB, xC])
   go_cut [] (fun wc => ∃ (kq : Nat) (x320000_9 : Int) (x320001_9 : Int), Aside0 (impl_latticeCells.j1 kq a1 x5_1 l0 (l0.length : Int) x13_1 x320000_9 x320001_9 = some r) ∧ Aside0 (kq ≤ k1) ∧ Aside0 (Kd.R k25 25 wc w.heap.size (fun k_ => k_ ≠ gb319) u5 x5_1) ∧ Aside0 (wc.heap[gb319]? = some (.cells #[.int .i64 x320000_9, .int .i64 x320001_9] 25 (0, 0))) ∧ Aside0 (Below w.heap.size w wc))
   case first =>
    have H := HC10.out
    clear HC10
    by_cases c13 : a1 ≥ 6
    rotate_left
    ·rw [if_neg c13] at H
     have c13b0 : decide (6 ≤ a1) = false := decide_eq_false c13
     clear c13
     (first | rw [c13b0] | (simp only [i64_w, i32_w]; rw [c13b0]) | skip)
     have H' := aM H
     clear H
     go_wp2
     go_meet
     case rel => exact ⟨_, ((rd_T25 l0 x13_1).f0), ((rd_T25 l0 x13_1).f1), H', ⟨by have := HK1.out; first | omega | exact Nat.le_refl _⟩, ⟨by (with_reducible repeat (first | apply Kd.R_alloc | apply Kd.R_drewN | apply Kd.R_drew)); exact Kd.R_mono (Kd.R_far (p := ⟨gb319, 1, none⟩) (Kd.R_far (p := ⟨gb319, 0, none⟩) (Kd.R_mono HO_5.out (fun k_ hk => (⟨hk, hk.2⟩ : _ ∧ k_ ≠ gb319))) (fun _ hk => hk.2) (.int .i64 ((rd_T25 l0 x13_1).f0))) (fun _ hk => hk.2) (.int .i64 ((rd_T25 l0 x13_1).f1))) (fun _ hk => hk.1.2)⟩, ⟨by (with_reducible repeat (first | refine blk_drewN ?_ _ | refine blk_drew ?_ | refine blk_alloc ?_ _)); refine blk_put (cs := #[.int .i64 ((rd_T25 l0 x13_1).f0), .int .i64 0]) ?_ 1 _ rfl; (with_reducible repeat (first | refine blk_drewN ?_ _ | refine blk_drew ?_ | refine blk_alloc ?_ _)); refine blk_put (cs := #[.int .i64 0, .int .i64 0]) ?_ 0 _ rfl; (with_reducible repeat (first | refine blk_drewN ?_ _ | refine blk_drew ?_ | refine blk_alloc ?_ _)); exact BK319.out⟩, ⟨zs GE319.out⟩⟩
    rw [if_pos c13] at H
    have c13b0 : decide (6 ≤ a1) = true := decide_eq_true c13
    clear c13
    (first | rw [c13b0] | (simp only [i64_w, i32_w]; rw [c13b0]) | skip)
    have H' := aM H
    clear H
    have hcz14_0 : w11.cell? ⟨gb319, 0, none⟩ = some (.int .i64 0) := (blk_cell BK319.out 0).trans rfl
    have hcz14_1 : w11.cell? ⟨gb319, 1, none⟩ = some (.int .i64 0) := (blk_cell BK319.out 1).trans rfl
    have hfz14_0 := blk_frozen BK319.out 0
    have hfz14_1 := blk_frozen BK319.out 1
    go_wp2
    go_meet
    case rel => exact ⟨_, ((rd_T25 l0 x13_1).f1), ((rd_T25 l0 x13_1).f0), H', ⟨by have := HK1.out; first | omega | exact Nat.le_refl _⟩, ⟨by (with_reducible repeat (first | apply Kd.R_alloc | apply Kd.R_drewN | apply Kd.R_drew)); exact Kd.R_mono (Kd.R_far (p := ⟨gb319, 1, none⟩) (Kd.R_far (p := ⟨gb319, 0, none⟩) (Kd.R_far (p := ⟨gb319, 1, none⟩) (Kd.R_far (p := ⟨gb319, 0, none⟩) (Kd.R_mono HO_5.out (fun k_ hk => (⟨hk, hk.2⟩ : _ ∧ k_ ≠ gb319))) (fun _ hk => hk.2) (.int .i64 ((rd_T25 l0 x13_1).f0))) (fun _ hk => hk.2) (.int .i64 ((rd_T25 l0 x13_1).f1))) (fun _ hk => hk.2) (.int .i64 ((rd_T25 l0 x13_1).f1))) (fun _ hk => hk.2) (.int .i64 ((rd_T25 l0 x13_1).f0))) (fun _ hk => hk.1.2)⟩, ⟨by (with_reducible repeat (first | refine blk_drewN ?_ _ | refine blk_drew ?_ | refine blk_alloc ?_ _)); refine blk_put (cs := #[.int .i64 ((rd_T25 l0 x13_1).f1), .int .i64 ((rd_T25 l0 x13_1).f1)]) ?_ 1 _ rfl; (with_reducible repeat (first | refine blk_drewN ?_ _ | refine blk_drew ?_ | refine blk_alloc ?_ _)); refine blk_put (cs := #[.int .i64 ((rd_T25 l0 x13_1).f0), .int .i64 ((rd_T25 l0 x13_1).f1)]) ?_ 0 _ rfl; (with_reducible repeat (first | refine blk_drewN ?_ _ | refine blk_drew ?_ | refine blk_alloc ?_ _)); refine blk_put (cs := #[.int .i64 ((rd_T25 l0 x13_1).f0), .int .i64 0]) ?_ 1 _ rfl; (with_reducible repeat (first | refine blk_drewN ?_ _ | refine blk_drew ?_ | refine blk_alloc ?_ _)); refine blk_put (cs := #[.int .i64 0, .int .i64 0]) ?_ 0 _ rfl; (with_reducible repeat (first | refine blk_drewN ?_ _ | refine blk_drew ?_ | refine blk_alloc ?_ _)); exact BK319.out⟩, ⟨zs GE319.out⟩⟩
   case rest =>
    clear HC10
    try clear c1
    try clear p2
    try clear c3
    try clear c3b0
    try clear c3b1
    try clear p3
    try clear q3
    try clear hx3
    try clear c4
    try clear c4b0
    try clear c4b1
    try clear c7
    try clear c7b0
    try clear c8
    try clear c8b0
    try clear c9
    try clear c9b0
    try clear c13
    try clear c13b0
    try clear hcz12_0
    try clear hcz12_1
    try clear hcz14_0
    try clear hcz14_1
    try clear hfz12_0
    try clear hfz12_1
    try clear hfz14_0
    try clear hfz14_1
    try clear hx318_0
    try clear hx318_1
    try clear p2
    try clear p318
    try clear q318
    obtain ⟨kq, x320000_9, x320001_9, HA, HJ9, HO_5, BK319, HB⟩ := hcut
    cases kq with
    | zero => exact absurd HA.out (by simp [impl_latticeCells.j1])
    | succ kj9 =>
     have H := HA.out
     clear HA
     simp only [impl_latticeCells.j1] at H
     have H' := aM H
     clear H
     go_wp2
     go_loopg [26] kj9 (fun kq v26 w' => ∃ (x26_3 : Int) (x320000_3 : Int) (x320001_3 : Int), v26 = .int .i64 x26_3 ∧ Aside0 (impl_latticeCells.l1 kq a1 x5_1 l0 (l0.length : Int) x13_1 (Int.tmod a1 6) x26_3 x320000_3 x320001_3 = some r) ∧ Aside0 (kq ≤ kj9) ∧ Aside0 (Kd.R k25 25 w' w.heap.size (fun k_ => k_ ≠ gb319) u5 x5_1) ∧ Aside0 (w'.heap[gb319]? = some (.cells #[.int .i64 x320000_3, .int .i64 x320001_3] 25 (0, 0))) ∧ Aside0 (Below w.heap.size w w'))
     case atStart => exact ⟨(0), (x320000_9), (x320001_9), zr, H', ⟨Nat.le_refl _⟩, ⟨mR_ HO_5.out⟩, ⟨mB_ BK319.out⟩, ⟨zs GE319.out⟩⟩
     case round =>
      clear H'
      try clear c1
      try clear p2
      try clear c3
      try clear c3b0
      try clear c3b1
      try clear p3
      try clear q3
      try clear hx3
      try clear c4
      try clear c4b0
      try clear c4b1
      try clear c7
      try clear c7b0
      try clear c8
      try clear c8b0
      try clear c9
      try clear c9b0
      try clear c13
      try clear c13b0
      try clear hcz12_0
      try clear hcz12_1
      try clear hcz14_0
      try clear hcz14_1
      try clear hfz12_0
      try clear hfz12_1
      try clear hfz14_0
      try clear hfz14_1
      try clear hx318_0
      try clear hx318_1
      try clear p2
      try clear p3
      try clear p318
      try clear q3
      try clear q318
      obtain ⟨x26_3, x320000_3, x320001_3, rfl, HA, HK3, HO_5, BK319, HB⟩ := hrel
      cases gk with
      | zero => exact absurd HA.out (by simp [impl_latticeCells.l1])
      | succ k3 =>
       have H := HA.out
       clear HA
       simp only [impl_latticeCells.l1] at H
       by_cases c15 : x26_3 < (Int.tmod a1 6)
       ·rw [if_pos c15] at H
        have c15b0 : decide (x26_3 < (Int.tmod a1 6)) = true := decide_eq_true c15
        clear c15
        have H' := aM H
        clear H
        have hcz16_0 : wr.cell? ⟨gb319, 0, none⟩ = some (.int .i64 x320000_3) := (blk_cell BK319.out 0).trans rfl
        have hcz16_1 : wr.cell? ⟨gb319, 1, none⟩ = some (.int .i64 x320001_3) := (blk_cell BK319.out 1).trans rfl
        have hfz16_0 := blk_frozen BK319.out 0
        have hfz16_1 := blk_frozen BK319.out 1
        go_wp2
        go_roundg k3
        case measure => have := HK1.out; have := HJ9.out; have := HK3.out; omega
        case rel => exact ⟨(wrap64 (x26_3 + 1)), (wrap64 (-x320001_3)), (wrap64 (x320000_3 + x320001_3)), zr, H', ⟨by have := HK1.out; have := HJ9.out; have := HK3.out; omega⟩, ⟨by (with_reducible repeat (first | apply Kd.R_alloc | apply Kd.R_drewN | apply Kd.R_drew)); exact Kd.R_mono (Kd.R_far (p := ⟨gb319, 1, none⟩) (Kd.R_far (p := ⟨gb319, 0, none⟩) (Kd.R_mono HO_5.out (fun k_ hk => (⟨hk, hk⟩ : _ ∧ k_ ≠ gb319))) (fun _ hk => hk.2) (.int .i64 (wrap64 (-x320001_3)))) (fun _ hk => hk.2) (.int .i64 (wrap64 (x320000_3 + x320001_3)))) (fun _ hk => hk.1)⟩, ⟨by (with_reducible repeat (first | refine blk_drewN ?_ _ | refine blk_drew ?_ | refine blk_alloc ?_ _)); refine blk_put (cs := #[.int .i64 (wrap64 (-x320001_3)), .int .i64 x320001_3]) ?_ 1 _ rfl; (with_reducible repeat (first | refine blk_drewN ?_ _ | refine blk_drew ?_ | refine blk_alloc ?_ _)); refine blk_put (cs := #[.int .i64 x320000_3, .int .i64 x320001_3]) ?_ 0 _ rfl; (with_reducible repeat (first | refine blk_drewN ?_ _ | refine blk_drew ?_ | refine blk_alloc ?_ _)); exact BK319.out⟩, ⟨zs GE319.out⟩⟩
       rw [if_neg c15] at H
       have c15b0 : decide (x26_3 < (Int.tmod a1 6)) = false := decide_eq_false c15
       clear c15
       by_cases c17 : x5_1.length < 8796093022208
       rotate_left
       ·rw [if_neg c17] at H
        exact absurd H (by simp)
       rw [if_pos c17] at H
       have LMc17 := aM c17
       clear c17
       obtain ⟨y320, hy320⟩ : ∃ y_ : List (S25), y_ = (x5_1 ++ [(⟨x320000_3, x320001_3⟩ : S25)]) := ⟨_, rfl⟩
       replace H : (impl_latticeCells.l0 k3 a1 y320 l0 (l0.length : Int) (wrap64 (x13_1 + 1))) = some r := zy H hy320
       have Ny320 := aM hy320
       clear hy320
       have H' := aM H
       clear H
       have hcz18_0 : wr.cell? ⟨gb319, 0, none⟩ = some (.int .i64 x320000_3) := (blk_cell BK319.out 0).trans rfl
       have hcz18_1 : wr.cell? ⟨gb319, 1, none⟩ = some (.int .i64 x320001_3) := (blk_cell BK319.out 1).trans rfl
       have hfz18_0 := blk_frozen BK319.out 0
       have hfz18_1 := blk_frozen BK319.out 1
       go_wp2_with (first | ((with_reducible refine gate_builtin (b := .append) (xs := #[.tmp 38, .tmp 40]) rfl ?_); at_builtin; refine Kd.R_append k25 (w0 := w) w.heap.size rfl (.tmp 38) (.tmp 40) 27 25 (.agg #[(.int .i64 0), (.int .i64 0)]) 16 rfl Tryz.underlying27 info25 rfl (by decide) (by omega) u5 x5_1 (⟨x320000_3, x320001_3⟩ : S25) [.int .i64 x320000_3, .int .i64 x320001_3] (fun k_ => k_ ≠ gb319) (fun _ => False) rfl rfl ?aP (fun _ hk => hk.elim) ?aF ?aO ?aB ?aS ?aL ?_; (case aP => exact k25_mkM _ _ _ (⟨x320000_3, x320001_3⟩ : S25)); (case aB => exact (zs GE319.out)); (case aF => exact (fun k_ hk => Kd.freshB (g := gb319) (o := .cells #[.int .i64 x320000_3, .int .i64 x320001_3] 25 (0, 0)) (mB_ BK319.out) k_ hk)); (case aO => exact (mR_ HO_5.out)); (case aS => exact (below_size (zs GE319.out))); (case aL => have := LMc17.out; omega); intro v321 w19 ho hb hg hat; rw [← Ny320.out] at ho; have n0_ := aM (blk_grown (g := gb319) (o := .cells #[.int .i64 x320000_3, .int .i64 x320001_3] 25 (0, 0)) (mB_ BK319.out) hg (Kd.R_away HO_5.out (fun _ hk => hk))); have n1_ := aM (hb); have n2_ := aM (ho); clear BK319; clear HB; clear HO_5; have BK319 := n0_; have HB := n1_; have HO322 := n2_; clear n0_ n1_ n2_; clear ho hb hg hat))
       go_roundg k3
       case measure => have := HK1.out; have := HJ9.out; have := HK3.out; omega
       case rel => exact ⟨(y320), (wrap64 (x13_1 + 1)), zr, H', ⟨by have := HK1.out; have := HJ9.out; have := HK3.out; omega⟩, ⟨by (with_reducible repeat (first | apply Kd.R_alloc | apply Kd.R_drewN | apply Kd.R_drew)); exact Kd.R_mono HO322.out (fun _ hk => trivial)⟩, ⟨zs GE319.out⟩⟩
def impl_triangleForm.f (k : Nat) (l0 : List (S25)) (a1 : Int) : Option ((List (S25))) := (impl_latticeCells.f k l0 a1).bind fun t323 => ((impl_normalTriangles.f k t323).bind fun t326 => (some t326))
theorem impl_triangleForm.calls (k : Nat) (A0 : Option Addr) (c0 : Nat) (l0 : List (S25)) (a1 : Int) (r : List (S25)) (w : World) (hr0 : Kd.C k25 w A0 l0.length l0) (hc0 : l0.length ≤ c0) (h : impl_triangleForm.f k l0 a1 = some r) :
  Calls Tryz.prog 21 #[.slice A0 l0.length c0, .int .i64 a1] w fun e w' => ∃ v0_ : Value, e = .returned (v0_) ∧ Kd.R k25 25 w' w.heap.size (fun _ => True) v0_ r ∧ Below w.heap.size w w' := by
 have HR0 := aM hr0
 have HC0 := aM hc0
 clear hr0 hc0
 have HB := aM (Below.refl w.heap.size w)
 have H : ((impl_latticeCells.f k l0 a1).bind fun t323 => ((impl_normalTriangles.f k t323).bind fun t326 => (some t326))) = some r := h
 clear h
 replace H := Option.bind_eq_some_iff.mp H
 obtain ⟨t323, A30, H⟩ := H
 replace H : ((impl_normalTriangles.f k t323).bind fun t326 => (some t326)) = some r := H
 have A3 := aM A30
 clear A30
 replace H := Option.bind_eq_some_iff.mp H
 obtain ⟨t326, A40, H⟩ := H
 replace H : (some t326) = some r := H
 have A4 := aM A40
 clear A40
 obtain rfl := Option.some.inj H
 go_enter Tryz.func21, Tryz.ntmps21
 go_wp2_with (first | ((with_reducible refine gate_callee (f := 38) rfl ?_); refine goesL_ (some 7) rfl rfl Tryz.func38 (by kernel_rfl) rfl #[.slice A0 l0.length c0, .int .i64 a1] rfl zm ?_; (with_reducible refine (impl_latticeCells.calls k _ _ l0 a1 t323 _ ?side1 ?side2 A3.out).mono ?_); (case side1 => repeat (first | exact HR0.out | (with_reducible refine Kd.C_alloc ?_ _) | (with_reducible refine Kd.C_drewN ?_ _) | (with_reducible refine Kd.C_drew ?_))); (case side2 => exact HC0.out); rintro e w5 ⟨v324, rfl, ho0, hb⟩; refine ⟨_, rfl, ?_⟩; have n0_ := aM (Kd.R_lower ho0 (below_size zb)); have n1_ := aM (below_step zb hb); clear HB; have HO325 := n0_; have HB := n1_; clear n0_ n1_; (try clear hb); (try clear hb2); (try clear hk); (try clear hi); (try clear ho0); obtain ⟨Ao6, co6, eo6⟩ := Kd.R_slice HO325.out; subst eo6) | ((with_reducible refine gate_callee (f := 35) rfl ?_); refine goesL_ (some 8) rfl rfl Tryz.func35 (by kernel_rfl) rfl #[.slice Ao6 t323.length co6] rfl zm ?_; (with_reducible refine (impl_normalTriangles.calls k _ _ t323 t326 _ ?side1 ?side2 A4.out).mono ?_); (case side1 => repeat (first | exact (Kd.R_reads' HO325.out).2.2 | (with_reducible refine Kd.C_alloc ?_ _) | (with_reducible refine Kd.C_drewN ?_ _) | (with_reducible refine Kd.C_drew ?_))); (case side2 => exact (Kd.R_reads' HO325.out).2.1); rintro e w7 ⟨v327, rfl, ho0, hb⟩; refine ⟨_, rfl, ?_⟩; have n0_ := aM (Kd.R_elder' (mR_ HO325.out) (Kd.R_base ho0) hb); have n1_ := aM (Kd.R_lower (Kd.R_new' ho0 (Kd.R_lt (mR_ HO325.out))) (below_size zb)); have n2_ := aM (below_step zb hb); clear HO325; clear HB; have HO325 := n0_; have HO328 := n1_; have HB := n2_; clear n0_ n1_ n2_; (try clear hb); (try clear hb2); (try clear hk); (try clear hi); (try clear ho0)))
 go_ret
 exact ⟨_, zw, by (with_reducible repeat (first | apply Kd.R_alloc | apply Kd.R_drewN | apply Kd.R_drew)); exact Kd.R_mono HO328.out (fun _ hk => trivial), zb⟩
end Go.Proofs.YtlnliahadgmbcaaGreat.F
end
section
namespace Go.Proofs.YtlnliahadgmbcaaGreat.F
open Go.RowKit Go.Proofs.YtlnliahadgmbcaaGreatW.PrintWords Go.Proofs.YtlnliahadgmbcaaGreatW.PrintLast Go.Proofs.YtlnliahadgmbcaaGreatW.PrintMore
attribute [local go_sem] max2_int min2_int max_two min_two max_three min_three max_four min_four
set_option linter.unusedVariables false
set_option linter.unusedSimpArgs false
def impl_IsShape.l0 : Nat → List (S25) → List (S25) → Int → Int → Option (Bool)
 | 0, _, _, _, _ => none
 | k + 1, x0, x5, x6, x7 => if x7 < x6 then (if 0 ≤ x7 then (if x7 < (x5.length : Int) then ((impl_isCoordinate.f ((rd_T25 x5 x7).f0)).bind fun t331 => (if t331 = true then ((impl_isCoordinate.f ((rd_T25 x5 x7).f1)).bind fun t332 => (if t332 = true then (if x7 > 0 then (if 0 ≤ (wrap64 (x7 - 1)) then (if (wrap64 (x7 - 1)) < (x0.length : Int) then ((impl_compareCells.f ((rd_T25 x0 (wrap64 (x7 - 1))).f0) ((rd_T25 x0 (wrap64 (x7 - 1))).f1) ((rd_T25 x5 x7).f0) ((rd_T25 x5 x7).f1)).bind fun t334 => (if t334 ≥ 0 then (some false) else (impl_IsShape.l0 k x0 x5 x6 (wrap64 (x7 + 1))))) else (none)) else (none)) else (impl_IsShape.l0 k x0 x5 x6 (wrap64 (x7 + 1)))) else (some false))) else (some false))) else (none)) else (none)) else (if (x0.length : Int) ≥ 1 then (some (decide ((x0.length : Int) ≤ 40))) else (some false))
def impl_IsShape.f (k : Nat) (l0 : List (S25)) : Option (Bool) := impl_IsShape.l0 k l0 l0 (l0.length : Int) 0
def impl_IsShape.T4 : Bool × List (List Nat × List Nat) := (true, [([], []), ([0], [0]), ([1], [1]), ([2], [2]), ([3, 2], [3]), ([4], [4]), ([5, 4], [4, 5]), ([6, 4, 4], [4, 6]), ([7, 4], [4, 7]), ([4, 8], [4, 8]), ([9, 7], [9]), ([10], [10]), ([11, 10], [10, 11]), ([12, 10, 10], [10, 12]), ([13], [13]), ([13], [13]), ([15, 13], [13, 15]), ([14, 16, 13], [13, 14, 16]), ([17, 13], [13, 17]), ([13], [13]), ([18, 19, 13, 13], [13, 18, 19]), ([20, 13], [13, 20]), ([13, 21, 10], [10, 13, 21]), ([10, 22], [10, 22])])
def impl_IsShape.B4 : List Nat := [0, 1, 3, 7, 15, 31, 63, 127, 255, 511, 1023, 2047, 4095, 8191, 16383, 16383, 49151, 131071, 262143, 16383, 1048575, 2097151, 4194303, 8388607]
theorem impl_IsShape.tab4 : rtab .any (opsOf Tryz.f53 4) = impl_IsShape.T4 := by kernel_rfl
theorem impl_IsShape.bits4 : waitsOk impl_IsShape.T4.2 impl_IsShape.B4 = true := by kernel_rfl
end Go.Proofs.YtlnliahadgmbcaaGreat.F
end
