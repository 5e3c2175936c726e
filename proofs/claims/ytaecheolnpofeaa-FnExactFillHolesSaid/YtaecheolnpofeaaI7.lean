/- The row of FnExactFillHoles, with what it needs: text 8 of 10. -/
import Derived.Test.YtaecheolnpofeaaI6
import Derived.ChangeArms
import Derived.ChangeSame
import Derived.Deep.Fields
import Derived.Deep.Slices
import Derived.Deep.Strs
import Derived.WideShapes
set_option maxHeartbeats 8000000
set_option maxRecDepth 100000
section
namespace Go.Proofs.Ytaecheolnpofeaa.F
open Go.RowKit Go.Proofs.YtaecheolnpofeaaW.PrintWords Go.Proofs.YtaecheolnpofeaaW.PrintLast Go.Proofs.YtaecheolnpofeaaW.PrintMore
attribute [local go_sem] max2_int min2_int max_two min_two max_three min_three max_four min_four
set_option linter.unusedVariables false
set_option linter.unusedSimpArgs false
def spec_FillHoles.l0 : Nat → List (S44) → List (List (S44)) → Int → Option ((List (S44)) × Int)
 | 0, _, _, _ => none
 | k + 1, x5, x6, x7 => if x7 < (x6.length : Int) then (if 0 ≤ x7 then (if x5.length + (rd_L2 x6 x7).length < 8796093022208 then (spec_FillHoles.l0 k (x5 ++ (rd_L2 x6 x7)) x6 (wrap64 (x7 + 1))) else (none)) else (none)) else (if (x5.length : Int) > 40 then (some (([] : List (S44)), 3)) else ((spec_l02Sort.f k x5).bind fun t650 => (some (t650, 0))))
def spec_FillHoles.f (k : Nat) (l0 : List (S44)) : Option ((List (S44)) × Int) := (spec_l06Code.f k l0).bind fun t636 => (if t636 = 0 then ((some (([] : List (S44)) : List (S44))).bind fun y637 => (if y637.length + l0.length < 8796093022208 then ((spec_l06Holes.f k l0).bind fun t643 => (spec_FillHoles.l0 k (y637 ++ l0) t643 0)) else (none))) else (some (([] : List (S44)), t636)))
theorem spec_FillHoles.calls (k : Nat) (A0 : Option Addr) (c0 : Nat) (l0 : List (S44)) (r1 : List (S44)) (r2 : Int) (w : World) (hr0 : Kd.C k44 w A0 l0.length l0) (hc0 : l0.length ≤ c0) (h : spec_FillHoles.f k l0 = some (r1, r2)) :
  Calls Try.prog 25 #[.slice A0 l0.length c0] w fun e w' => ∃ v0_ : Value, e = .returned (.tuple #[v0_, .int .i64 r2]) ∧ Kd.R k44 44 w' w.heap.size (fun _ => True) v0_ r1 ∧ Below w.heap.size w w' := by
 have HR0 := aM hr0
 have HC0 := aM hc0
 clear hr0 hc0
 have HB := aM (Below.refl w.heap.size w)
 have H : ((spec_l06Code.f k l0).bind fun t636 => (if t636 = 0 then ((some (([] : List (S44)) : List (S44))).bind fun y637 => (if y637.length + l0.length < 8796093022208 then ((spec_l06Holes.f k l0).bind fun t643 => (spec_FillHoles.l0 k (y637 ++ l0) t643 0)) else (none))) else (some (([] : List (S44)), t636)))) = some (r1, r2) := h
 clear h
 replace H := Option.bind_eq_some_iff.mp H
 obtain ⟨t636, A20, H⟩ := H
 replace H : (if t636 = 0 then ((some (([] : List (S44)) : List (S44))).bind fun y637 => (if y637.length + l0.length < 8796093022208 then ((spec_l06Holes.f k l0).bind fun t643 => (spec_FillHoles.l0 k (y637 ++ l0) t643 0)) else (none))) else (some (([] : List (S44)), t636))) = some (r1, r2) := H
 have A2 := aM A20
 clear A20
 by_cases c3 : t636 = 0
 rotate_left
 ·rw [if_neg c3] at H
  have c3b0 : (t636 == 0) = false := beq_eq_false_iff_ne.mpr c3
  have c3b1 : (t636 != 0) = true := bne_iff_ne.mpr c3
  simp only [Option.some.injEq, Prod.mk.injEq] at H
  obtain ⟨rfl, rfl⟩ := H
  go_enter Try.func25, Try.ntmps25
  go_wp2_with (first | ((with_reducible refine gate_callee (f := 43) rfl ?_); refine goesL_ (some 9) rfl rfl Try.func43 (by kernel_rfl) rfl #[.slice A0 l0.length c0] rfl zm ?_; (with_reducible refine (spec_l06Code.calls k _ _ l0 t636 _ ?side1 ?side2 A2.out).mono ?_); (case side1 => repeat (first | exact HR0.out | (with_reducible refine Kd.C_alloc ?_ _) | (with_reducible refine Kd.C_drewN ?_ _) | (with_reducible refine Kd.C_drew ?_))); (case side2 => exact HC0.out); rintro e w23 ⟨rfl, hb⟩; refine ⟨_, rfl, ?_⟩; have n0_ := aM (below_step zb hb); clear HB; have HB := n0_; clear n0_; (try clear hb); (try clear hb2); (try clear hk); (try clear hi)))
  go_ret2
  exact ⟨_, zw, by first | exact Kd.R_nil _ _ _ _ _ | exact Kd.N_nil _ _ _ _ _ | exact Kd.V_nil _ _ _ _ _ | exact Kd.Q_nil _ _ _ _ _ | exact Kd.S_nil _ _ _ _ _, zb⟩
 rw [if_pos c3] at H
 have c3b0 : (t636 == 0) = true := beq_iff_eq.mpr c3
 have c3b1 : (t636 != 0) = false := bne_eq_false_iff_eq.mpr c3
 clear c3
 obtain ⟨y637, hy637⟩ : ∃ y_ : List (S44), y_ = (([] : List (S44))) := ⟨_, rfl⟩
 replace H : (if y637.length + l0.length < 8796093022208 then ((spec_l06Holes.f k l0).bind fun t643 => (spec_FillHoles.l0 k (y637 ++ l0) t643 0)) else (none)) = some (r1, r2) := zy H hy637
 have Ny637 := aM hy637
 clear hy637
 by_cases c4 : y637.length + l0.length < 8796093022208
 rotate_left
 ·rw [if_neg c4] at H
  exact absurd H (by simp)
 rw [if_pos c4] at H
 have LMc4 := aM c4
 clear c4
 obtain ⟨y640, hy640⟩ : ∃ y_ : List (S44), y_ = (y637 ++ l0) := ⟨_, rfl⟩
 replace H : ((spec_l06Holes.f k l0).bind fun t643 => (spec_FillHoles.l0 k y640 t643 0)) = some (r1, r2) := zy H hy640
 have Ny640 := aM hy640
 clear hy640
 replace H := Option.bind_eq_some_iff.mp H
 obtain ⟨t643, A50, H⟩ := H
 replace H : (spec_FillHoles.l0 k y640 t643 0) = some (r1, r2) := H
 have A5 := aM A50
 clear A50
 have H' := aM H
 clear H
 go_enter Try.func25, Try.ntmps25
 go_wp2_with (first | ((with_reducible refine gate_callee (f := 43) rfl ?_); refine goesL_ (some 9) rfl rfl Try.func43 (by kernel_rfl) rfl #[.slice A0 l0.length c0] rfl zm ?_; (with_reducible refine (spec_l06Code.calls k _ _ l0 t636 _ ?side1 ?side2 A2.out).mono ?_); (case side1 => repeat (first | exact HR0.out | (with_reducible refine Kd.C_alloc ?_ _) | (with_reducible refine Kd.C_drewN ?_ _) | (with_reducible refine Kd.C_drew ?_))); (case side2 => exact HC0.out); rintro e w6 ⟨rfl, hb⟩; refine ⟨_, rfl, ?_⟩; have n0_ := aM (below_step zb hb); clear HB; have HB := n0_; clear n0_; (try clear hb); (try clear hb2); (try clear hk); (try clear hi)) | ((with_reducible refine gate_dst (N := 13) rfl ?_); refine Kd.R_lit k44 _ 44 ?hg (N := 13) ?hd (xs := ([] : List (S44))) (inner := []) (ok := fun _ => True) (okp := fun _ => True) ?hr ?hp (fun _ hk => hk) trivial (Below.refl _ _) (Nat.le_refl _) (by simp) ?_; (case hd => rfl); (case hg => rfl); (case hr => first | (go_simp; done) | (go_simp; rfl)); (case hp => exact (Reps.none _ _)); intro v638 w7 ho8 hb hg_ hnew_; clear hg_ hnew_; (first | rw [← Ny637.out] at ho8 | (simp only [Int.reduceToNat] at ho8; rw [← Ny637.out] at ho8)); have n0_ := aM (Kd.R_lower ho8 (below_size zb)); have n1_ := aM (below_step zb hb); clear HB; have HO639 := n0_; have HB := n1_; clear n0_ n1_; clear hb ho8) | ((with_reducible refine gate_builtin (b := .append) (xs := #[.tmp 13, .tmp 14]) rfl ?_); at_builtin; refine Kd.R_append_rows k44 (w0 := w) w.heap.size rfl (.tmp 13) (.tmp 14) 26 44 (.agg #[(.int .i64 0), (.int .i64 0)]) 16 rfl Try.underlying26 info44 rfl (by decide) (by omega) v638 y637 l0 _ _ _ (fun _ => True) (fun _ => False) rfl rfl ?aO ?aR (fun _ _ h => h) (fun _ h => h.elim) ?aF ?aB ?aS ?aL ?_; (case aR => repeat (first | exact (Kd.C_below HR0.out HB.out) | (with_reducible refine Kd.C_alloc ?_ _) | (with_reducible refine Kd.C_drewN ?_ _) | (with_reducible refine Kd.C_drew ?_))); (case aB => exact zb); (case aF => exact (fun _ _ => trivial)); (case aO => exact (mR_ HO639.out)); (case aS => exact (below_size zb)); (case aL => have := LMc4.out; omega); intro v641 w9 ho hb hg hat; rw [← Ny640.out] at ho; have n0_ := aM (hb); have n1_ := aM (ho); clear HB HO639; have HB := n0_; have HO642 := n1_; clear n0_ n1_; clear ho hb hg hat) | ((with_reducible refine gate_callee (f := 44) rfl ?_); refine goesL_ (some 17) rfl rfl Try.func44 (by kernel_rfl) rfl #[.slice A0 l0.length c0] rfl zm ?_; (with_reducible refine (spec_l06Holes.calls k _ _ l0 t643 _ ?side1 ?side2 A5.out).mono ?_); (case side1 => repeat (first | exact (Kd.C_below HR0.out HB.out) | (with_reducible refine Kd.C_alloc ?_ _) | (with_reducible refine Kd.C_drewN ?_ _) | (with_reducible refine Kd.C_drew ?_))); (case side2 => exact HC0.out); rintro e w10 ⟨v644, rfl, ho0, hb⟩; refine ⟨_, rfl, ?_⟩; have n0_ := aM (Kd.R_below (mR_ HO642.out) hb); have n1_ := aM (Kd.S_lower (Kd.S_new' ho0 (Kd.R_lt (mR_ HO642.out))) (below_size zb)); have n2_ := aM (below_step zb hb); clear HO642 HB; have HO642 := n0_; have HO645 := n1_; have HB := n2_; clear n0_ n1_ n2_; (try clear hb); (try clear hb2); (try clear hk); (try clear hi); (try clear ho0)))
 go_loopg [5, 7] k (fun kq v5 v7 w' => ∃ (x5_1 : List (S44)) (x7_1 : Int), v7 = .int .i64 x7_1 ∧ Aside0 (spec_FillHoles.l0 kq x5_1 t643 x7_1 = some (r1, r2)) ∧ Aside0 (kq ≤ k) ∧ Aside0 (Kd.R k44 44 w' w.heap.size (fun _ => True) v5 x5_1) ∧ Aside0 (Kd.S (Kd.slice 44 k44) 26 w' w.heap.size (fun k_ => some k_ ≠ (v5 : Value).ownBlock) v644 t643) ∧ Aside0 (Below w.heap.size w w'))
 case atStart => exact ⟨(y640), (0), zr, H', ⟨Nat.le_refl _⟩, ⟨mR_ HO642.out⟩, ⟨zd3 HO645.out⟩, ⟨zb⟩⟩
 case round =>
  clear H'
  try clear c2
  try clear p2
  try clear c3
  try clear c3b0
  try clear c3b1
  try clear c4
  obtain ⟨x5_1, x7_1, rfl, HA, HK1, HO_5, HO_6, HB⟩ := hrel
  cases gk with
  | zero => exact absurd HA.out (by simp [spec_FillHoles.l0])
  | succ k1 =>
   have H := HA.out
   clear HA
   simp only [spec_FillHoles.l0] at H
   by_cases c11 : x7_1 < (t643.length : Int)
   rotate_left
   ·rw [if_neg c11] at H
    have c11b0 : decide (x7_1 < (t643.length : Int)) = false := decide_eq_false c11
    clear c11
    by_cases c16 : (x5_1.length : Int) > 40
    ·rw [if_pos c16] at H
     have c16b0 : decide (40 < (x5_1.length : Int)) = true := decide_eq_true c16
     have c16b1 : decide (40 < x5_1.length) = true := decide_eq_true (by omega)
     clear c16
     simp only [Option.some.injEq, Prod.mk.injEq] at H
     obtain ⟨rfl, rfl⟩ := H
     obtain ⟨Ao17, co17, eo17⟩ := Kd.S_slice HO_6.out
     subst eo17
     obtain ⟨Ao18, co18, eo18⟩ := Kd.R_slice HO_5.out
     subst eo18
     go_wp2
     go_ret2
     exact ⟨_, zw, by first | exact Kd.R_nil _ _ _ _ _ | exact Kd.N_nil _ _ _ _ _ | exact Kd.V_nil _ _ _ _ _ | exact Kd.Q_nil _ _ _ _ _ | exact Kd.S_nil _ _ _ _ _, zb⟩
    rw [if_neg c16] at H
    have c16b0 : decide (40 < (x5_1.length : Int)) = false := decide_eq_false c16
    have c16b1 : decide (40 < x5_1.length) = false := decide_eq_false (by omega)
    clear c16
    replace H := Option.bind_eq_some_iff.mp H
    obtain ⟨t650, A190, H⟩ := H
    replace H : (some (t650, 0)) = some (r1, r2) := H
    have A19 := aM A190
    clear A190
    simp only [Option.some.injEq, Prod.mk.injEq] at H
    obtain ⟨rfl, rfl⟩ := H
    obtain ⟨Ao20, co20, eo20⟩ := Kd.S_slice HO_6.out
    subst eo20
    obtain ⟨Ao21, co21, eo21⟩ := Kd.R_slice HO_5.out
    subst eo21
    go_wp2_with (first | ((with_reducible refine gate_callee (f := 47) rfl ?_); refine goesL_ (some 34) rfl rfl Try.func47 (by kernel_rfl) rfl #[.slice Ao21 x5_1.length co21] rfl zm ?_; (with_reducible refine (spec_l02Sort.calls k1 _ _ x5_1 t650 _ ?side1 ?side2 A19.out).mono ?_); (case side1 => exact zc HO_5.out); (case side2 => exact (Kd.R_reads' HO_5.out).2.1); rintro e w22 ⟨v651, rfl, ho0, hb⟩; refine ⟨_, rfl, ?_⟩; have n0_ := aM (Kd.R_elder' (mR_ HO_5.out) (Kd.R_base ho0) hb); have n1_ := aM (Kd.S_elder' (mS_ HO_6.out) (Kd.R_base ho0) hb); have n2_ := aM (Kd.R_lower (Kd.R_new' ho0 (Kd.R_lt (mR_ HO_5.out))) (below_size zb)); have n3_ := aM (below_step zb hb); clear HO_5 HO_6 HB; have HO_5 := n0_; have HO_6 := n1_; have HO652 := n2_; have HB := n3_; clear n0_ n1_ n2_ n3_; (try clear hb); (try clear hb2); (try clear hk); (try clear hi); (try clear ho0)))
    go_ret2
    exact ⟨_, zw, zd1 HO652.out, zb⟩
   rw [if_pos c11] at H
   have c11b0 : decide (x7_1 < (t643.length : Int)) = true := decide_eq_true c11
   clear c11
   by_cases c12 : 0 ≤ x7_1
   rotate_left
   ·rw [if_neg c12] at H
    exact absurd H (by simp)
   rw [if_pos c12] at H
   have c12b0 : decide (0 ≤ x7_1) = true := decide_eq_true c12
   clear c12
   by_cases c13 : x5_1.length + (rd_L2 t643 x7_1).length < 8796093022208
   rotate_left
   ·rw [if_neg c13] at H
    exact absurd H (by simp)
   rw [if_pos c13] at H
   have LMc13 := aM c13
   clear c13
   obtain ⟨y647, hy647⟩ : ∃ y_ : List (S44), y_ = (x5_1 ++ (rd_L2 t643 x7_1)) := ⟨_, rfl⟩
   replace H : (spec_FillHoles.l0 k1 y647 t643 (wrap64 (x7_1 + 1))) = some (r1, r2) := zy H hy647
   have Ny647 := aM hy647
   clear hy647
   have H' := aM H
   clear H
   obtain ⟨Ao14, co14, eo14⟩ := Kd.S_slice HO_6.out
   subst eo14
   have p646 : 0 ≤ (x7_1 : Int) := of_decide_eq_true za
   have q646 : x7_1 < (t643.length : Int) := of_decide_eq_true za
   obtain ⟨ad646, A646_0, c646_0, e646, hx646_0, hl646_0, hi646_0⟩ := at_L2 (Kd.S_reads' HO_6.out).2.2 x7_1 p646 q646
   cases e646
   obtain ⟨ce646, hce646, hMe646, hcc646⟩ := Kd.S_get HO_6.out [] x7_1 p646 (by first | exact q646 | exact of_decide_eq_true za | (have e_ := (Kd.S_reads' HO_6.out).1; omega))
   obtain ⟨ve646_0, rfl, ge646_0⟩ := hMe646
   have hv646_0 := hcc646 0 _ rfl
   rw [Nat.add_zero, show ((Kd.slice 44 k44)).sz = 1 from rfl, Nat.mul_one] at hv646_0
   replace hv646_0 := Option.some.inj (hv646_0.symm.trans hx646_0)
   rw [hv646_0] at ge646_0
   have HL646_0 := aM (show Kd.R k44 44 _ _ _ _ (rd_L2 t643 x7_1) from ge646_0)
   clear hv646_0 ge646_0
   clear hcc646 hce646
   have HR646_0 := aM hi646_0
   have HC646_0 := aM hl646_0
   clear hi646_0 hl646_0
   replace p646 := eq_true p646
   replace q646 := eq_true q646
   go_wp2_with (first | ((with_reducible refine gate_builtin (b := .append) (xs := #[.tmp 24, .tmp 28]) rfl ?_); at_builtin; refine Kd.R_append_rows k44 (w0 := w) w.heap.size rfl (.tmp 24) (.tmp 28) 26 44 (.agg #[(.int .i64 0), (.int .i64 0)]) 16 rfl Try.underlying26 info44 rfl (by decide) (by omega) u5 x5_1 (rd_L2 t643 x7_1) _ _ _ (fun _ => True) (fun _ => False) rfl rfl ?aO ?aR (fun _ _ h => h) (fun _ h => h.elim) ?aF ?aB ?aS ?aL ?_; (case aR => repeat (first | exact (mQ_ HR646_0.out) | (with_reducible refine Kd.C_alloc ?_ _) | (with_reducible refine Kd.C_drewN ?_ _) | (with_reducible refine Kd.C_drew ?_))); (case aB => exact zb); (case aF => exact (fun _ _ => trivial)); (case aO => exact (mR_ HO_5.out)); (case aS => exact (below_size zb)); (case aL => have := LMc13.out; omega); intro v648 w15 ho hb hg hat; rw [← Ny647.out] at ho; have n0_ := aM (Kd.S_after (ok := (fun _ => True)) (zd17 HO_6.out) hg hat); have n1_ := aM (Kd.R_after (ok := (fun k_ => some k_ ≠ (.slice (some ad646) t643.length co14 : Value).ownBlock)) (zd16 HL646_0.out) hg hat); have n2_ := aM (hb); have n3_ := aM (ho); clear HO_6 HL646_0 HB HO_5; have HO_6 := n0_; have HL646_0 := n1_; have HB := n2_; have HO649 := n3_; clear n0_ n1_ n2_ n3_; clear ho hb hg hat))
   go_roundg k1
   case measure => have := HK1.out; omega
   case rel => exact ⟨(y647), (wrap64 (x7_1 + 1)), zr, H', ⟨by have := HK1.out; omega⟩, ⟨mR_ HO649.out⟩, ⟨zd3 HO_6.out⟩, ⟨zb⟩⟩
def impl_Cell_48.f (l0 : List S44) : Option (List S44) := if l0.length ≤ 1000000000000 then some l0 else none
set_option maxHeartbeats 4000000 in
theorem impl_Cell_48.calls (A0 : Option Addr) (c0 : Nat) (l0 : List S44) (r : List S44) (w : World) (hr0 : Kd.C k44 w A0 l0.length l0) (hc0 : l0.length ≤ c0) (h : impl_Cell_48.f l0 = some r) :
    Calls Try.prog 48 #[.slice A0 l0.length c0] w fun e w' => ∃ v0_ : Value, e = .returned (v0_) ∧ Kd.R k44 44 w' w.heap.size (fun _ => True) v0_ r ∧ Below w.heap.size w w' := by
  unfold impl_Cell_48.f at h
  by_cases hl : l0.length ≤ 1000000000000
  · rw [if_pos hl] at h
    obtain rfl := Option.some.inj h
    have q22 : ∀ (w : World) (a : Option Addr) (n c n' c' : Nat), (binOp .eql 26 (.slice a n c) (.slice none n' c')).run Try.prog w = .ok (.bool a.isNone) w := fun w a n c n' c' => Lib.run_eql_slice_nil w _ _ a n c n' c' Try.underlying26
    have u22 : ∀ w, Sem.run Try.prog (underlying 26) w = .ok (TypeDesc.slice 44) w := run_underlying Try.underlying26
    cases A0 with
    | none =>
      have h0 : l0 = [] := by
        refine List.length_eq_zero_iff.1 (Nat.eq_zero_of_not_pos fun hp => ?_)
        obtain ⟨ad, he, _⟩ := hr0.2.2 hp
        cases he
      subst h0
      clear hr0
      go_enter Try.func48, Try.ntmps48
      go_wp2
      go_ret
      exact ⟨_, rfl, Kd.R_nil _ _ _ _ _, Below.refl _ _⟩
    | some ad =>
      obtain ⟨inner, hreps, hcell⟩ := ReadsRow.inner_ hr0
      obtain ⟨i0, hi, hzz⟩ := Option.map_eq_some_iff.1 info44
      simp only [Prod.mk.injEq] at hzz
      obtain ⟨hz0, hz1, hz2⟩ := hzz
      have hil : inner.length = l0.length * 2 := hreps.1
      have h1 : ∀ u ∈ inner, u.oneCell' = true := by
        intro u hu
        obtain ⟨j, hj, e⟩ := List.getElem_of_mem hu
        have hjl : j / 2 < l0.length := by omega
        have hk := hreps.2 (j / 2) l0[j / 2] (List.getElem?_eq_getElem hjl)
        refine k44.K_one hk u ?_
        refine List.mem_of_getElem? (i := j % 2) ?_
        rw [List.getElem?_take_of_lt (show j % 2 < k44.sz from Nat.mod_lt _ (by decide)), List.getElem?_drop]
        rw [show j / 2 * k44.sz + j % 2 = j from by show j / 2 * 2 + j % 2 = j; omega, List.getElem?_eq_getElem hj, e]
      have A := aM hcell
      have HR := aM hreps
      have H1 := aM h1
      clear hr0 hcell hreps h1
      go_enter Try.func48, Try.ntmps48
      go_wp2_with (at_builtin; refine wpList_append_own _ rfl _ _ 26 rfl w.heap.size 44 i0 _ 2 16 Try.underlying26 hi hz0 hz1 hz2 rfl (by decide) _ _ _ rfl (World.ownsRow_made w #[] 0 (Nat.le_refl _) (Nat.zero_le _) (by simp)) ad l0.length c0 inner rfl ?qc1 ?qc2 ?qc3 ?qc4 ?qc5 ?qc6 ?_)
      (try case qc1 => exact hil)
      case qc2 =>
        intro j u hj
        exact Lib.cell?_alloc_some _ (A.out j u hj)
      case qc3 => exact H1.out
      case qc4 => simp only [maxLen]; omega
      case qc5 => omega
      (try case qc6 => simp)
      intro v' w1 hown hgrow hnil
      go_wp2
      go_ret
      have hB : Below w.heap.size w w1 := ((Below.refl _ w).alloc (Nat.le_refl _) _).grown hgrow (by simp) (by intro k hk; simp [Value.ownBlock] at hk; omega)
      refine ⟨v', rfl, ⟨fun _ _ => trivial, inner, (show w1.ownsRow w.heap.size 44 2 v' l0.length inner by simpa using hown), HR.out.1, fun j p hp => ?_⟩, hB⟩
      obtain ⟨c1, c2, e, e1, e2⟩ := HR.out.2 j p hp
      exact ⟨c1, c2, e, e1, e2⟩
  · rw [if_neg hl] at h
    exact absurd h (by simp)
def sortC_lays_ren : Go.Shelf.Ren := ⟨fun | 6 => 70 | 15 => 79 | 14 => 78 | 28 => 90 | 29 => 91 | 20 => 82 | 21 => 83 | 22 => 84 | 23 => 85 | 24 => 86 | 25 => 87 | 26 => 88 | 27 => 89 | 46 => 92 | 47 => 93 | 48 => 94 | 49 => 95 | 50 => 96 | 57 => 97 | n => n, fun | 22 => 26 | 24 => 44 | 25 => 65 | 3 => 3 | 39 => 84 | 0 => 0 | 53 => 93 | 55 => 95 | 4 => 4 | 46 => 87 | 45 => 86 | 50 => 81 | 5 => 5 | 9 => 9 | 66 => 96 | 70 => 100 | 76 => 102 | 77 => 103 | n => n, fun n => n⟩
theorem sortC_lays : SlLaysF0.n6 Try.prog sortC_lays_ren where
  mixed := by kernel_rfl
  f6 := ⟨Try.f70.name, by kernel_rfl, Try.func70.trans (congrArg some (by kernel_rfl))⟩
  f14 := ⟨Try.f78.name, by kernel_rfl, Try.func78.trans (congrArg some (by kernel_rfl))⟩
  f15 := Try.func79.trans (congrArg some (by kernel_rfl))
  f20 := ⟨Try.f82.name, by kernel_rfl, Try.func82.trans (congrArg some (by kernel_rfl))⟩
  f21 := ⟨Try.f83.name, by kernel_rfl, Try.func83.trans (congrArg some (by kernel_rfl))⟩
  f22 := ⟨Try.f84.name, by kernel_rfl, Try.func84.trans (congrArg some (by kernel_rfl))⟩
  f23 := ⟨Try.f85.name, by kernel_rfl, Try.func85.trans (congrArg some (by kernel_rfl))⟩
  f24 := ⟨Try.f86.name, by kernel_rfl, Try.func86.trans (congrArg some (by kernel_rfl))⟩
  f25 := ⟨Try.f87.name, by kernel_rfl, Try.func87.trans (congrArg some (by kernel_rfl))⟩
  f26 := ⟨Try.f88.name, by kernel_rfl, Try.func88.trans (congrArg some (by kernel_rfl))⟩
  f27 := ⟨Try.f89.name, by kernel_rfl, Try.func89.trans (congrArg some (by kernel_rfl))⟩
  f28 := Try.func90.trans (congrArg some (by kernel_rfl))
  f29 := Try.func91.trans (congrArg some (by kernel_rfl))
  f46 := ⟨Try.f92.name, by kernel_rfl, Try.func92.trans (congrArg some (by kernel_rfl))⟩
  f47 := Try.func93.trans (congrArg some (by kernel_rfl))
  f48 := Try.func94.trans (congrArg some (by kernel_rfl))
  f49 := ⟨Try.f95.name, by kernel_rfl, Try.func95.trans (congrArg some (by kernel_rfl))⟩
  f50 := ⟨Try.f96.name, by kernel_rfl, Try.func96.trans (congrArg some (by kernel_rfl))⟩
  f57 := ⟨Try.f97.name, by kernel_rfl, Try.func97.trans (congrArg some (by kernel_rfl))⟩
  t0 := Try.underlying0
  a0 := Try.isAgg0
  z0 := Try.sizeOf0
  v0 := Try.zeroValue0
  t3 := Try.underlying3
  a3 := Try.isAgg3
  z3 := Try.sizeOf3
  v3 := Try.zeroValue3
  t4 := Try.underlying4
  a4 := Try.isAgg4
  z4 := Try.sizeOf4
  v4 := Try.zeroValue4
  t5 := Try.underlying5
  a5 := Try.isAgg5
  z5 := Try.sizeOf5
  v5 := Try.zeroValue5
  t9 := Try.underlying9
  a9 := Try.isAgg9
  z9 := Try.sizeOf9
  v9 := Try.zeroValue9
  t22 := Try.underlying26
  a22 := Try.isAgg26
  z22 := Try.sizeOf26
  v22 := Try.zeroValue26
  t25 := Try.underlying65
  a25 := Try.isAgg65
  z25 := Try.sizeOf65
  v25 := Try.zeroValue65
  t39 := Try.underlying84
  a39 := Try.isAgg84
  z39 := Try.sizeOf84
  v39 := Try.zeroValue84
  t45 := Try.underlying86
  a45 := Try.isAgg86
  z45 := Try.sizeOf86
  v45 := Try.zeroValue86
  t46 := Try.underlying87
  a46 := Try.isAgg87
  z46 := Try.sizeOf87
  v46 := Try.zeroValue87
  t50 := Try.underlying81
  a50 := Try.isAgg81
  z50 := Try.sizeOf81
  v50 := Try.zeroValue81
  t53 := Try.underlying93
  a53 := Try.isAgg93
  z53 := Try.sizeOf93
  v53 := Try.zeroValue93
  t55 := Try.underlying95
  a55 := Try.isAgg95
  z55 := Try.sizeOf95
  v55 := Try.zeroValue95
  t66 := Try.underlying96
  a66 := Try.isAgg96
  z66 := Try.sizeOf96
  v66 := Try.zeroValue96
  t70 := Try.underlying100
  a70 := Try.isAgg100
  z70 := Try.sizeOf100
  v70 := Try.zeroValue100
  t76 := Try.underlying102
  a76 := Try.isAgg102
  z76 := Try.sizeOf102
  v76 := Try.zeroValue102
  t77 := Try.underlying103
  a77 := Try.isAgg103
  z77 := Try.sizeOf103
  v77 := Try.zeroValue103
def cI (a b : Int) : Int := if a < b then -1 else if a > b then 1 else 0
def cmpV (x y : S44) : Int := if cI x.f1 y.f1 = 0 then cI x.f0 y.f0 else cI x.f1 y.f1
open Go.Sort
instance instSortC : Inhabited S44 := ⟨z44⟩
abbrev encC (x : S44) : List Value := [.int .i64 x.f0, .int .i64 x.f1]
theorem putRow_heap (w : World) (g : Nat) (F : Array Value) {cur : Array Value} {e : TypeId} {fr : Nat × Nat} (h : w.heap[g]? = some (.cells cur e fr)) : (Go.Sort.putRow id w g 0 F).heap[g]? = some (.cells (Go.Sort.putCells id 0 F cur) e fr) := by
  unfold Go.Sort.putRow Go.Sort.mapBlock
  rw [Array.getElem?_modify, if_pos rfl, h]
  rfl
theorem putCells_take (F cur : Array Value) (h : F.size ≤ cur.size) : (Go.Sort.putCells id 0 F cur).toList.take F.size = F.toList := by
  apply List.ext_getElem?
  intro i
  by_cases hi : i < F.size
  · rw [List.getElem?_take_of_lt hi]
    simp only [Go.Sort.putCells, Array.getElem?_toList, Array.getElem?_mapIdx]
    rw [Array.getElem?_eq_getElem (show i < cur.size by omega), Array.getElem?_eq_getElem hi, Option.map_some, if_pos (by omega)]
    simp [getElem!_pos F i hi]
  · rw [List.getElem?_eq_none (by simp; omega), List.getElem?_eq_none (by simp; omega)]
theorem own_put {w : World} {base g cap n size : Nat} {e : TypeId} {xs : List Value} (h : w.ownsRow base e size (.slice (some ⟨g, 0, none⟩) n cap) n xs) (F : Array Value) (hF : F.size = n * size) : (Go.Sort.putRow id w g 0 F).ownsRow base e size (.slice (some ⟨g, 0, none⟩) n cap) n F.toList := by
  obtain ⟨h1, h2⟩ := h
  refine ⟨by simpa using hF, ?_⟩
  rcases h2 with ⟨h2, _⟩ | ⟨g', cap', cur, h2, h3, h4, h5, h6, h7, h8⟩
  · cases h2
  · injection h2 with h2 _ h9
    injection h2 with h2
    injection h2 with h2
    subst h2 h9
    refine .inr ⟨g, cap, _, rfl, h3, putRow_heap w g F h4, h5, h6, by simpa [Go.Sort.putCells] using h7, ?_⟩
    rw [← hF]
    exact putCells_take F cur (by rw [hF, h7]; exact Nat.mul_le_mul_right _ h5)
theorem flat_get (d : Array S44) (t : Nat) (ht : t < d.size * 2) : (flatK encC 2 d).toList[t]? = (encC d[t / 2]!)[t % 2]? := by
  have hs : (flatK encC 2 d).size = d.size * 2 := size_flatK _ _ _
  have h := get_flatK encC 2 d t ht
  have ht' : t < (flatK encC 2 d).size := by rw [hs]; exact ht
  rw [Array.getElem?_toList, Array.getElem?_eq_getElem ht', ← getElem!_pos (flatK encC 2 d) t ht', h]
  have hm : t % 2 < (encC d[t / 2]!).length := Nat.mod_lt _ (by decide)
  rw [List.getElem?_eq_getElem hm, getElem!_pos (encC d[t / 2]!) (t % 2) hm]
theorem flat_reps (d : Array S44) (w : World) (base : Nat) (ok : Nat → Prop) : Reps (k44.M w base ok) 2 d.toList (flatK encC 2 d).toList := by
  refine ⟨by simp, fun j p hp => ?_⟩
  have hj : j < d.size := by
    have := List.getElem?_eq_some_iff.1 hp
    obtain ⟨h, _⟩ := this
    simpa using h
  have e : ((flatK encC 2 d).toList.drop (j * 2)).take 2 = encC p := by
    apply List.ext_getElem?
    intro i
    by_cases hi : i < 2
    · rw [List.getElem?_take_of_lt hi, List.getElem?_drop, flat_get d (j * 2 + i) (by omega)]
      have e1 : (j * 2 + i) / 2 = j := by omega
      have e2 : (j * 2 + i) % 2 = i := by omega
      rw [e1, e2]
      have e3 : d[j]! = p := by
        rw [getElem!_pos d j hj]
        rw [Array.getElem?_toList, Array.getElem?_eq_getElem hj] at hp
        exact Option.some.inj hp
      rw [e3]
    · rw [List.getElem?_eq_none (by simp; omega), List.getElem?_eq_none (by simp; omega)]
  rw [e]
  exact ⟨_, _, rfl, rfl, rfl⟩
theorem R_putK {w : World} {base g cap : Nat} {ok : Nat → Prop} {xs : List S44} (h : Kd.R k44 44 w base ok (.slice (some ⟨g, 0, none⟩) xs.length cap) xs) (d : Array S44) (hd : d.size = xs.length) : Kd.R k44 44 (putRowK encC 2 w g 0 d) base ok (.slice (some ⟨g, 0, none⟩) xs.length cap) d.toList := by
  obtain ⟨h1, inner, h2, h3⟩ := h
  have hl : d.toList.length = xs.length := by simpa using hd
  refine ⟨h1, (flatK encC 2 d).toList, ?_, flat_reps d _ _ _⟩
  rw [hl]
  exact own_put h2 _ (by rw [size_flatK, hd]; rfl)
theorem R_holds {w : World} {base g cap : Nat} {ok : Nat → Prop} {xs : List S44} (h : Kd.R k44 44 w base ok (.slice (some ⟨g, 0, none⟩) xs.length cap) xs) : HoldsK encC 2 w g 0 xs.toArray := by
  obtain ⟨h1, inner, ⟨h2, h3⟩, h4, h5⟩ := h
  rcases h3 with ⟨h3, _⟩ | ⟨g', cap', cur, h3, h6, h7, h8, h9, h10, h11⟩
  · cases h3
  · injection h3 with h3 _ h12
    injection h3 with h3
    injection h3 with h3
    subst h3 h12
    intro t ht
    rw [size_flatK] at ht
    have ht2 : t < xs.length * 2 := by simpa using ht
    refine ⟨?_, by rw [Nat.zero_add]; exact blk_frozen h7 t⟩
    rw [Nat.zero_add, blk_cell h7 t]
    have e1 : cur[t]? = inner[t]? := by
      rw [← h11, List.getElem?_take_of_lt (by exact ht2), Array.getElem?_toList]
    have hj : t / 2 < xs.length := by omega
    obtain ⟨c1, c2, hc, hc1, hc2⟩ := h5 (t / 2) xs[t / 2] (List.getElem?_eq_getElem hj)
    have e2 : inner[t]? = (encC xs[t / 2])[t % 2]? := by
      have e3 : ((inner.drop (t / 2 * 2)).take 2)[t % 2]? = inner[t]? := by
        rw [List.getElem?_take_of_lt (Nat.mod_lt _ (by decide)), List.getElem?_drop]
        congr 1
        omega
      rw [← e3]
      have : (inner.drop (t / 2 * 2)).take 2 = encC xs[t / 2] := by
        refine hc.trans ?_
        rw [show c1 = [.int .i64 (xs[t / 2]).f0] from hc1, show c2 = [.int .i64 (xs[t / 2]).f1] from hc2]
        rfl
      rw [this]
    have ht' : t < (flatK encC 2 xs.toArray).size := by rw [size_flatK]; exact ht
    have e4 := flat_get xs.toArray t ht
    rw [Array.getElem?_toList, Array.getElem?_eq_getElem ht'] at e4
    rw [e1, e2]
    have e5 : xs.toArray[t / 2]! = xs[t / 2] := by rw [getElem!_pos xs.toArray (t / 2) (by simpa using hj)]; simp
    rw [e5] at e4
    rw [← e4, getElem!_pos _ t ht']
    rfl
theorem cI_eq (a b : Int) : cmp_Compare_int64.f a b = some (cI a b) := by
  unfold cmp_Compare_int64.f cmp_isNaN_int64.f cI
  simp only [bne_self_eq_false, Option.bind_some, Bool.false_eq_true, if_false]
  split
  · rfl
  · split <;> rfl
theorem cmpV_eq (x y : S44) : impl_compareCells.f x.f0 x.f1 y.f0 y.f1 = some (cmpV x y) := by
  unfold impl_compareCells.f cmpV
  simp only [cI_eq, Option.bind_some]
  split <;> rfl
theorem ltV (x y : S44) : ltOf cmpV x y = decide (x.f1 < y.f1 ∨ x.f1 = y.f1 ∧ x.f0 < y.f0) := by
  unfold ltOf cmpV cI
  rw [Bool.eq_iff_iff]
  rw [decide_eq_true_eq (p := x.f1 < y.f1 ∨ x.f1 = y.f1 ∧ x.f0 < y.f0)]
  constructor
  · intro h
    rw [decide_eq_true_eq] at h
    repeat' split at h
    all_goals omega
  · intro h
    rw [decide_eq_true_eq]
    repeat' split
    all_goals omega
theorem swoV : SWO (ltOf cmpV) where
  irrefl x := by rw [ltV]; simp
  trans x y z h1 h2 := by
    rw [ltV] at *
    simp only [decide_eq_true_eq] at *
    omega
  ntrans x y z h1 h2 := by
    rw [ltV] at *
    simp only [decide_eq_false_iff_not] at *
    omega
theorem antiV (x y : S44) (h1 : ltOf cmpV x y = false) (h2 : ltOf cmpV y x = false) : x = y := by
  rw [ltV] at *
  simp only [decide_eq_false_iff_not] at *
  obtain ⟨a, b⟩ := x
  obtain ⟨c, d⟩ := y
  simp only [S44.mk.injEq]
  simp only at h1 h2
  omega
def sortC (l : List S44) : List S44 := l.mergeSort fun x y => !ltOf cmpV y x
theorem sortW_grown (w : World) (g n : Nat) (d : Array S44) (os : Array Obj) : w.grownBy (sortWorldK encC 2 w g 0 n d os) (some g) := by
  refine ⟨rfl, rfl, rfl, ?_, fun k hk hne => ?_⟩
  · show w.heap.size ≤ ((w.heap.modify g _) ++ os).size
    simp
  · show ((w.heap.modify g _) ++ os)[k]? = w.heap[k]?
    rw [Array.getElem?_append_left (by simpa using hk), Array.getElem?_modify, if_neg]
    intro e
    exact hne (by rw [e])
theorem R_growO {w : World} {base : Nat} {ok : Nat → Prop} {v : Value} {xs : List S44} (h : Kd.R k44 44 w base ok v xs) (os : Array Obj) : Kd.R k44 44 (grow w os) base ok v xs := by
  refine Kd.R_mono (Kd.R_move (Kd.R_bound h) (fun k hk => ?_)) (fun _ hk => hk.1)
  show (w.heap ++ os)[k]? = w.heap[k]?
  rw [Array.getElem?_append_left hk.2.2.1]
def impl_Cell_70__impl_compareCells.f (l0 : List S44) : Option (List S44) := if 0 < l0.length ∧ l0.length < 4611686018427387904 then some (sortC l0) else none
set_option maxHeartbeats 4000000 in
theorem impl_Cell_70__impl_compareCells.calls (P0_ : Nat → Prop) (u9000_ : Value) (l0 : List S44) (r : List S44) (w0 w : World) (hB : Below w0.heap.size w0 w) (ho0 : Kd.R k44 44 w w0.heap.size P0_ u9000_ l0) (h : impl_Cell_70__impl_compareCells.f l0 = some r) :
    Calls Try.prog 70 #[u9000_, .func (.func 56) #[] #[]] w fun e w' => e = .returned (.tuple #[]) ∧ Kd.R k44 44 w' w0.heap.size (fun k_ => (P0_ k_ ∨ w.heap.size ≤ k_)) u9000_ r ∧ Below w0.heap.size w0 w' ∧ Kept w w' (fun k_ => P0_ k_) := by
  unfold impl_Cell_70__impl_compareCells.f at h
  by_cases hl : 0 < l0.length ∧ l0.length < 4611686018427387904
  · rw [if_pos hl] at h
    obtain rfl := Option.some.inj h
    obtain ⟨g, cap, rfl, hbase, hlt, hcells⟩ := Kd.R_form ho0 hl.1
    have hH := R_holds ho0
    have eg : ∀ args w, (callFunc 56 args).run Try.prog w = .ok (.enter 56 args) w := enters_of Try.func56 (by kernel_rfl) rfl
    have hcmp : CmpLays Try.prog 56 #[] encC 2 cmpV g 0 l0.toArray.size w := fun m os dk hdk x y =>
      (impl_compareCells.callsG x.f0 x.f1 y.f0 y.f1 (cmpV x y) _ (cmpV_eq x y)).mono fun _ _ hh => ⟨hh.1, hh.2.gr⟩
    have hcon := AnyQ.slices_SortFunc sortC_lays 2 Try.isAgg44 Try.sizeOf44 encC (fun _ => rfl) (fun x v hv => by simp [encC] at hv; rcases hv with rfl | rfl <;> rfl) cmpV swoV 56 #[] g 0 cap l0.toArray w eg hcmp hH hlt (by simpa using hl.2)
    have hsz : l0.toArray.size = l0.length := by simp
    rw [hsz] at hcon
    refine (show Calls Try.prog 70 #[.slice (some ⟨g, 0, none⟩) l0.length cap, .func (.func 56) #[] #[]] w _ from hcon).mono ?_
    rintro e w' ⟨rfl, d', n, os, hp, hs, rfl⟩
    have hd : d'.size = l0.length := by rw [hp.1]; simp
    have hr : d'.toList = sortC l0 := by
      have := sorted_unique_holds swoV antiV l0.toArray d' (by rw [hsz]; exact hp) (by rw [hsz]; exact hs)
      simpa [sortC] using this
    have hgw := sortW_grown w g n d' os
    refine ⟨rfl, ?_, pw_below_grown hB (some g) hB.size hgw (fun k hk => by injection hk with hk; exact hk ▸ hbase), ?_⟩
    · have h1 : Kd.R k44 44 (Go.Sort.ahead w n) w0.heap.size P0_ (.slice (some ⟨g, 0, none⟩) l0.length cap) l0 := Kd.R_drewN ho0 n
      have h2 := R_growO (R_putK h1 d' hd) os
      rw [hr] at h2
      exact Kd.R_mono h2 (fun _ hk => .inl hk)
    · refine ⟨hgw.size, fun i hi hn => hgw.block i hi ?_⟩
      intro e
      injection e with e
      exact hn (e ▸ ho0.1 g rfl)
  · rw [if_neg hl] at h
    exact absurd h (by simp)
def impl_sorted.f (l0 : List (S44)) : Option ((List (S44))) := (impl_Cell_48.f l0).bind fun t653 => ((impl_Cell_70__impl_compareCells.f t653).bind fun t656 => (some t656))
theorem impl_sorted.calls (A0 : Option Addr) (c0 : Nat) (l0 : List (S44)) (r : List (S44)) (w : World) (hr0 : Kd.C k44 w A0 l0.length l0) (hc0 : l0.length ≤ c0) (h : impl_sorted.f l0 = some r) :
  Calls Try.prog 49 #[.slice A0 l0.length c0] w fun e w' => ∃ v0_ : Value, e = .returned (v0_) ∧ Kd.R k44 44 w' w.heap.size (fun _ => True) v0_ r ∧ Below w.heap.size w w' := by
 have HR0 := aM hr0
 have HC0 := aM hc0
 clear hr0 hc0
 have HB := aM (Below.refl w.heap.size w)
 have H : ((impl_Cell_48.f l0).bind fun t653 => ((impl_Cell_70__impl_compareCells.f t653).bind fun t656 => (some t656))) = some r := h
 clear h
 replace H := Option.bind_eq_some_iff.mp H
 obtain ⟨t653, A20, H⟩ := H
 replace H : ((impl_Cell_70__impl_compareCells.f t653).bind fun t656 => (some t656)) = some r := H
 have A2 := aM A20
 clear A20
 replace H := Option.bind_eq_some_iff.mp H
 obtain ⟨t656, A30, H⟩ := H
 replace H : (some t656) = some r := H
 have A3 := aM A30
 clear A30
 obtain rfl := Option.some.inj H
 go_enter Try.func49, Try.ntmps49
 go_wp2_with (first | ((with_reducible refine gate_callee (f := 48) rfl ?_); refine goesL_ (some 5) rfl rfl Try.func48 (by kernel_rfl) rfl #[.slice A0 l0.length c0] rfl zm ?_; (with_reducible refine (impl_Cell_48.calls _ _ l0 t653 _ ?side1 ?side2 A2.out).mono ?_); (case side1 => repeat (first | exact HR0.out | (with_reducible refine Kd.C_alloc ?_ _) | (with_reducible refine Kd.C_drewN ?_ _) | (with_reducible refine Kd.C_drew ?_))); (case side2 => exact HC0.out); rintro e w4 ⟨v654, rfl, ho0, hb⟩; refine ⟨_, rfl, ?_⟩; have n0_ := aM (Kd.R_lower ho0 (below_size zb)); have n1_ := aM (below_step zb hb); clear HB; have HO655 := n0_; have HB := n1_; clear n0_ n1_; (try clear hb); (try clear hb2); (try clear hk); (try clear hi); (try clear ho0); obtain ⟨Ao5, co5, eo5⟩ := Kd.R_slice HO655.out; subst eo5) | ((with_reducible refine gate_callee (f := 70) rfl ?_); refine goesL_ (some 7) rfl rfl Try.func70 (by kernel_rfl) rfl #[.slice Ao5 t653.length co5, .func (.func 56) #[] #[]] rfl zm ?_; (with_reducible refine (impl_Cell_70__impl_compareCells.calls (fun k_ => some k_ = (.slice Ao5 t653.length co5 : Value).ownBlock) (.slice Ao5 t653.length co5) t653  t656 w _ ?side1 ?side2 A3.out).mono ?_); (case side1 => repeat (first | (with_reducible first | exact HB.out | apply below_alloc | apply pw_below_drewN | apply below_drew1) | exact HB.out)); (case side2 => exact Kd.R_tight rfl HO655.out); rintro e w6 ⟨rfl, hy0, hb, hkp⟩; refine ⟨_, rfl, ?_⟩; have n0_ := aM (Kd.R_reok rfl hy0 (fun k_ e_ => HO655.out.1 k_ e_)); have n1_ := aM (hb); clear HO655 HB; have HO655 := n0_; have HB := n1_; clear n0_ n1_; (try clear hb); (try clear hkp); (try clear hy0)))
 go_ret
 exact ⟨_, zw, mR_ HO655.out, zb⟩
def impl_FillHoles.l0 : Nat → List (S44) → List (List (S44)) → Int → Int → Option ((List (S44)) × Int)
 | 0, _, _, _, _ => none
 | k + 1, x5, x16, x17, x18 => if x18 < x17 then (if 0 ≤ x18 then (if x18 < (x16.length : Int) then (if x5.length + (rd_L2 x16 x18).length < 8796093022208 then (impl_FillHoles.l0 k (x5 ++ (rd_L2 x16 x18)) x16 x17 (wrap64 (x18 + 1))) else (none)) else (none)) else (none)) else ((impl_sorted.f x5).bind fun t668 => ((impl_IsShape.f k t668).bind fun t671 => (if t671 = true then (some (t668, 0)) else (some (([] : List (S44)), 3)))))
def impl_FillHoles.f (k : Nat) (l0 : List (S44)) : Option ((List (S44)) × Int) := (impl_shapeCode.f k l0).bind fun t657 => (if t657 = 0 then ((impl_Cell_48.f l0).bind fun t658 => ((impl_holes.f k l0).bind fun t661 => (impl_FillHoles.l0 k t658 t661 (t661.length : Int) 0))) else (some (([] : List (S44)), t657)))
theorem impl_FillHoles.calls (k : Nat) (A0 : Option Addr) (c0 : Nat) (l0 : List (S44)) (r1 : List (S44)) (r2 : Int) (w : World) (hr0 : Kd.C k44 w A0 l0.length l0) (hc0 : l0.length ≤ c0) (h : impl_FillHoles.f k l0 = some (r1, r2)) :
  Calls Try.prog 26 #[.slice A0 l0.length c0] w fun e w' => ∃ v0_ : Value, e = .returned (.tuple #[v0_, .int .i64 r2]) ∧ Kd.R k44 44 w' w.heap.size (fun _ => True) v0_ r1 ∧ Below w.heap.size w w' := by
 have HR0 := aM hr0
 have HC0 := aM hc0
 clear hr0 hc0
 have HB := aM (Below.refl w.heap.size w)
 have H : ((impl_shapeCode.f k l0).bind fun t657 => (if t657 = 0 then ((impl_Cell_48.f l0).bind fun t658 => ((impl_holes.f k l0).bind fun t661 => (impl_FillHoles.l0 k t658 t661 (t661.length : Int) 0))) else (some (([] : List (S44)), t657)))) = some (r1, r2) := h
 clear h
 replace H := Option.bind_eq_some_iff.mp H
 obtain ⟨t657, A20, H⟩ := H
 replace H : (if t657 = 0 then ((impl_Cell_48.f l0).bind fun t658 => ((impl_holes.f k l0).bind fun t661 => (impl_FillHoles.l0 k t658 t661 (t661.length : Int) 0))) else (some (([] : List (S44)), t657))) = some (r1, r2) := H
 have A2 := aM A20
 clear A20
 by_cases c3 : t657 = 0
 rotate_left
 ·rw [if_neg c3] at H
  have c3b0 : (t657 == 0) = false := beq_eq_false_iff_ne.mpr c3
  have c3b1 : (t657 != 0) = true := bne_iff_ne.mpr c3
  simp only [Option.some.injEq, Prod.mk.injEq] at H
  obtain ⟨rfl, rfl⟩ := H
  go_enter Try.func26, Try.ntmps26
  go_wp2_with (first | ((with_reducible refine gate_callee (f := 45) rfl ?_); refine goesL_ (some 9) rfl rfl Try.func45 (by kernel_rfl) rfl #[.slice A0 l0.length c0] rfl zm ?_; (with_reducible refine (impl_shapeCode.calls k _ _ l0 t657 _ ?side1 ?side2 A2.out).mono ?_); (case side1 => repeat (first | exact HR0.out | (with_reducible refine Kd.C_alloc ?_ _) | (with_reducible refine Kd.C_drewN ?_ _) | (with_reducible refine Kd.C_drew ?_))); (case side2 => exact HC0.out); rintro e w26 ⟨rfl, hb⟩; refine ⟨_, rfl, ?_⟩; have n0_ := aM (below_step zb hb); clear HB; have HB := n0_; clear n0_; (try clear hb); (try clear hb2); (try clear hk); (try clear hi)))
  go_ret2
  exact ⟨_, zw, by first | exact Kd.R_nil _ _ _ _ _ | exact Kd.N_nil _ _ _ _ _ | exact Kd.V_nil _ _ _ _ _ | exact Kd.Q_nil _ _ _ _ _ | exact Kd.S_nil _ _ _ _ _, zb⟩
 rw [if_pos c3] at H
 have c3b0 : (t657 == 0) = true := beq_iff_eq.mpr c3
 have c3b1 : (t657 != 0) = false := bne_eq_false_iff_eq.mpr c3
 clear c3
 replace H := Option.bind_eq_some_iff.mp H
 obtain ⟨t658, A40, H⟩ := H
 replace H : ((impl_holes.f k l0).bind fun t661 => (impl_FillHoles.l0 k t658 t661 (t661.length : Int) 0)) = some (r1, r2) := H
 have A4 := aM A40
 clear A40
 replace H := Option.bind_eq_some_iff.mp H
 obtain ⟨t661, A50, H⟩ := H
 replace H : (impl_FillHoles.l0 k t658 t661 (t661.length : Int) 0) = some (r1, r2) := H
 have A5 := aM A50
 clear A50
 have H' := aM H
 clear H
 go_enter Try.func26, Try.ntmps26
 go_wp2_with (first | ((with_reducible refine gate_callee (f := 45) rfl ?_); refine goesL_ (some 9) rfl rfl Try.func45 (by kernel_rfl) rfl #[.slice A0 l0.length c0] rfl zm ?_; (with_reducible refine (impl_shapeCode.calls k _ _ l0 t657 _ ?side1 ?side2 A2.out).mono ?_); (case side1 => repeat (first | exact HR0.out | (with_reducible refine Kd.C_alloc ?_ _) | (with_reducible refine Kd.C_drewN ?_ _) | (with_reducible refine Kd.C_drew ?_))); (case side2 => exact HC0.out); rintro e w6 ⟨rfl, hb⟩; refine ⟨_, rfl, ?_⟩; have n0_ := aM (below_step zb hb); clear HB; have HB := n0_; clear n0_; (try clear hb); (try clear hb2); (try clear hk); (try clear hi)) | ((with_reducible refine gate_callee (f := 48) rfl ?_); refine goesL_ (some 14) rfl rfl Try.func48 (by kernel_rfl) rfl #[.slice A0 l0.length c0] rfl zm ?_; (with_reducible refine (impl_Cell_48.calls _ _ l0 t658 _ ?side1 ?side2 A4.out).mono ?_); (case side1 => repeat (first | exact (Kd.C_below HR0.out HB.out) | (with_reducible refine Kd.C_alloc ?_ _) | (with_reducible refine Kd.C_drewN ?_ _) | (with_reducible refine Kd.C_drew ?_))); (case side2 => exact HC0.out); rintro e w7 ⟨v659, rfl, ho0, hb⟩; refine ⟨_, rfl, ?_⟩; have n0_ := aM (Kd.R_lower ho0 (below_size zb)); have n1_ := aM (below_step zb hb); clear HB; have HO660 := n0_; have HB := n1_; clear n0_ n1_; (try clear hb); (try clear hb2); (try clear hk); (try clear hi); (try clear ho0)) | ((with_reducible refine gate_callee (f := 46) rfl ?_); refine goesL_ (some 16) rfl rfl Try.func46 (by kernel_rfl) rfl #[.slice A0 l0.length c0] rfl zm ?_; (with_reducible refine (impl_holes.calls k _ _ l0 t661 _ ?side1 ?side2 A5.out).mono ?_); (case side1 => repeat (first | exact (Kd.C_below HR0.out HB.out) | (with_reducible refine Kd.C_alloc ?_ _) | (with_reducible refine Kd.C_drewN ?_ _) | (with_reducible refine Kd.C_drew ?_))); (case side2 => exact HC0.out); rintro e w8 ⟨v662, rfl, ho0, hb⟩; refine ⟨_, rfl, ?_⟩; have n0_ := aM (Kd.R_below (mR_ HO660.out) hb); have n1_ := aM (Kd.N_lower (Kd.N_mono (ok' := fun k_ => some k_ ≠ (v659 : Value).ownBlock) ho0 (fun k_ hk_ => (Kd.fresh' (Kd.R_lt (mR_ HO660.out)) k_ hk_))) (below_size zb)); have n2_ := aM (below_step zb hb); clear HO660 HB; have HO660 := n0_; have HO663 := n1_; have HB := n2_; clear n0_ n1_ n2_; (try clear hb); (try clear hb2); (try clear hk); (try clear hi); (try clear ho0); obtain ⟨Ao9, co9, eo9⟩ := Kd.N_slice HO663.out; subst eo9))
 go_loopg [5, 18] k (fun kq v5 v18 w' => ∃ (x5_1 : List (S44)) (x18_1 : Int), v18 = .int .i64 x18_1 ∧ Aside0 (impl_FillHoles.l0 kq x5_1 t661 (t661.length : Int) x18_1 = some (r1, r2)) ∧ Aside0 (kq ≤ k) ∧ Aside0 (Kd.R k44 44 w' w.heap.size (fun _ => True) v5 x5_1) ∧ Aside0 (Kd.N (Kd.slice 44 k44) 26 w' w.heap.size (fun k_ => some k_ ≠ (v5 : Value).ownBlock) (.slice Ao9 t661.length co9) t661) ∧ Aside0 (Below w.heap.size w w'))
 case atStart => exact ⟨(t658), (0), zr, H', ⟨Nat.le_refl _⟩, ⟨mR_ HO660.out⟩, ⟨mN_ HO663.out⟩, ⟨zb⟩⟩
 case round =>
  clear H'
  try clear c2
  try clear p2
  try clear c3
  try clear c3b0
  try clear c3b1
  try clear c4
  obtain ⟨x5_1, x18_1, rfl, HA, HK1, HO_5, HO_16, HB⟩ := hrel
  cases gk with
  | zero => exact absurd HA.out (by simp [impl_FillHoles.l0])
  | succ k1 =>
   have H := HA.out
   clear HA
   simp only [impl_FillHoles.l0] at H
   by_cases c10 : x18_1 < (t661.length : Int)
   rotate_left
   ·rw [if_neg c10] at H
    have c10b0 : decide (x18_1 < (t661.length : Int)) = false := decide_eq_false c10
    clear c10
    replace H := Option.bind_eq_some_iff.mp H
    obtain ⟨t668, A150, H⟩ := H
    replace H : ((impl_IsShape.f k1 t668).bind fun t671 => (if t671 = true then (some (t668, 0)) else (some (([] : List (S44)), 3)))) = some (r1, r2) := H
    have A15 := aM A150
    clear A150
    replace H := Option.bind_eq_some_iff.mp H
    obtain ⟨t671, A160, H⟩ := H
    replace H : (if t671 = true then (some (t668, 0)) else (some (([] : List (S44)), 3))) = some (r1, r2) := H
    have A16 := aM A160
    clear A160
    by_cases c17 : t671 = true
    ·subst c17
     have H1 : (some (t668, 0)) = some (r1, r2) := by rw [if_pos rfl] at H; exact H
     clear H
     have H := H1
     clear H1
     simp only [Option.some.injEq, Prod.mk.injEq] at H
     obtain ⟨rfl, rfl⟩ := H
     obtain ⟨Ao18, co18, eo18⟩ := Kd.R_slice HO_5.out
     subst eo18
     go_wp2_with (first | ((with_reducible refine gate_callee (f := 49) rfl ?_); refine goesL_ (some 27) rfl rfl Try.func49 (by kernel_rfl) rfl #[.slice Ao18 x5_1.length co18] rfl zm ?_; (with_reducible refine (impl_sorted.calls _ _ x5_1 t668 _ ?side1 ?side2 A15.out).mono ?_); (case side1 => exact zc HO_5.out); (case side2 => exact (Kd.R_reads' HO_5.out).2.1); rintro e w19 ⟨v669, rfl, ho0, hb⟩; refine ⟨_, rfl, ?_⟩; have n0_ := aM (Kd.R_elder' (mR_ HO_5.out) (Kd.R_base ho0) hb); have n1_ := aM (Kd.N_elder' (mN_ HO_16.out) (Kd.R_base ho0) hb); have n2_ := aM (Kd.R_lower (Kd.R_new' ho0 (Kd.R_lt (mR_ HO_5.out))) (below_size zb)); have n3_ := aM (below_step zb hb); clear HO_5 HO_16 HB; have HO_5 := n0_; have HO_16 := n1_; have HO670 := n2_; have HB := n3_; clear n0_ n1_ n2_ n3_; (try clear hb); (try clear hb2); (try clear hk); (try clear hi); (try clear ho0); obtain ⟨Ao20, co20, eo20⟩ := Kd.R_slice HO670.out; subst eo20) | ((with_reducible refine gate_callee (f := 35) rfl ?_); refine goesL_ (some 29) rfl rfl Try.func35 (by kernel_rfl) rfl #[.slice Ao20 t668.length co20] rfl zm ?_; (with_reducible refine (impl_IsShape.calls k1 _ _ t668 true _ ?side1 ?side2 A16.out).mono ?_); (case side1 => exact zc HO670.out); (case side2 => exact (Kd.R_reads' HO670.out).2.1); rintro e w21 ⟨rfl, hb⟩; refine ⟨_, rfl, ?_⟩; have n0_ := aM (Kd.R_below (mR_ HO_5.out) hb); have n1_ := aM (Kd.N_below (mN_ HO_16.out) hb); have n2_ := aM (Kd.R_below (mR_ HO670.out) hb); have n3_ := aM (below_step zb hb); clear HO_5 HO_16 HO670 HB; have HO_5 := n0_; have HO_16 := n1_; have HO670 := n2_; have HB := n3_; clear n0_ n1_ n2_ n3_; (try clear hb); (try clear hb2); (try clear hk); (try clear hi)))
     go_ret2
     exact ⟨_, zw, zd1 HO670.out, zb⟩
    replace c17 := Bool.eq_false_iff.mpr c17
    subst c17
    have H1 : (some (([] : List (S44)), 3)) = some (r1, r2) := by rw [if_neg (show ¬ (false = true) by decide)] at H; exact H
    clear H
    have H := H1
    clear H1
    simp only [Option.some.injEq, Prod.mk.injEq] at H
    obtain ⟨rfl, rfl⟩ := H
    obtain ⟨Ao22, co22, eo22⟩ := Kd.R_slice HO_5.out
    subst eo22
    go_wp2_with (first | ((with_reducible refine gate_callee (f := 49) rfl ?_); refine goesL_ (some 27) rfl rfl Try.func49 (by kernel_rfl) rfl #[.slice Ao22 x5_1.length co22] rfl zm ?_; (with_reducible refine (impl_sorted.calls _ _ x5_1 t668 _ ?side1 ?side2 A15.out).mono ?_); (case side1 => exact zc HO_5.out); (case side2 => exact (Kd.R_reads' HO_5.out).2.1); rintro e w23 ⟨v669, rfl, ho0, hb⟩; refine ⟨_, rfl, ?_⟩; have n0_ := aM (Kd.R_elder' (mR_ HO_5.out) (Kd.R_base ho0) hb); have n1_ := aM (Kd.N_elder' (mN_ HO_16.out) (Kd.R_base ho0) hb); have n2_ := aM (Kd.R_lower (Kd.R_new' ho0 (Kd.R_lt (mR_ HO_5.out))) (below_size zb)); have n3_ := aM (below_step zb hb); clear HO_5 HO_16 HB; have HO_5 := n0_; have HO_16 := n1_; have HO670 := n2_; have HB := n3_; clear n0_ n1_ n2_ n3_; (try clear hb); (try clear hb2); (try clear hk); (try clear hi); (try clear ho0); obtain ⟨Ao24, co24, eo24⟩ := Kd.R_slice HO670.out; subst eo24) | ((with_reducible refine gate_callee (f := 35) rfl ?_); refine goesL_ (some 29) rfl rfl Try.func35 (by kernel_rfl) rfl #[.slice Ao24 t668.length co24] rfl zm ?_; (with_reducible refine (impl_IsShape.calls k1 _ _ t668 false _ ?side1 ?side2 A16.out).mono ?_); (case side1 => exact zc HO670.out); (case side2 => exact (Kd.R_reads' HO670.out).2.1); rintro e w25 ⟨rfl, hb⟩; refine ⟨_, rfl, ?_⟩; have n0_ := aM (Kd.R_below (mR_ HO_5.out) hb); have n1_ := aM (Kd.N_below (mN_ HO_16.out) hb); have n2_ := aM (Kd.R_below (mR_ HO670.out) hb); have n3_ := aM (below_step zb hb); clear HO_5 HO_16 HO670 HB; have HO_5 := n0_; have HO_16 := n1_; have HO670 := n2_; have HB := n3_; clear n0_ n1_ n2_ n3_; (try clear hb); (try clear hb2); (try clear hk); (try clear hi)))
    go_ret2
    exact ⟨_, zw, by first | exact Kd.R_nil _ _ _ _ _ | exact Kd.N_nil _ _ _ _ _ | exact Kd.V_nil _ _ _ _ _ | exact Kd.Q_nil _ _ _ _ _ | exact Kd.S_nil _ _ _ _ _, zb⟩
   rw [if_pos c10] at H
   have c10b0 : decide (x18_1 < (t661.length : Int)) = true := decide_eq_true c10
   clear c10
   by_cases c11 : 0 ≤ x18_1
   rotate_left
   ·rw [if_neg c11] at H
    exact absurd H (by simp)
   rw [if_pos c11] at H
   have c11b0 : decide (0 ≤ x18_1) = true := decide_eq_true c11
   clear c11
   by_cases c12 : x18_1 < (t661.length : Int)
   rotate_left
   ·rw [if_neg c12] at H
    exact absurd H (by simp)
   rw [if_pos c12] at H
   have c12b0 : decide (x18_1 < (t661.length : Int)) = true := decide_eq_true c12
   clear c12
   by_cases c13 : x5_1.length + (rd_L2 t661 x18_1).length < 8796093022208
   rotate_left
   ·rw [if_neg c13] at H
    exact absurd H (by simp)
   rw [if_pos c13] at H
   have LMc13 := aM c13
   clear c13
   obtain ⟨y665, hy665⟩ : ∃ y_ : List (S44), y_ = (x5_1 ++ (rd_L2 t661 x18_1)) := ⟨_, rfl⟩
   replace H : (impl_FillHoles.l0 k1 y665 t661 (t661.length : Int) (wrap64 (x18_1 + 1))) = some (r1, r2) := zy H hy665
   have Ny665 := aM hy665
   clear hy665
   have H' := aM H
   clear H
   have p664 : 0 ≤ (x18_1 : Int) := of_decide_eq_true za
   have q664 : x18_1 < (t661.length : Int) := of_decide_eq_true za
   obtain ⟨ad664, A664_0, c664_0, e664, hx664_0, hl664_0, hi664_0⟩ := at_L2 (Kd.N_reads' HO_16.out).2.2 x18_1 p664 q664
   cases e664
   obtain ⟨ce664, hce664, hMe664, hcc664⟩ := Kd.N_get HO_16.out [] x18_1 p664 (by first | exact q664 | exact of_decide_eq_true za | (have e_ := (Kd.N_reads' HO_16.out).1; omega))
   obtain ⟨ua664_0, uc664_0, rfl, ul664_0, ge664_0⟩ := Kd.FK_slice_open hMe664
   have hv664_0 := hcc664 0 _ rfl
   rw [Nat.add_zero, show ((Kd.slice 44 k44)).sz = 1 from rfl, Nat.mul_one] at hv664_0
   replace hv664_0 := Option.some.inj (hv664_0.symm.trans hx664_0)
   injection hv664_0 with hva_ hvn_ hvc_
   rw [hva_] at ge664_0
   rw [hvc_] at ul664_0
   have HL664_0 := aM (show Kd.V k44 44 _ w.heap.size _ _ (rd_L2 t661 x18_1) from Kd.V_mk ul664_0 ge664_0)
   clear hva_ hvn_ hvc_ ge664_0 ul664_0
   clear hcc664 hce664
   have HR664_0 := aM hi664_0
   have HC664_0 := aM hl664_0
   clear hi664_0 hl664_0
   replace p664 := eq_true p664
   replace q664 := eq_true q664
   go_wp2_with (first | ((with_reducible refine gate_builtin (b := .append) (xs := #[.tmp 22, .tmp 23]) rfl ?_); at_builtin; refine Kd.R_append_rows k44 (w0 := w) w.heap.size rfl (.tmp 22) (.tmp 23) 26 44 (.agg #[(.int .i64 0), (.int .i64 0)]) 16 rfl Try.underlying26 info44 rfl (by decide) (by omega) u5 x5_1 (rd_L2 t661 x18_1) _ _ _ (fun _ => True) (fun _ => False) rfl rfl ?aO ?aR (fun _ _ h => h) (fun _ h => h.elim) ?aF ?aB ?aS ?aL ?_; (case aR => repeat (first | exact (mQ_ HR664_0.out) | (with_reducible refine Kd.C_alloc ?_ _) | (with_reducible refine Kd.C_drewN ?_ _) | (with_reducible refine Kd.C_drew ?_))); (case aB => exact zb); (case aF => exact (fun _ _ => trivial)); (case aO => exact (mR_ HO_5.out)); (case aS => exact (below_size zb)); (case aL => have := LMc13.out; omega); intro v666 w14 ho hb hg hat; rw [← Ny665.out] at ho; have n0_ := aM (Kd.N_afterv (ok := (fun _ => True)) (zd19 HO_16.out) hg hat); have n1_ := aM (Kd.V_afterv (ok := (fun k_ => some k_ ≠ (.slice (some ad664) t661.length co9 : Value).ownBlock)) (zd18 HL664_0.out) hg hat); have n2_ := aM (hb); have n3_ := aM (ho); clear HO_16 HL664_0 HB HO_5; have HO_16 := n0_; have HL664_0 := n1_; have HB := n2_; have HO667 := n3_; clear n0_ n1_ n2_ n3_; clear ho hb hg hat))
   go_roundg k1
   case measure => have := HK1.out; omega
   case rel => exact ⟨(y665), (wrap64 (x18_1 + 1)), zr, H', ⟨by have := HK1.out; omega⟩, ⟨mR_ HO667.out⟩, ⟨zd20 HO_16.out⟩, ⟨zb⟩⟩
end Go.Proofs.Ytaecheolnpofeaa.F
end
section
namespace Go.Proofs.Ytaecheolnpofeaa.F
open Go.RowKit Go.Proofs.YtaecheolnpofeaaW.PrintWords Go.Proofs.YtaecheolnpofeaaW.PrintLast Go.Proofs.YtaecheolnpofeaaW.PrintMore
attribute [local go_sem] max2_int min2_int max_two min_two max_three min_three max_four min_four
set_option linter.unusedVariables false
set_option linter.unusedSimpArgs false
def laws_heldCellS.l0 : Nat → List (S44) → Int → Int → Option (Int)
 | 0, _, _, _ => none
 | k + 1, x0, x1, x5 => if x5 < (x0.length : Int) then (if 0 ≤ x5 then (if ((rd_T44 x0 x5).f0) = x1 then (if ((rd_T44 x0 x5).f1) = (wrap64 (x1 + 1)) then (laws_heldCellS.l0 k x0 (wrap64 ((wrap64 (x1 + 1)) + 1)) (wrap64 (x5 + 1))) else (some (-1))) else (some (-1))) else (none)) else (some x1)
def laws_heldCellS.f (k : Nat) (l0 : List (S44)) (a1 : Int) : Option (Int) := laws_heldCellS.l0 k l0 a1 0
theorem laws_heldCellS.calls (k : Nat) (A0 : Option Addr) (c0 : Nat) (l0 : List (S44)) (a1 : Int) (r : Int) (w : World) (hr0 : Kd.C k44 w A0 l0.length l0) (hc0 : l0.length ≤ c0) (h : laws_heldCellS.f k l0 a1 = some r) :
  Calls Try.prog 27 #[.slice A0 l0.length c0, .int .i64 a1] w fun e w' => e = .returned (.int .i64 r) ∧ Drawn0 w w' := by
 have HR0 := aM hr0
 have HC0 := aM hc0
 clear hr0 hc0
 have H : (laws_heldCellS.l0 k l0 a1 0) = some r := h
 clear h
 have H' := aM H
 clear H
 go_enter Try.func27, Try.ntmps27
 go_wp2
 go_loopg [1, 5] k (fun kq v1 v5 w' => ∃ (x1_1 : Int) (x5_1 : Int), v1 = .int .i64 x1_1 ∧ v5 = .int .i64 x5_1 ∧ Aside0 (laws_heldCellS.l0 kq l0 x1_1 x5_1 = some r) ∧ Aside0 (kq ≤ k) ∧ Drawn0 w w')
 case atStart => exact ⟨(a1), (0), zr, zr, H', ⟨Nat.le_refl _⟩, by repeat (first | exact Drawn0.refl _ | apply Drawn0.step)⟩
 case round =>
  clear H'
  try clear c2
  try clear p2
  obtain ⟨x1_1, x5_1, rfl, rfl, HA, HK1, ⟨m1, rfl⟩⟩ := hrel
  cases gk with
  | zero => exact absurd HA.out (by simp [laws_heldCellS.l0])
  | succ k1 =>
   have H := HA.out
   clear HA
   simp only [laws_heldCellS.l0] at H
   by_cases c3 : x5_1 < (l0.length : Int)
   rotate_left
   ·rw [if_neg c3] at H
    have c3b0 : decide (x5_1 < (l0.length : Int)) = false := decide_eq_false c3
    clear c3
    obtain rfl := Option.some.inj H
    go_wp2
    go_ret
    exact ⟨by first | rfl | (simp; done) | (simp [*]; done), by repeat (first | exact Drawn0.refl _ | apply Drawn0.step)⟩
   rw [if_pos c3] at H
   have c3b0 : decide (x5_1 < (l0.length : Int)) = true := decide_eq_true c3
   clear c3
   by_cases c4 : 0 ≤ x5_1
   rotate_left
   ·rw [if_neg c4] at H
    exact absurd H (by simp)
   rw [if_pos c4] at H
   have c4b0 : decide (0 ≤ x5_1) = true := decide_eq_true c4
   clear c4
   by_cases c5 : ((rd_T44 l0 x5_1).f0) = x1_1
   rotate_left
   ·rw [if_neg c5] at H
    have c5b0 : (((rd_T44 l0 x5_1).f0) == x1_1) = false := beq_eq_false_iff_ne.mpr c5
    have c5b1 : (((rd_T44 l0 x5_1).f0) != x1_1) = true := bne_iff_ne.mpr c5
    obtain rfl := Option.some.inj H
    have p672 : 0 ≤ (x5_1 : Int) := of_decide_eq_true za
    have q672 : x5_1 < (l0.length : Int) := of_decide_eq_true za
    obtain ⟨ad672, e672, hx672_0, hx672_1⟩ := at_T44 HR0.out x5_1 p672 q672
    cases e672
    replace p672 := eq_true p672
    replace q672 := eq_true q672
    go_wp2
    go_ret
    exact ⟨by first | rfl | (simp; done) | (simp [*]; done), by repeat (first | exact Drawn0.refl _ | apply Drawn0.step)⟩
   rw [if_pos c5] at H
   have c5b0 : (((rd_T44 l0 x5_1).f0) == x1_1) = true := beq_iff_eq.mpr c5
   have c5b1 : (((rd_T44 l0 x5_1).f0) != x1_1) = false := bne_eq_false_iff_eq.mpr c5
   clear c5
   by_cases c6 : ((rd_T44 l0 x5_1).f1) = (wrap64 (x1_1 + 1))
   rotate_left
   ·rw [if_neg c6] at H
    have c6b0 : (((rd_T44 l0 x5_1).f1) == (wrap64 (x1_1 + 1))) = false := beq_eq_false_iff_ne.mpr c6
    have c6b1 : (((rd_T44 l0 x5_1).f1) != (wrap64 (x1_1 + 1))) = true := bne_iff_ne.mpr c6
    obtain rfl := Option.some.inj H
    have p672 : 0 ≤ (x5_1 : Int) := of_decide_eq_true za
    have q672 : x5_1 < (l0.length : Int) := of_decide_eq_true za
    obtain ⟨ad672, e672, hx672_0, hx672_1⟩ := at_T44 HR0.out x5_1 p672 q672
    cases e672
    replace p672 := eq_true p672
    replace q672 := eq_true q672
    have p673 : 0 ≤ (x5_1 : Int) := of_decide_eq_true za
    have q673 : x5_1 < (l0.length : Int) := of_decide_eq_true za
    obtain ⟨ad673, e673, hx673_0, hx673_1⟩ := at_T44 HR0.out x5_1 p673 q673
    obtain rfl : ad672 = ad673 := (by injection e673)
    replace p673 := eq_true p673
    replace q673 := eq_true q673
    go_wp2
    go_ret
    exact ⟨by first | rfl | (simp; done) | (simp [*]; done), by repeat (first | exact Drawn0.refl _ | apply Drawn0.step)⟩
   rw [if_pos c6] at H
   have c6b0 : (((rd_T44 l0 x5_1).f1) == (wrap64 (x1_1 + 1))) = true := beq_iff_eq.mpr c6
   have c6b1 : (((rd_T44 l0 x5_1).f1) != (wrap64 (x1_1 + 1))) = false := bne_eq_false_iff_eq.mpr c6
   clear c6
   have H' := aM H
   clear H
   have p672 : 0 ≤ (x5_1 : Int) := of_decide_eq_true za
   have q672 : x5_1 < (l0.length : Int) := of_decide_eq_true za
   obtain ⟨ad672, e672, hx672_0, hx672_1⟩ := at_T44 HR0.out x5_1 p672 q672
   cases e672
   replace p672 := eq_true p672
   replace q672 := eq_true q672
   have p673 : 0 ≤ (x5_1 : Int) := of_decide_eq_true za
   have q673 : x5_1 < (l0.length : Int) := of_decide_eq_true za
   obtain ⟨ad673, e673, hx673_0, hx673_1⟩ := at_T44 HR0.out x5_1 p673 q673
   obtain rfl : ad672 = ad673 := (by injection e673)
   replace p673 := eq_true p673
   replace q673 := eq_true q673
   go_wp2
   go_roundg k1
   case measure => have := HK1.out; omega
   case rel => exact ⟨(wrap64 ((wrap64 (x1_1 + 1)) + 1)), (wrap64 (x5_1 + 1)), zr, zr, H', ⟨by have := HK1.out; omega⟩, by repeat (first | exact Drawn0.refl _ | apply Drawn0.step)⟩
mutual
def laws_FnExactFillHoles.j0 : Nat → List (S48) → List (S44) → Int → List (S44) → List (S44) → Int → Bool → Option (Bool)
 | 0, _, _, _, _, _, _, _ => none
 | k + 1, x0, x4, x5, x6, x7, x8, x40 => if x40 = true then (some false) else ((laws_toCellS.f k x0).bind fun t690 => ((laws_eqCellS.f k x6 t690).bind fun t693 => (if t693 = true then ((laws_markCellS.f k x6 1).bind fun bt694 => (if bt694.1 < 0 then (laws_FnExactFillHoles.j1 k x0 x4 x5 x7 true) else ((laws_eqCellS.f k x7 x4).bind fun t696 => (if t696 = true then (laws_FnExactFillHoles.j1 k x0 x4 x5 x7 (x8 != x5)) else (laws_FnExactFillHoles.j1 k x0 x4 x5 x7 true))))) else (some false))))
def laws_FnExactFillHoles.j1 : Nat → List (S48) → List (S44) → Int → List (S44) → Bool → Option (Bool)
 | 0, _, _, _, _, _ => none
 | k + 1, x0, x4, x5, x7, x61 => if x61 = true then (some false) else ((laws_markCellS.f k x7 1).bind fun bt697 => ((laws_heldCellS.f k bt697.2 1).bind fun t699 => (if t699 < 0 then (some false) else (if t699 = bt697.1 then ((laws_toCellS.f k x0).bind fun t700 => ((impl_FillHoles.f k t700).bind fun bt703 => ((laws_eqCellS.f k bt703.1 x4).bind fun t707 => (if t707 = true then (laws_FnExactFillHoles.j2 k bt697.2 bt697.1 (bt703.2 != x5)) else (laws_FnExactFillHoles.j2 k bt697.2 bt697.1 true))))) else (some false)))))
def laws_FnExactFillHoles.j2 : Nat → List (S44) → Int → Bool → Option (Bool)
 | 0, _, _, _ => none
 | k + 1, x7, x10, x87 => if x87 = true then (some false) else ((laws_heldCellS.f k x7 1).bind fun t708 => (if t708 < 0 then (some false) else (if t708 = x10 then (some true) else (some false))))
end
def laws_FnExactFillHoles.f (k : Nat) (l0 : List (S48)) : Option (Bool) := (laws_szCellS.f l0 1048576).bind fun t674 => (if t674 < 0 then (some true) else ((laws_toCellS.f k l0).bind fun t675 => ((spec_FillHoles.f k t675).bind fun bt678 => ((laws_toCellS.f k l0).bind fun t682 => ((impl_FillHoles.f k t682).bind fun bt685 => ((laws_eqCellS.f k bt685.1 bt678.1).bind fun t689 => (if t689 = true then (laws_FnExactFillHoles.j0 k l0 bt678.1 bt678.2 t682 bt685.1 bt685.2 (bt685.2 != bt678.2)) else (laws_FnExactFillHoles.j0 k l0 bt678.1 bt678.2 t682 bt685.1 bt685.2 true))))))))
theorem laws_FnExactFillHoles.calls (k : Nat) (A0 : Option Addr) (c0 : Nat) (l0 : List (S48)) (r : Bool) (w : World) (hr0 : Kd.C k48 w A0 l0.length l0) (hc0 : l0.length ≤ c0) (h : laws_FnExactFillHoles.f k l0 = some r) :
  Calls Try.prog 6 #[.slice A0 l0.length c0] w fun e w' => e = .returned (.bool r) ∧ Below w.heap.size w w' := by
 have HR0 := aM hr0
 have HC0 := aM hc0
 clear hr0 hc0
 have HB := aM (Below.refl w.heap.size w)
 have H : ((laws_szCellS.f l0 1048576).bind fun t674 => (if t674 < 0 then (some true) else ((laws_toCellS.f k l0).bind fun t675 => ((spec_FillHoles.f k t675).bind fun bt678 => ((laws_toCellS.f k l0).bind fun t682 => ((impl_FillHoles.f k t682).bind fun bt685 => ((laws_eqCellS.f k bt685.1 bt678.1).bind fun t689 => (if t689 = true then (laws_FnExactFillHoles.j0 k l0 bt678.1 bt678.2 t682 bt685.1 bt685.2 (bt685.2 != bt678.2)) else (laws_FnExactFillHoles.j0 k l0 bt678.1 bt678.2 t682 bt685.1 bt685.2 true))))))))) = some r := h
 clear h
 replace H := Option.bind_eq_some_iff.mp H
 obtain ⟨t674, A20, H⟩ := H
 replace H : (if t674 < 0 then (some true) else ((laws_toCellS.f k l0).bind fun t675 => ((spec_FillHoles.f k t675).bind fun bt678 => ((laws_toCellS.f k l0).bind fun t682 => ((impl_FillHoles.f k t682).bind fun bt685 => ((laws_eqCellS.f k bt685.1 bt678.1).bind fun t689 => (if t689 = true then (laws_FnExactFillHoles.j0 k l0 bt678.1 bt678.2 t682 bt685.1 bt685.2 (bt685.2 != bt678.2)) else (laws_FnExactFillHoles.j0 k l0 bt678.1 bt678.2 t682 bt685.1 bt685.2 true)))))))) = some r := H
 have A2 := aM A20
 clear A20
 by_cases c3 : t674 < 0
 ·rw [if_pos c3] at H
  have c3b0 : decide (t674 < 0) = true := decide_eq_true c3
  clear c3
  obtain rfl := Option.some.inj H
  go_enter Try.func6, Try.ntmps6
  go_wp2_with (first | ((with_reducible refine gate_callee (f := 8) rfl ?_); refine goesL_ (some 16) rfl rfl Try.func8 (by kernel_rfl) rfl #[.slice A0 l0.length c0, .int .i64 1048576] rfl zm ?_; (with_reducible refine (laws_szCellS.calls _ _ l0 1048576 t674 _ ?side1 ?side2 A2.out).mono ?_); (case side1 => repeat (first | exact HR0.out | (with_reducible refine Kd.C_alloc ?_ _) | (with_reducible refine Kd.C_drewN ?_ _) | (with_reducible refine Kd.C_drew ?_))); (case side2 => exact HC0.out); rintro e w' ⟨rfl, ⟨nd, rfl⟩⟩; refine ⟨_, rfl, ?_⟩))
  go_ret
  exact ⟨zw, zb⟩
 rw [if_neg c3] at H
 have c3b0 : decide (t674 < 0) = false := decide_eq_false c3
 clear c3
 replace H := Option.bind_eq_some_iff.mp H
 obtain ⟨t675, A40, H⟩ := H
 replace H : ((spec_FillHoles.f k t675).bind fun bt678 => ((laws_toCellS.f k l0).bind fun t682 => ((impl_FillHoles.f k t682).bind fun bt685 => ((laws_eqCellS.f k bt685.1 bt678.1).bind fun t689 => (if t689 = true then (laws_FnExactFillHoles.j0 k l0 bt678.1 bt678.2 t682 bt685.1 bt685.2 (bt685.2 != bt678.2)) else (laws_FnExactFillHoles.j0 k l0 bt678.1 bt678.2 t682 bt685.1 bt685.2 true)))))) = some r := H
 have A4 := aM A40
 clear A40
 replace H := Option.bind_eq_some_iff.mp H
 obtain ⟨⟨t678, t679⟩, A50, H⟩ := H
 replace H : ((laws_toCellS.f k l0).bind fun t682 => ((impl_FillHoles.f k t682).bind fun bt685 => ((laws_eqCellS.f k bt685.1 t678).bind fun t689 => (if t689 = true then (laws_FnExactFillHoles.j0 k l0 t678 t679 t682 bt685.1 bt685.2 (bt685.2 != t679)) else (laws_FnExactFillHoles.j0 k l0 t678 t679 t682 bt685.1 bt685.2 true))))) = some r := H
 have A5 := aM A50
 clear A50
 replace H := Option.bind_eq_some_iff.mp H
 obtain ⟨t682, A60, H⟩ := H
 replace H : ((impl_FillHoles.f k t682).bind fun bt685 => ((laws_eqCellS.f k bt685.1 t678).bind fun t689 => (if t689 = true then (laws_FnExactFillHoles.j0 k l0 t678 t679 t682 bt685.1 bt685.2 (bt685.2 != t679)) else (laws_FnExactFillHoles.j0 k l0 t678 t679 t682 bt685.1 bt685.2 true)))) = some r := H
 have A6 := aM A60
 clear A60
 replace H := Option.bind_eq_some_iff.mp H
 obtain ⟨⟨t685, t686⟩, A70, H⟩ := H
 replace H : ((laws_eqCellS.f k t685 t678).bind fun t689 => (if t689 = true then (laws_FnExactFillHoles.j0 k l0 t678 t679 t682 t685 t686 (t686 != t679)) else (laws_FnExactFillHoles.j0 k l0 t678 t679 t682 t685 t686 true))) = some r := H
 have A7 := aM A70
 clear A70
 have HC8 := aM H
 clear H
 go_enter Try.func6, Try.ntmps6
 go_upto_region 8 with (first | ((with_reducible refine gate_callee (f := 8) rfl ?_); refine goesL_ (some 16) rfl rfl Try.func8 (by kernel_rfl) rfl #[.slice A0 l0.length c0, .int .i64 1048576] rfl zm ?_; (with_reducible refine (laws_szCellS.calls _ _ l0 1048576 t674 _ ?side1 ?side2 A2.out).mono ?_); (case side1 => repeat (first | exact HR0.out | (with_reducible refine Kd.C_alloc ?_ _) | (with_reducible refine Kd.C_drewN ?_ _) | (with_reducible refine Kd.C_drew ?_))); (case side2 => exact HC0.out); rintro e w' ⟨rfl, ⟨nd, rfl⟩⟩; refine ⟨_, rfl, ?_⟩) | ((with_reducible refine gate_callee (f := 10) rfl ?_); refine goesL_ (some 21) rfl rfl Try.func10 (by kernel_rfl) rfl #[.slice A0 l0.length c0] rfl zm ?_; (with_reducible refine (laws_toCellS.calls k _ _ l0 t675 _ ?side1 ?side2 A4.out).mono ?_); (case side1 => repeat (first | exact HR0.out | (with_reducible refine Kd.C_alloc ?_ _) | (with_reducible refine Kd.C_drewN ?_ _) | (with_reducible refine Kd.C_drew ?_))); (case side2 => exact HC0.out); rintro e w9 ⟨v676, rfl, ho0, hb⟩; refine ⟨_, rfl, ?_⟩; have n0_ := aM (Kd.R_lower ho0 (below_size zb)); have n1_ := aM (below_step zb hb); clear HB; have HO677 := n0_; have HB := n1_; clear n0_ n1_; (try clear hb); (try clear hb2); (try clear hk); (try clear hi); (try clear ho0); obtain ⟨Ao10, co10, eo10⟩ := Kd.R_slice HO677.out; subst eo10) | ((with_reducible refine gate_callee (f := 25) rfl ?_); refine goesL_ (some 22) rfl rfl Try.func25 (by kernel_rfl) rfl #[.slice Ao10 t675.length co10] rfl zm ?_; (with_reducible refine (spec_FillHoles.calls k _ _ t675 t678 t679 _ ?side1 ?side2 A5.out).mono ?_); (case side1 => exact zc HO677.out); (case side2 => exact (Kd.R_reads' HO677.out).2.1); rintro e w11 ⟨v680, rfl, ho0, hb⟩; refine ⟨_, rfl, ?_⟩; have n0_ := aM (Kd.R_elder' (mR_ HO677.out) (Kd.R_base ho0) hb); have n1_ := aM (Kd.R_lower (Kd.R_new' ho0 (Kd.R_lt (mR_ HO677.out))) (below_size zb)); have n2_ := aM (below_step zb hb); clear HO677 HB; have HO677 := n0_; have HO681 := n1_; have HB := n2_; clear n0_ n1_ n2_; (try clear hb); (try clear hb2); (try clear hk); (try clear hi); (try clear ho0)) | ((with_reducible refine gate_callee (f := 10) rfl ?_); refine goesL_ (some 26) rfl rfl Try.func10 (by kernel_rfl) rfl #[.slice A0 l0.length c0] rfl zm ?_; (with_reducible refine (laws_toCellS.calls k _ _ l0 t682 _ ?side1 ?side2 A6.out).mono ?_); (case side1 => repeat (first | exact (Kd.C_below HR0.out HB.out) | (with_reducible refine Kd.C_alloc ?_ _) | (with_reducible refine Kd.C_drewN ?_ _) | (with_reducible refine Kd.C_drew ?_))); (case side2 => exact HC0.out); rintro e w12 ⟨v683, rfl, ho0, hb⟩; refine ⟨_, rfl, ?_⟩; have n0_ := aM (Kd.R_elder' (mR_ HO677.out) (Kd.R_base ho0) hb); have n1_ := aM (Kd.R_elder' (mR_ HO681.out) (Kd.R_base ho0) hb); have n2_ := aM (Kd.R_lower (Kd.R_new' (Kd.R_new' ho0 (Kd.R_lt (mR_ HO677.out))) (Kd.R_lt (mR_ HO681.out))) (below_size zb)); have n3_ := aM (below_step zb hb); clear HO677 HO681 HB; have HO677 := n0_; have HO681 := n1_; have HO684 := n2_; have HB := n3_; clear n0_ n1_ n2_ n3_; (try clear hb); (try clear hb2); (try clear hk); (try clear hi); (try clear ho0); obtain ⟨Ao13, co13, eo13⟩ := Kd.R_slice HO684.out; subst eo13) | ((with_reducible refine gate_callee (f := 26) rfl ?_); refine goesL_ (some 29) rfl rfl Try.func26 (by kernel_rfl) rfl #[.slice Ao13 t682.length co13] rfl zm ?_; (with_reducible refine (impl_FillHoles.calls k _ _ t682 t685 t686 _ ?side1 ?side2 A7.out).mono ?_); (case side1 => exact zc HO684.out); (case side2 => exact (Kd.R_reads' HO684.out).2.1); rintro e w14 ⟨v687, rfl, ho0, hb⟩; refine ⟨_, rfl, ?_⟩; have n0_ := aM (Kd.R_elder' (mR_ HO677.out) (Kd.R_base ho0) hb); have n1_ := aM (Kd.R_elder' (mR_ HO681.out) (Kd.R_base ho0) hb); have n2_ := aM (Kd.R_elder' (mR_ HO684.out) (Kd.R_base ho0) hb); have n3_ := aM (Kd.R_lower (Kd.R_new' (Kd.R_new' (Kd.R_new' ho0 (Kd.R_lt (mR_ HO677.out))) (Kd.R_lt (mR_ HO681.out))) (Kd.R_lt (mR_ HO684.out))) (below_size zb)); have n4_ := aM (below_step zb hb); clear HO677 HO681 HO684 HB; have HO677 := n0_; have HO681 := n1_; have HO684 := n2_; have HO688 := n3_; have HB := n4_; clear n0_ n1_ n2_ n3_ n4_; (try clear hb); (try clear hb2); (try clear hk); (try clear hi); (try clear ho0)))
 (try simp only [Act.put, xA, xB, xC])
 go_cut [40] (fun v40 wc => ∃ (kq : Nat) (x40_7 : Bool), v40 = .bool x40_7 ∧ Aside0 (laws_FnExactFillHoles.j0 kq l0 t678 t679 t682 t685 t686 x40_7 = some r) ∧ Aside0 (kq ≤ k) ∧ Aside0 (Kd.R k44 44 wc w.heap.size (fun k_ => some k_ ≠ ((.slice Ao13 t682.length co13) : Value).ownBlock ∧ some k_ ≠ (v687 : Value).ownBlock) v680 t678) ∧ Aside0 (Kd.R k44 44 wc w.heap.size (fun k_ => some k_ ≠ (v680 : Value).ownBlock ∧ some k_ ≠ (v687 : Value).ownBlock) (.slice Ao13 t682.length co13) t682) ∧ Aside0 (Kd.R k44 44 wc w.heap.size (fun k_ => some k_ ≠ (v680 : Value).ownBlock ∧ some k_ ≠ ((.slice Ao13 t682.length co13) : Value).ownBlock) v687 t685) ∧ Aside0 (Below w.heap.size w wc))
 case first =>
  have H := HC8.out
  clear HC8
  replace H := Option.bind_eq_some_iff.mp H
  obtain ⟨t689, A150, H⟩ := H
  replace H : (if t689 = true then (laws_FnExactFillHoles.j0 k l0 t678 t679 t682 t685 t686 (t686 != t679)) else (laws_FnExactFillHoles.j0 k l0 t678 t679 t682 t685 t686 true)) = some r := H
  have A15 := aM A150
  clear A150
  by_cases c16 : t689 = true
  ·subst c16
   have H1 : (laws_FnExactFillHoles.j0 k l0 t678 t679 t682 t685 t686 (t686 != t679)) = some r := by rw [if_pos rfl] at H; exact H
   clear H
   have H := H1
   clear H1
   have H' := aM H
   clear H
   obtain ⟨Ao17, co17, eo17⟩ := Kd.R_slice HO688.out
   subst eo17
   obtain ⟨Ao18, co18, eo18⟩ := Kd.R_slice HO681.out
   subst eo18
   go_wp2_with (first | ((with_reducible refine gate_callee (f := 12) rfl ?_); refine goesL_ (some 34) rfl rfl Try.func12 (by kernel_rfl) rfl #[.slice Ao17 t685.length co17, .slice Ao18 t678.length co18] rfl zm ?_; (with_reducible refine (laws_eqCellS.calls k _ _ t685 _ _ t678 true _ ?side1 ?side2 ?side3 ?side4 A15.out).mono ?_); (case side1 => exact zc HO688.out); (case side2 => exact (Kd.R_reads' HO688.out).2.1); (case side3 => exact zc HO681.out); (case side4 => exact (Kd.R_reads' HO681.out).2.1); rintro e w19 ⟨rfl, hb⟩; refine ⟨_, rfl, ?_⟩; have n0_ := aM (Kd.R_below (mR_ HO677.out) hb); have n1_ := aM (Kd.R_below (mR_ HO681.out) hb); have n2_ := aM (Kd.R_below (mR_ HO684.out) hb); have n3_ := aM (Kd.R_below (mR_ HO688.out) hb); have n4_ := aM (below_step zb hb); clear HO677 HO681 HO684 HO688 HB; have HO677 := n0_; have HO681 := n1_; have HO684 := n2_; have HO688 := n3_; have HB := n4_; clear n0_ n1_ n2_ n3_ n4_; (try clear hb); (try clear hb2); (try clear hk); (try clear hi)))
   go_meet
   case rel => exact ⟨_, ((t686 != t679)), zr, H', ⟨by first | omega | exact Nat.le_refl _⟩, ⟨zd21 HO681.out⟩, ⟨zd21 HO684.out⟩, ⟨zd21 HO688.out⟩, ⟨zb⟩⟩
  replace c16 := Bool.eq_false_iff.mpr c16
  subst c16
  have H1 : (laws_FnExactFillHoles.j0 k l0 t678 t679 t682 t685 t686 true) = some r := by rw [if_neg (show ¬ (false = true) by decide)] at H; exact H
  clear H
  have H := H1
  clear H1
  have H' := aM H
  clear H
  obtain ⟨Ao20, co20, eo20⟩ := Kd.R_slice HO688.out
  subst eo20
  obtain ⟨Ao21, co21, eo21⟩ := Kd.R_slice HO681.out
  subst eo21
  go_wp2_with (first | ((with_reducible refine gate_callee (f := 12) rfl ?_); refine goesL_ (some 34) rfl rfl Try.func12 (by kernel_rfl) rfl #[.slice Ao20 t685.length co20, .slice Ao21 t678.length co21] rfl zm ?_; (with_reducible refine (laws_eqCellS.calls k _ _ t685 _ _ t678 false _ ?side1 ?side2 ?side3 ?side4 A15.out).mono ?_); (case side1 => exact zc HO688.out); (case side2 => exact (Kd.R_reads' HO688.out).2.1); (case side3 => exact zc HO681.out); (case side4 => exact (Kd.R_reads' HO681.out).2.1); rintro e w22 ⟨rfl, hb⟩; refine ⟨_, rfl, ?_⟩; have n0_ := aM (Kd.R_below (mR_ HO677.out) hb); have n1_ := aM (Kd.R_below (mR_ HO681.out) hb); have n2_ := aM (Kd.R_below (mR_ HO684.out) hb); have n3_ := aM (Kd.R_below (mR_ HO688.out) hb); have n4_ := aM (below_step zb hb); clear HO677 HO681 HO684 HO688 HB; have HO677 := n0_; have HO681 := n1_; have HO684 := n2_; have HO688 := n3_; have HB := n4_; clear n0_ n1_ n2_ n3_ n4_; (try clear hb); (try clear hb2); (try clear hk); (try clear hi)))
  go_meet
  case rel => exact ⟨_, (true), zr, H', ⟨by first | omega | exact Nat.le_refl _⟩, ⟨zd21 HO681.out⟩, ⟨zd21 HO684.out⟩, ⟨zd21 HO688.out⟩, ⟨zb⟩⟩
 case rest =>
  clear HC8
  try clear c1
  try clear c2
  try clear p2
  try clear c3
  try clear c3b0
  try clear c6
  try clear c8
  try clear c10
  try clear c12
  try clear c16
  obtain ⟨kq, x40_7, rfl, HA, HJ7, HO_4, HO_6, HO_7, HB⟩ := hcut
  cases kq with
  | zero => exact absurd HA.out (by simp [laws_FnExactFillHoles.j0])
  | succ kj7 =>
   have H := HA.out
   clear HA
   simp only [laws_FnExactFillHoles.j0] at H
   by_cases c23 : x40_7 = true
   ·subst c23
    have H1 : (some false) = some r := by rw [if_pos rfl] at H; exact H
    clear H
    have H := H1
    clear H1
    obtain rfl := Option.some.inj H
    go_wp2
    go_ret
    exact ⟨zw, zb⟩
   replace c23 := Bool.eq_false_iff.mpr c23
   subst c23
   have H1 : ((laws_toCellS.f kj7 l0).bind fun t690 => ((laws_eqCellS.f kj7 t682 t690).bind fun t693 => (if t693 = true then ((laws_markCellS.f kj7 t682 1).bind fun bt694 => (if bt694.1 < 0 then (laws_FnExactFillHoles.j1 kj7 l0 t678 t679 t685 true) else ((laws_eqCellS.f kj7 t685 t678).bind fun t696 => (if t696 = true then (laws_FnExactFillHoles.j1 kj7 l0 t678 t679 t685 (t686 != t679)) else (laws_FnExactFillHoles.j1 kj7 l0 t678 t679 t685 true))))) else (some false)))) = some r := by rw [if_neg (show ¬ (false = true) by decide)] at H; exact H
   clear H
   have H := H1
   clear H1
   replace H := Option.bind_eq_some_iff.mp H
   obtain ⟨t690, A240, H⟩ := H
   replace H : ((laws_eqCellS.f kj7 t682 t690).bind fun t693 => (if t693 = true then ((laws_markCellS.f kj7 t682 1).bind fun bt694 => (if bt694.1 < 0 then (laws_FnExactFillHoles.j1 kj7 l0 t678 t679 t685 true) else ((laws_eqCellS.f kj7 t685 t678).bind fun t696 => (if t696 = true then (laws_FnExactFillHoles.j1 kj7 l0 t678 t679 t685 (t686 != t679)) else (laws_FnExactFillHoles.j1 kj7 l0 t678 t679 t685 true))))) else (some false))) = some r := H
   have A24 := aM A240
   clear A240
   replace H := Option.bind_eq_some_iff.mp H
   obtain ⟨t693, A250, H⟩ := H
   replace H : (if t693 = true then ((laws_markCellS.f kj7 t682 1).bind fun bt694 => (if bt694.1 < 0 then (laws_FnExactFillHoles.j1 kj7 l0 t678 t679 t685 true) else ((laws_eqCellS.f kj7 t685 t678).bind fun t696 => (if t696 = true then (laws_FnExactFillHoles.j1 kj7 l0 t678 t679 t685 (t686 != t679)) else (laws_FnExactFillHoles.j1 kj7 l0 t678 t679 t685 true))))) else (some false)) = some r := H
   have A25 := aM A250
   clear A250
   by_cases c26 : t693 = true
   rotate_left
   ·replace c26 := Bool.eq_false_iff.mpr c26
    subst c26
    have H1 : (some false) = some r := by rw [if_neg (show ¬ (false = true) by decide)] at H; exact H
    clear H
    have H := H1
    clear H1
    obtain rfl := Option.some.inj H
    go_wp2_with (first | ((with_reducible refine gate_callee (f := 10) rfl ?_); refine goesL_ (some 43) rfl rfl Try.func10 (by kernel_rfl) rfl #[.slice A0 l0.length c0] rfl zm ?_; (with_reducible refine (laws_toCellS.calls kj7 _ _ l0 t690 _ ?side1 ?side2 A24.out).mono ?_); (case side1 => repeat (first | exact (Kd.C_below HR0.out HB.out) | (with_reducible refine Kd.C_alloc ?_ _) | (with_reducible refine Kd.C_drewN ?_ _) | (with_reducible refine Kd.C_drew ?_))); (case side2 => exact HC0.out); rintro e w71 ⟨v691, rfl, ho0, hb⟩; refine ⟨_, rfl, ?_⟩; have n0_ := aM (Kd.R_elder' (mR_ HO_4.out) (Kd.R_base ho0) hb); have n1_ := aM (Kd.R_elder' (mR_ HO_6.out) (Kd.R_base ho0) hb); have n2_ := aM (Kd.R_elder' (mR_ HO_7.out) (Kd.R_base ho0) hb); have n3_ := aM (Kd.R_lower (Kd.R_new' (Kd.R_new' (Kd.R_new' ho0 (Kd.R_lt (mR_ HO_4.out))) (Kd.R_lt (mR_ HO_6.out))) (Kd.R_lt (mR_ HO_7.out))) (below_size zb)); have n4_ := aM (below_step zb hb); clear HO_4 HO_6 HO_7 HB; have HO_4 := n0_; have HO_6 := n1_; have HO_7 := n2_; have HO692 := n3_; have HB := n4_; clear n0_ n1_ n2_ n3_ n4_; (try clear hb); (try clear hb2); (try clear hk); (try clear hi); (try clear ho0); obtain ⟨Ao72, co72, eo72⟩ := Kd.R_slice HO692.out; subst eo72) | ((with_reducible refine gate_callee (f := 12) rfl ?_); refine goesL_ (some 44) rfl rfl Try.func12 (by kernel_rfl) rfl #[.slice Ao13 t682.length co13, .slice Ao72 t690.length co72] rfl zm ?_; (with_reducible refine (laws_eqCellS.calls kj7 _ _ t682 _ _ t690 false _ ?side1 ?side2 ?side3 ?side4 A25.out).mono ?_); (case side1 => exact zc HO_6.out); (case side2 => exact (Kd.R_reads' HO_6.out).2.1); (case side3 => exact zc HO692.out); (case side4 => exact (Kd.R_reads' HO692.out).2.1); rintro e w73 ⟨rfl, hb⟩; refine ⟨_, rfl, ?_⟩; have n0_ := aM (Kd.R_below (mR_ HO_4.out) hb); have n1_ := aM (Kd.R_below (mR_ HO_6.out) hb); have n2_ := aM (Kd.R_below (mR_ HO_7.out) hb); have n3_ := aM (Kd.R_below (mR_ HO692.out) hb); have n4_ := aM (below_step zb hb); clear HO_4 HO_6 HO_7 HO692 HB; have HO_4 := n0_; have HO_6 := n1_; have HO_7 := n2_; have HO692 := n3_; have HB := n4_; clear n0_ n1_ n2_ n3_ n4_; (try clear hb); (try clear hb2); (try clear hk); (try clear hi)))
    go_ret
    exact ⟨zw, zb⟩
   subst c26
   have H1 : ((laws_markCellS.f kj7 t682 1).bind fun bt694 => (if bt694.1 < 0 then (laws_FnExactFillHoles.j1 kj7 l0 t678 t679 t685 true) else ((laws_eqCellS.f kj7 t685 t678).bind fun t696 => (if t696 = true then (laws_FnExactFillHoles.j1 kj7 l0 t678 t679 t685 (t686 != t679)) else (laws_FnExactFillHoles.j1 kj7 l0 t678 t679 t685 true))))) = some r := by rw [if_pos rfl] at H; exact H
   clear H
   have H := H1
   clear H1
   replace H := Option.bind_eq_some_iff.mp H
   obtain ⟨⟨t694, t695⟩, A270, H⟩ := H
   replace H : (if t694 < 0 then (laws_FnExactFillHoles.j1 kj7 l0 t678 t679 t685 true) else ((laws_eqCellS.f kj7 t685 t678).bind fun t696 => (if t696 = true then (laws_FnExactFillHoles.j1 kj7 l0 t678 t679 t685 (t686 != t679)) else (laws_FnExactFillHoles.j1 kj7 l0 t678 t679 t685 true)))) = some r := H
   have A27 := aM A270
   clear A270
   have HC28 := aM H
   clear H
   go_upto_region 14 with (first | ((with_reducible refine gate_callee (f := 10) rfl ?_); refine goesL_ (some 43) rfl rfl Try.func10 (by kernel_rfl) rfl #[.slice A0 l0.length c0] rfl zm ?_; (with_reducible refine (laws_toCellS.calls kj7 _ _ l0 t690 _ ?side1 ?side2 A24.out).mono ?_); (case side1 => repeat (first | exact (Kd.C_below HR0.out HB.out) | (with_reducible refine Kd.C_alloc ?_ _) | (with_reducible refine Kd.C_drewN ?_ _) | (with_reducible refine Kd.C_drew ?_))); (case side2 => exact HC0.out); rintro e w29 ⟨v691, rfl, ho0, hb⟩; refine ⟨_, rfl, ?_⟩; have n0_ := aM (Kd.R_elder' (mR_ HO_4.out) (Kd.R_base ho0) hb); have n1_ := aM (Kd.R_elder' (mR_ HO_6.out) (Kd.R_base ho0) hb); have n2_ := aM (Kd.R_elder' (mR_ HO_7.out) (Kd.R_base ho0) hb); have n3_ := aM (Kd.R_lower (Kd.R_new' (Kd.R_new' (Kd.R_new' ho0 (Kd.R_lt (mR_ HO_4.out))) (Kd.R_lt (mR_ HO_6.out))) (Kd.R_lt (mR_ HO_7.out))) (below_size zb)); have n4_ := aM (below_step zb hb); clear HO_4 HO_6 HO_7 HB; have HO_4 := n0_; have HO_6 := n1_; have HO_7 := n2_; have HO692 := n3_; have HB := n4_; clear n0_ n1_ n2_ n3_ n4_; (try clear hb); (try clear hb2); (try clear hk); (try clear hi); (try clear ho0); obtain ⟨Ao30, co30, eo30⟩ := Kd.R_slice HO692.out; subst eo30) | ((with_reducible refine gate_callee (f := 12) rfl ?_); refine goesL_ (some 44) rfl rfl Try.func12 (by kernel_rfl) rfl #[.slice Ao13 t682.length co13, .slice Ao30 t690.length co30] rfl zm ?_; (with_reducible refine (laws_eqCellS.calls kj7 _ _ t682 _ _ t690 true _ ?side1 ?side2 ?side3 ?side4 A25.out).mono ?_); (case side1 => exact zc HO_6.out); (case side2 => exact (Kd.R_reads' HO_6.out).2.1); (case side3 => exact zc HO692.out); (case side4 => exact (Kd.R_reads' HO692.out).2.1); rintro e w31 ⟨rfl, hb⟩; refine ⟨_, rfl, ?_⟩; have n0_ := aM (Kd.R_below (mR_ HO_4.out) hb); have n1_ := aM (Kd.R_below (mR_ HO_6.out) hb); have n2_ := aM (Kd.R_below (mR_ HO_7.out) hb); have n3_ := aM (Kd.R_below (mR_ HO692.out) hb); have n4_ := aM (below_step zb hb); clear HO_4 HO_6 HO_7 HO692 HB; have HO_4 := n0_; have HO_6 := n1_; have HO_7 := n2_; have HO692 := n3_; have HB := n4_; clear n0_ n1_ n2_ n3_ n4_; (try clear hb); (try clear hb2); (try clear hk); (try clear hi)) | ((with_reducible refine gate_callee (f := 22) rfl ?_); refine goesL_ (some 48) rfl rfl Try.func22 (by kernel_rfl) rfl #[.slice Ao13 t682.length co13, .int .i64 1] rfl zm ?_; (with_reducible refine (laws_markCellS.calls kj7 (fun k_ => some k_ = (.slice Ao13 t682.length co13 : Value).ownBlock) (.slice Ao13 t682.length co13) t682 1 t694 t695 w _ ?side1 ?side2 A27.out).mono ?_); (case side1 => repeat (first | (with_reducible first | exact HB.out | apply below_alloc | apply pw_below_drewN | apply below_drew1) | exact HB.out)); (case side2 => exact Kd.R_tight rfl HO_6.out); rintro e w32 ⟨rfl, hy0, hb, hkp⟩; refine ⟨_, rfl, ?_⟩; have n0_ := aM (Kd.R_mono (ok' := fun k_ => some k_ ≠ (.slice Ao13 t682.length co13 : Value).ownBlock ∧ some k_ ≠ (v687 : Value).ownBlock ∧ some k_ ≠ (.slice Ao30 t690.length co30 : Value).ownBlock) (Kd.R_keptB (HO_4.out) hkp (fun k_ hk_ hs_ => (hk_.1.1) hs_)) (fun k_ hk_ => ⟨hk_.1.1.1, hk_.1.1.2, hk_.1.2⟩)); have n1_ := aM (Kd.R_reok rfl hy0 (fun k_ e_ => HO_6.out.1 k_ e_)); have n2_ := aM (Kd.R_mono (ok' := fun k_ => some k_ ≠ (v680 : Value).ownBlock ∧ some k_ ≠ (.slice Ao13 t682.length co13 : Value).ownBlock ∧ some k_ ≠ (.slice Ao30 t690.length co30 : Value).ownBlock) (Kd.R_keptB (HO_7.out) hkp (fun k_ hk_ hs_ => (hk_.1.2) hs_)) (fun k_ hk_ => ⟨hk_.1.1.1, hk_.1.1.2, hk_.1.2⟩)); have n3_ := aM (Kd.R_mono (ok' := fun k_ => some k_ ≠ (v680 : Value).ownBlock ∧ some k_ ≠ (.slice Ao13 t682.length co13 : Value).ownBlock ∧ some k_ ≠ (v687 : Value).ownBlock) (Kd.R_keptB (HO692.out) hkp (fun k_ hk_ hs_ => (hk_.1.2) hs_)) (fun k_ hk_ => ⟨hk_.1.1.1.2, hk_.1.1.2, hk_.1.2⟩)); have n4_ := aM (hb); clear HO_4 HO_6 HO_7 HO692 HB; have HO_4 := n0_; have HO_6 := n1_; have HO_7 := n2_; have HO692 := n3_; have HB := n4_; clear n0_ n1_ n2_ n3_ n4_; (try clear hb); (try clear hkp); (try clear hy0)))
   (try simp only [Act.put, xA, xB, xC])
   go_cut [61] (fun v61 wc => ∃ (kq : Nat) (x61_27 : Bool), v61 = .bool x61_27 ∧ Aside0 (laws_FnExactFillHoles.j1 kq l0 t678 t679 t685 x61_27 = some r) ∧ Aside0 (kq ≤ kj7) ∧ Aside0 (Kd.R k44 44 wc w.heap.size (fun k_ => some k_ ≠ (v687 : Value).ownBlock) v680 t678) ∧ Aside0 (Kd.R k44 44 wc w.heap.size (fun k_ => some k_ ≠ (v680 : Value).ownBlock) v687 t685) ∧ Aside0 (Below w.heap.size w wc))
   case first =>
    have H := HC28.out
    clear HC28
    by_cases c33 : t694 < 0
    ·rw [if_pos c33] at H
     have c33b0 : decide (t694 < 0) = true := decide_eq_true c33
     clear c33
     (first | rw [c33b0] | (simp only [i64_w, i32_w]; rw [c33b0]) | skip)
     have H' := aM H
     clear H
     go_wp2
     go_meet
     case rel => exact ⟨_, (true), zr, H', ⟨by have := HJ7.out; first | omega | exact Nat.le_refl _⟩, ⟨zd22 HO_4.out⟩, ⟨zd10 HO_7.out⟩, ⟨zb⟩⟩
    rw [if_neg c33] at H
    have c33b0 : decide (t694 < 0) = false := decide_eq_false c33
    clear c33
    (first | rw [c33b0] | (simp only [i64_w, i32_w]; rw [c33b0]) | skip)
    replace H := Option.bind_eq_some_iff.mp H
    obtain ⟨t696, A340, H⟩ := H
    replace H : (if t696 = true then (laws_FnExactFillHoles.j1 kj7 l0 t678 t679 t685 (t686 != t679)) else (laws_FnExactFillHoles.j1 kj7 l0 t678 t679 t685 true)) = some r := H
    have A34 := aM A340
    clear A340
    by_cases c35 : t696 = true
    ·subst c35
     have H1 : (laws_FnExactFillHoles.j1 kj7 l0 t678 t679 t685 (t686 != t679)) = some r := by rw [if_pos rfl] at H; exact H
     clear H
     have H := H1
     clear H1
     have H' := aM H
     clear H
     obtain ⟨Ao36, co36, eo36⟩ := Kd.R_slice HO_7.out
     subst eo36
     obtain ⟨Ao37, co37, eo37⟩ := Kd.R_slice HO_4.out
     subst eo37
     go_wp2_with (first | (go_at_call 12; (with_reducible refine (laws_eqCellS.calls kj7 _ _ t685 _ _ t678 true _ ?side1 ?side2 ?side3 ?side4 A34.out).mono ?_); (case side1 => exact zc HO_7.out); (case side2 => exact (Kd.R_reads' HO_7.out).2.1); (case side3 => exact zc HO_4.out); (case side4 => exact (Kd.R_reads' HO_4.out).2.1); rintro e w38 ⟨rfl, hb⟩; have n0_ := aM (Kd.R_below (mR_ HO_4.out) hb); have n1_ := aM (Kd.R_below (mR_ HO_6.out) hb); have n2_ := aM (Kd.R_below (mR_ HO_7.out) hb); have n3_ := aM (Kd.R_below (mR_ HO692.out) hb); have n4_ := aM (below_step zb hb); clear HO_4 HO_6 HO_7 HO692 HB; have HO_4 := n0_; have HO_6 := n1_; have HO_7 := n2_; have HO692 := n3_; have HB := n4_; clear n0_ n1_ n2_ n3_ n4_; (try clear hb); (try clear hb2); (try clear hk); (try clear hi)))
     go_meet
     case rel => exact ⟨_, ((t686 != t679)), zr, H', ⟨by have := HJ7.out; first | omega | exact Nat.le_refl _⟩, ⟨zd22 HO_4.out⟩, ⟨zd10 HO_7.out⟩, ⟨zb⟩⟩
    replace c35 := Bool.eq_false_iff.mpr c35
    subst c35
    have H1 : (laws_FnExactFillHoles.j1 kj7 l0 t678 t679 t685 true) = some r := by rw [if_neg (show ¬ (false = true) by decide)] at H; exact H
    clear H
    have H := H1
    clear H1
    have H' := aM H
    clear H
    obtain ⟨Ao39, co39, eo39⟩ := Kd.R_slice HO_7.out
    subst eo39
    obtain ⟨Ao40, co40, eo40⟩ := Kd.R_slice HO_4.out
    subst eo40
    go_wp2_with (first | (go_at_call 12; (with_reducible refine (laws_eqCellS.calls kj7 _ _ t685 _ _ t678 false _ ?side1 ?side2 ?side3 ?side4 A34.out).mono ?_); (case side1 => exact zc HO_7.out); (case side2 => exact (Kd.R_reads' HO_7.out).2.1); (case side3 => exact zc HO_4.out); (case side4 => exact (Kd.R_reads' HO_4.out).2.1); rintro e w41 ⟨rfl, hb⟩; have n0_ := aM (Kd.R_below (mR_ HO_4.out) hb); have n1_ := aM (Kd.R_below (mR_ HO_6.out) hb); have n2_ := aM (Kd.R_below (mR_ HO_7.out) hb); have n3_ := aM (Kd.R_below (mR_ HO692.out) hb); have n4_ := aM (below_step zb hb); clear HO_4 HO_6 HO_7 HO692 HB; have HO_4 := n0_; have HO_6 := n1_; have HO_7 := n2_; have HO692 := n3_; have HB := n4_; clear n0_ n1_ n2_ n3_ n4_; (try clear hb); (try clear hb2); (try clear hk); (try clear hi)))
    go_meet
    case rel => exact ⟨_, (true), zr, H', ⟨by have := HJ7.out; first | omega | exact Nat.le_refl _⟩, ⟨zd22 HO_4.out⟩, ⟨zd10 HO_7.out⟩, ⟨zb⟩⟩
   case rest =>
    clear HC28
    try clear c1
    try clear c2
    try clear p2
    try clear c3
    try clear c3b0
    try clear c6
    try clear c8
    try clear c10
    try clear c12
    try clear c16
    try clear c22
    try clear c23
    try clear c25
    try clear c26
    try clear c33
    try clear c33b0
    try clear c35
    try clear p2
    obtain ⟨kq, x61_27, rfl, HA, HJ27, HO_4, HO_7, HB⟩ := hcut
    cases kq with
    | zero => exact absurd HA.out (by simp [laws_FnExactFillHoles.j1])
    | succ kj27 =>
     have H := HA.out
     clear HA
     simp only [laws_FnExactFillHoles.j1] at H
     by_cases c42 : x61_27 = true
     ·subst c42
      have H1 : (some false) = some r := by rw [if_pos rfl] at H; exact H
      clear H
      have H := H1
      clear H1
      obtain rfl := Option.some.inj H
      go_wp2
      go_ret
      exact ⟨zw, zb⟩
     replace c42 := Bool.eq_false_iff.mpr c42
     subst c42
     have H1 : ((laws_markCellS.f kj27 t685 1).bind fun bt697 => ((laws_heldCellS.f kj27 bt697.2 1).bind fun t699 => (if t699 < 0 then (some false) else (if t699 = bt697.1 then ((laws_toCellS.f kj27 l0).bind fun t700 => ((impl_FillHoles.f kj27 t700).bind fun bt703 => ((laws_eqCellS.f kj27 bt703.1 t678).bind fun t707 => (if t707 = true then (laws_FnExactFillHoles.j2 kj27 bt697.2 bt697.1 (bt703.2 != t679)) else (laws_FnExactFillHoles.j2 kj27 bt697.2 bt697.1 true))))) else (some false))))) = some r := by rw [if_neg (show ¬ (false = true) by decide)] at H; exact H
     clear H
     have H := H1
     clear H1
     replace H := Option.bind_eq_some_iff.mp H
     obtain ⟨⟨t697, t698⟩, A430, H⟩ := H
     replace H : ((laws_heldCellS.f kj27 t698 1).bind fun t699 => (if t699 < 0 then (some false) else (if t699 = t697 then ((laws_toCellS.f kj27 l0).bind fun t700 => ((impl_FillHoles.f kj27 t700).bind fun bt703 => ((laws_eqCellS.f kj27 bt703.1 t678).bind fun t707 => (if t707 = true then (laws_FnExactFillHoles.j2 kj27 t698 t697 (bt703.2 != t679)) else (laws_FnExactFillHoles.j2 kj27 t698 t697 true))))) else (some false)))) = some r := H
     have A43 := aM A430
     clear A430
     replace H := Option.bind_eq_some_iff.mp H
     obtain ⟨t699, A440, H⟩ := H
     replace H : (if t699 < 0 then (some false) else (if t699 = t697 then ((laws_toCellS.f kj27 l0).bind fun t700 => ((impl_FillHoles.f kj27 t700).bind fun bt703 => ((laws_eqCellS.f kj27 bt703.1 t678).bind fun t707 => (if t707 = true then (laws_FnExactFillHoles.j2 kj27 t698 t697 (bt703.2 != t679)) else (laws_FnExactFillHoles.j2 kj27 t698 t697 true))))) else (some false))) = some r := H
     have A44 := aM A440
     clear A440
     by_cases c45 : t699 < 0
     ·rw [if_pos c45] at H
      have c45b0 : decide (t699 < 0) = true := decide_eq_true c45
      clear c45
      obtain rfl := Option.some.inj H
      obtain ⟨Ao46, co46, eo46⟩ := Kd.R_slice HO_7.out
      subst eo46
      go_wp2_with (first | ((with_reducible refine gate_callee (f := 22) rfl ?_); refine goesL_ (some 64) rfl rfl Try.func22 (by kernel_rfl) rfl #[.slice Ao46 t685.length co46, .int .i64 1] rfl zm ?_; (with_reducible refine (laws_markCellS.calls kj27 (fun k_ => some k_ = (.slice Ao46 t685.length co46 : Value).ownBlock) (.slice Ao46 t685.length co46) t685 1 t697 t698 w _ ?side1 ?side2 A43.out).mono ?_); (case side1 => repeat (first | (with_reducible first | exact HB.out | apply below_alloc | apply pw_below_drewN | apply below_drew1) | exact HB.out)); (case side2 => exact Kd.R_tight rfl HO_7.out); rintro e w47 ⟨rfl, hy0, hb, hkp⟩; refine ⟨_, rfl, ?_⟩; have n0_ := aM (Kd.R_mono (ok' := fun k_ => some k_ ≠ (.slice Ao46 t685.length co46 : Value).ownBlock) (Kd.R_keptB (HO_4.out) hkp (fun k_ hk_ hs_ => (hk_) hs_)) (fun k_ hk_ => hk_.1)); have n1_ := aM (Kd.R_reok rfl hy0 (fun k_ e_ => HO_7.out.1 k_ e_)); have n2_ := aM (hb); clear HO_4 HO_7 HB; have HO_4 := n0_; have HO_7 := n1_; have HB := n2_; clear n0_ n1_ n2_; (try clear hb); (try clear hkp); (try clear hy0)) | ((with_reducible refine gate_callee (f := 27) rfl ?_); refine goesL_ (some 67) rfl rfl Try.func27 (by kernel_rfl) rfl #[.slice Ao46 t698.length co46, .int .i64 1] rfl (by (try simp only [mA, mB, mC]); first | done | (rw [show t698.length = t685.length from (Kd.R_reads' HO_7.out).1.symm] <;> rfl) | rfl | (simp only [lD, lT]; rfl)) ?_; (with_reducible refine (laws_heldCellS.calls kj27 _ _ t698 1 t699 _ ?side1 ?side2 A44.out).mono ?_); (case side1 => exact zc HO_7.out); (case side2 => rw [show t698.length = t685.length from (Kd.R_reads' HO_7.out).1.symm]; exact (Kd.R_reads' HO_7.out).2.1); rintro e w' ⟨rfl, ⟨nd, rfl⟩⟩; refine ⟨_, rfl, ?_⟩))
      go_ret
      exact ⟨zw, zb⟩
     rw [if_neg c45] at H
     have c45b0 : decide (t699 < 0) = false := decide_eq_false c45
     clear c45
     by_cases c48 : t699 = t697
     rotate_left
     ·rw [if_neg c48] at H
      have c48b0 : (t699 == t697) = false := beq_eq_false_iff_ne.mpr c48
      have c48b1 : (t699 != t697) = true := bne_iff_ne.mpr c48
      obtain rfl := Option.some.inj H
      obtain ⟨Ao69, co69, eo69⟩ := Kd.R_slice HO_7.out
      subst eo69
      go_wp2_with (first | ((with_reducible refine gate_callee (f := 22) rfl ?_); refine goesL_ (some 64) rfl rfl Try.func22 (by kernel_rfl) rfl #[.slice Ao69 t685.length co69, .int .i64 1] rfl zm ?_; (with_reducible refine (laws_markCellS.calls kj27 (fun k_ => some k_ = (.slice Ao69 t685.length co69 : Value).ownBlock) (.slice Ao69 t685.length co69) t685 1 t697 t698 w _ ?side1 ?side2 A43.out).mono ?_); (case side1 => repeat (first | (with_reducible first | exact HB.out | apply below_alloc | apply pw_below_drewN | apply below_drew1) | exact HB.out)); (case side2 => exact Kd.R_tight rfl HO_7.out); rintro e w70 ⟨rfl, hy0, hb, hkp⟩; refine ⟨_, rfl, ?_⟩; have n0_ := aM (Kd.R_mono (ok' := fun k_ => some k_ ≠ (.slice Ao69 t685.length co69 : Value).ownBlock) (Kd.R_keptB (HO_4.out) hkp (fun k_ hk_ hs_ => (hk_) hs_)) (fun k_ hk_ => hk_.1)); have n1_ := aM (Kd.R_reok rfl hy0 (fun k_ e_ => HO_7.out.1 k_ e_)); have n2_ := aM (hb); clear HO_4 HO_7 HB; have HO_4 := n0_; have HO_7 := n1_; have HB := n2_; clear n0_ n1_ n2_; (try clear hb); (try clear hkp); (try clear hy0)) | ((with_reducible refine gate_callee (f := 27) rfl ?_); refine goesL_ (some 67) rfl rfl Try.func27 (by kernel_rfl) rfl #[.slice Ao69 t698.length co69, .int .i64 1] rfl (by (try simp only [mA, mB, mC]); first | done | (rw [show t698.length = t685.length from (Kd.R_reads' HO_7.out).1.symm] <;> rfl) | rfl | (simp only [lD, lT]; rfl)) ?_; (with_reducible refine (laws_heldCellS.calls kj27 _ _ t698 1 t699 _ ?side1 ?side2 A44.out).mono ?_); (case side1 => exact zc HO_7.out); (case side2 => rw [show t698.length = t685.length from (Kd.R_reads' HO_7.out).1.symm]; exact (Kd.R_reads' HO_7.out).2.1); rintro e w' ⟨rfl, ⟨nd, rfl⟩⟩; refine ⟨_, rfl, ?_⟩))
      go_ret
      exact ⟨zw, zb⟩
     rw [if_pos c48] at H
     have c48b0 : (t699 == t697) = true := beq_iff_eq.mpr c48
     have c48b1 : (t699 != t697) = false := bne_eq_false_iff_eq.mpr c48
     clear c48
     replace H := Option.bind_eq_some_iff.mp H
     obtain ⟨t700, A490, H⟩ := H
     replace H : ((impl_FillHoles.f kj27 t700).bind fun bt703 => ((laws_eqCellS.f kj27 bt703.1 t678).bind fun t707 => (if t707 = true then (laws_FnExactFillHoles.j2 kj27 t698 t697 (bt703.2 != t679)) else (laws_FnExactFillHoles.j2 kj27 t698 t697 true)))) = some r := H
     have A49 := aM A490
     clear A490
     replace H := Option.bind_eq_some_iff.mp H
     obtain ⟨⟨t703, t704⟩, A500, H⟩ := H
     replace H : ((laws_eqCellS.f kj27 t703 t678).bind fun t707 => (if t707 = true then (laws_FnExactFillHoles.j2 kj27 t698 t697 (t704 != t679)) else (laws_FnExactFillHoles.j2 kj27 t698 t697 true))) = some r := H
     have A50 := aM A500
     clear A500
     have HC51 := aM H
     clear H
     obtain ⟨Ao52, co52, eo52⟩ := Kd.R_slice HO_7.out
     subst eo52
     go_upto_region 25 with (first | ((with_reducible refine gate_callee (f := 22) rfl ?_); refine goesL_ (some 64) rfl rfl Try.func22 (by kernel_rfl) rfl #[.slice Ao52 t685.length co52, .int .i64 1] rfl zm ?_; (with_reducible refine (laws_markCellS.calls kj27 (fun k_ => some k_ = (.slice Ao52 t685.length co52 : Value).ownBlock) (.slice Ao52 t685.length co52) t685 1 t697 t698 w _ ?side1 ?side2 A43.out).mono ?_); (case side1 => repeat (first | (with_reducible first | exact HB.out | apply below_alloc | apply pw_below_drewN | apply below_drew1) | exact HB.out)); (case side2 => exact Kd.R_tight rfl HO_7.out); rintro e w53 ⟨rfl, hy0, hb, hkp⟩; refine ⟨_, rfl, ?_⟩; have n0_ := aM (Kd.R_mono (ok' := fun k_ => some k_ ≠ (.slice Ao52 t685.length co52 : Value).ownBlock) (Kd.R_keptB (HO_4.out) hkp (fun k_ hk_ hs_ => (hk_) hs_)) (fun k_ hk_ => hk_.1)); have n1_ := aM (Kd.R_reok rfl hy0 (fun k_ e_ => HO_7.out.1 k_ e_)); have n2_ := aM (hb); clear HO_4 HO_7 HB; have HO_4 := n0_; have HO_7 := n1_; have HB := n2_; clear n0_ n1_ n2_; (try clear hb); (try clear hkp); (try clear hy0)) | ((with_reducible refine gate_callee (f := 27) rfl ?_); refine goesL_ (some 67) rfl rfl Try.func27 (by kernel_rfl) rfl #[.slice Ao52 t698.length co52, .int .i64 1] rfl (by (try simp only [mA, mB, mC]); first | done | (rw [show t698.length = t685.length from (Kd.R_reads' HO_7.out).1.symm] <;> rfl) | rfl | (simp only [lD, lT]; rfl)) ?_; (with_reducible refine (laws_heldCellS.calls kj27 _ _ t698 1 t699 _ ?side1 ?side2 A44.out).mono ?_); (case side1 => exact zc HO_7.out); (case side2 => rw [show t698.length = t685.length from (Kd.R_reads' HO_7.out).1.symm]; exact (Kd.R_reads' HO_7.out).2.1); rintro e w' ⟨rfl, ⟨nd, rfl⟩⟩; refine ⟨_, rfl, ?_⟩) | ((with_reducible refine gate_callee (f := 10) rfl ?_); refine goesL_ (some 75) rfl rfl Try.func10 (by kernel_rfl) rfl #[.slice A0 l0.length c0] rfl zm ?_; (with_reducible refine (laws_toCellS.calls kj27 _ _ l0 t700 _ ?side1 ?side2 A49.out).mono ?_); (case side1 => repeat (first | exact (Kd.C_below HR0.out zb) | (with_reducible refine Kd.C_alloc ?_ _) | (with_reducible refine Kd.C_drewN ?_ _) | (with_reducible refine Kd.C_drew ?_))); (case side2 => exact HC0.out); rintro e w54 ⟨v701, rfl, ho0, hb⟩; refine ⟨_, rfl, ?_⟩; have n0_ := aM (Kd.R_elder' (mR_ HO_4.out) (Kd.R_base ho0) hb); have n1_ := aM (Kd.R_elder' (mR_ HO_7.out) (Kd.R_base ho0) hb); have n2_ := aM (Kd.R_lower (Kd.R_new' (Kd.R_new' ho0 (Kd.R_lt (mR_ HO_4.out))) (Kd.R_lt (mR_ HO_7.out))) (below_size zb)); have n3_ := aM (below_step zb hb); clear HO_4 HO_7 HB; have HO_4 := n0_; have HO_7 := n1_; have HO702 := n2_; have HB := n3_; clear n0_ n1_ n2_ n3_; (try clear hb); (try clear hb2); (try clear hk); (try clear hi); (try clear ho0); obtain ⟨Ao55, co55, eo55⟩ := Kd.R_slice HO702.out; subst eo55) | ((with_reducible refine gate_callee (f := 26) rfl ?_); refine goesL_ (some 76) rfl rfl Try.func26 (by kernel_rfl) rfl #[.slice Ao55 t700.length co55] rfl zm ?_; (with_reducible refine (impl_FillHoles.calls kj27 _ _ t700 t703 t704 _ ?side1 ?side2 A50.out).mono ?_); (case side1 => exact zc HO702.out); (case side2 => exact (Kd.R_reads' HO702.out).2.1); rintro e w56 ⟨v705, rfl, ho0, hb⟩; refine ⟨_, rfl, ?_⟩; have n0_ := aM (Kd.R_elder' (mR_ HO_4.out) (Kd.R_base ho0) hb); have n1_ := aM (Kd.R_elder' (mR_ HO_7.out) (Kd.R_base ho0) hb); have n2_ := aM (Kd.R_elder' (mR_ HO702.out) (Kd.R_base ho0) hb); have n3_ := aM (Kd.R_lower (Kd.R_new' (Kd.R_new' (Kd.R_new' ho0 (Kd.R_lt (mR_ HO_4.out))) (Kd.R_lt (mR_ HO_7.out))) (Kd.R_lt (mR_ HO702.out))) (below_size zb)); have n4_ := aM (below_step zb hb); clear HO_4 HO_7 HO702 HB; have HO_4 := n0_; have HO_7 := n1_; have HO702 := n2_; have HO706 := n3_; have HB := n4_; clear n0_ n1_ n2_ n3_ n4_; (try clear hb); (try clear hb2); (try clear hk); (try clear hi); (try clear ho0)))
     (try simp only [Act.put, xA, xB, xC])
     go_cut [87] (fun v87 wc => ∃ (kq : Nat) (x87_50 : Bool), v87 = .bool x87_50 ∧ Aside0 (laws_FnExactFillHoles.j2 kq t698 t697 x87_50 = some r) ∧ Aside0 (kq ≤ kj27) ∧ Aside0 (Kd.R k44 44 wc w.heap.size (fun _ => True) (.slice Ao52 t685.length co52) t698) ∧ Aside0 (Below w.heap.size w wc))
     case first =>
      have H := HC51.out
      clear HC51
      replace H := Option.bind_eq_some_iff.mp H
      obtain ⟨t707, A570, H⟩ := H
      replace H : (if t707 = true then (laws_FnExactFillHoles.j2 kj27 t698 t697 (t704 != t679)) else (laws_FnExactFillHoles.j2 kj27 t698 t697 true)) = some r := H
      have A57 := aM A570
      clear A570
      by_cases c58 : t707 = true
      ·subst c58
       have H1 : (laws_FnExactFillHoles.j2 kj27 t698 t697 (t704 != t679)) = some r := by rw [if_pos rfl] at H; exact H
       clear H
       have H := H1
       clear H1
       have H' := aM H
       clear H
       obtain ⟨Ao59, co59, eo59⟩ := Kd.R_slice HO706.out
       subst eo59
       obtain ⟨Ao60, co60, eo60⟩ := Kd.R_slice HO_4.out
       subst eo60
       go_wp2_with (first | ((with_reducible refine gate_callee (f := 12) rfl ?_); refine goesL_ (some 81) rfl rfl Try.func12 (by kernel_rfl) rfl #[.slice Ao59 t703.length co59, .slice Ao60 t678.length co60] rfl zm ?_; (with_reducible refine (laws_eqCellS.calls kj27 _ _ t703 _ _ t678 true _ ?side1 ?side2 ?side3 ?side4 A57.out).mono ?_); (case side1 => exact zc HO706.out); (case side2 => exact (Kd.R_reads' HO706.out).2.1); (case side3 => exact zc HO_4.out); (case side4 => exact (Kd.R_reads' HO_4.out).2.1); rintro e w61 ⟨rfl, hb⟩; refine ⟨_, rfl, ?_⟩; have n0_ := aM (Kd.R_below (mR_ HO_4.out) hb); have n1_ := aM (Kd.R_below (mR_ HO_7.out) hb); have n2_ := aM (Kd.R_below (mR_ HO702.out) hb); have n3_ := aM (Kd.R_below (mR_ HO706.out) hb); have n4_ := aM (below_step zb hb); clear HO_4 HO_7 HO702 HO706 HB; have HO_4 := n0_; have HO_7 := n1_; have HO702 := n2_; have HO706 := n3_; have HB := n4_; clear n0_ n1_ n2_ n3_ n4_; (try clear hb); (try clear hb2); (try clear hk); (try clear hi)))
       go_meet
       case rel => exact ⟨_, ((t704 != t679)), zr, H', ⟨by have := HJ7.out; have := HJ27.out; first | omega | exact Nat.le_refl _⟩, ⟨zd1 HO_7.out⟩, ⟨zb⟩⟩
      replace c58 := Bool.eq_false_iff.mpr c58
      subst c58
      have H1 : (laws_FnExactFillHoles.j2 kj27 t698 t697 true) = some r := by rw [if_neg (show ¬ (false = true) by decide)] at H; exact H
      clear H
      have H := H1
      clear H1
      have H' := aM H
      clear H
      obtain ⟨Ao62, co62, eo62⟩ := Kd.R_slice HO706.out
      subst eo62
      obtain ⟨Ao63, co63, eo63⟩ := Kd.R_slice HO_4.out
      subst eo63
      go_wp2_with (first | ((with_reducible refine gate_callee (f := 12) rfl ?_); refine goesL_ (some 81) rfl rfl Try.func12 (by kernel_rfl) rfl #[.slice Ao62 t703.length co62, .slice Ao63 t678.length co63] rfl zm ?_; (with_reducible refine (laws_eqCellS.calls kj27 _ _ t703 _ _ t678 false _ ?side1 ?side2 ?side3 ?side4 A57.out).mono ?_); (case side1 => exact zc HO706.out); (case side2 => exact (Kd.R_reads' HO706.out).2.1); (case side3 => exact zc HO_4.out); (case side4 => exact (Kd.R_reads' HO_4.out).2.1); rintro e w64 ⟨rfl, hb⟩; refine ⟨_, rfl, ?_⟩; have n0_ := aM (Kd.R_below (mR_ HO_4.out) hb); have n1_ := aM (Kd.R_below (mR_ HO_7.out) hb); have n2_ := aM (Kd.R_below (mR_ HO702.out) hb); have n3_ := aM (Kd.R_below (mR_ HO706.out) hb); have n4_ := aM (below_step zb hb); clear HO_4 HO_7 HO702 HO706 HB; have HO_4 := n0_; have HO_7 := n1_; have HO702 := n2_; have HO706 := n3_; have HB := n4_; clear n0_ n1_ n2_ n3_ n4_; (try clear hb); (try clear hb2); (try clear hk); (try clear hi)))
      go_meet
      case rel => exact ⟨_, (true), zr, H', ⟨by have := HJ7.out; have := HJ27.out; first | omega | exact Nat.le_refl _⟩, ⟨zd1 HO_7.out⟩, ⟨zb⟩⟩
     case rest =>
      clear HC51
      try clear c1
      try clear c2
      try clear p2
      try clear c3
      try clear c3b0
      try clear c4
      try clear c5
      try clear c6
      try clear c8
      try clear c10
      try clear c12
      try clear c16
      try clear c22
      try clear c23
      try clear c25
      try clear c26
      try clear c27
      try clear c33
      try clear c33b0
      try clear c35
      try clear c42
      try clear c45
      try clear c45b0
      try clear c48
      try clear c48b0
      try clear c48b1
      try clear c58
      try clear p2
      obtain ⟨kq, x87_50, rfl, HA, HJ50, HO_7, HB⟩ := hcut
      have hl7_50 := (Kd.R_reads' HO_7.out).1
      rw [hl7_50] at HO_7
      (try simp only [hl7_50])
      cases kq with
      | zero => exact absurd HA.out (by simp [laws_FnExactFillHoles.j2])
      | succ kj50 =>
       have H := HA.out
       clear HA
       simp only [laws_FnExactFillHoles.j2] at H
       by_cases c65 : x87_50 = true
       ·subst c65
        have H1 : (some false) = some r := by rw [if_pos rfl] at H; exact H
        clear H
        have H := H1
        clear H1
        obtain rfl := Option.some.inj H
        go_wp2
        go_ret
        exact ⟨zw, zb⟩
       replace c65 := Bool.eq_false_iff.mpr c65
       subst c65
       have H1 : ((laws_heldCellS.f kj50 t698 1).bind fun t708 => (if t708 < 0 then (some false) else (if t708 = t697 then (some true) else (some false)))) = some r := by rw [if_neg (show ¬ (false = true) by decide)] at H; exact H
       clear H
       have H := H1
       clear H1
       replace H := Option.bind_eq_some_iff.mp H
       obtain ⟨t708, A660, H⟩ := H
       replace H : (if t708 < 0 then (some false) else (if t708 = t697 then (some true) else (some false))) = some r := H
       have A66 := aM A660
       clear A660
       by_cases c67 : t708 < 0
       ·rw [if_pos c67] at H
        have c67b0 : decide (t708 < 0) = true := decide_eq_true c67
        clear c67
        obtain rfl := Option.some.inj H
        go_wp2_with (first | ((with_reducible refine gate_callee (f := 27) rfl ?_); refine goesL_ (some 90) rfl rfl Try.func27 (by kernel_rfl) rfl #[.slice Ao52 t698.length co52, .int .i64 1] rfl zm ?_; (with_reducible refine (laws_heldCellS.calls kj50 _ _ t698 1 t708 _ ?side1 ?side2 A66.out).mono ?_); (case side1 => exact zc HO_7.out); (case side2 => exact (Kd.R_reads' HO_7.out).2.1); rintro e w' ⟨rfl, ⟨nd, rfl⟩⟩; refine ⟨_, rfl, ?_⟩))
        go_ret
        exact ⟨zw, zb⟩
       rw [if_neg c67] at H
       have c67b0 : decide (t708 < 0) = false := decide_eq_false c67
       clear c67
       by_cases c68 : t708 = t697
       rotate_left
       ·rw [if_neg c68] at H
        have c68b0 : (t708 == t697) = false := beq_eq_false_iff_ne.mpr c68
        have c68b1 : (t708 != t697) = true := bne_iff_ne.mpr c68
        obtain rfl := Option.some.inj H
        go_wp2_with (first | ((with_reducible refine gate_callee (f := 27) rfl ?_); refine goesL_ (some 90) rfl rfl Try.func27 (by kernel_rfl) rfl #[.slice Ao52 t698.length co52, .int .i64 1] rfl zm ?_; (with_reducible refine (laws_heldCellS.calls kj50 _ _ t698 1 t708 _ ?side1 ?side2 A66.out).mono ?_); (case side1 => exact zc HO_7.out); (case side2 => exact (Kd.R_reads' HO_7.out).2.1); rintro e w' ⟨rfl, ⟨nd, rfl⟩⟩; refine ⟨_, rfl, ?_⟩))
        go_ret
        exact ⟨zw, zb⟩
       rw [if_pos c68] at H
       have c68b0 : (t708 == t697) = true := beq_iff_eq.mpr c68
       have c68b1 : (t708 != t697) = false := bne_eq_false_iff_eq.mpr c68
       clear c68
       obtain rfl := Option.some.inj H
       go_wp2_with (first | ((with_reducible refine gate_callee (f := 27) rfl ?_); refine goesL_ (some 90) rfl rfl Try.func27 (by kernel_rfl) rfl #[.slice Ao52 t698.length co52, .int .i64 1] rfl zm ?_; (with_reducible refine (laws_heldCellS.calls kj50 _ _ t698 1 t708 _ ?side1 ?side2 A66.out).mono ?_); (case side1 => exact zc HO_7.out); (case side2 => exact (Kd.R_reads' HO_7.out).2.1); rintro e w' ⟨rfl, ⟨nd, rfl⟩⟩; refine ⟨_, rfl, ?_⟩))
       go_ret
       exact ⟨zw, zb⟩
end Go.Proofs.Ytaecheolnpofeaa.F
end
section
namespace Go.Proofs.Ytaecheolnpofeaa.Open
open Go.ChangeShapes Go.WideShapes Go.Deep Go.RowKit Go.Proofs.YtaecheolnpofeaaW.PrintWords
def Opens {α : Type} (P : Program) (d : Kd α) (t : TypeId) (V : α → Prop) : Prop :=
  ∀ (H : Type) (enc : TypeId × Value → H) (w : World) (base : Nat) (spare : Nat → Bool) (held : Bool) (fuel : Nat) (cs : List Value) (x : DataW H × List MemPlace),
    DataW.trod enc P w base spare held fuel t cs = some x → ∃ a : α, d.K w a cs ∧ V a
theorem Opens.int {P : Program} {t : TypeId} {k : IntKind} (ht : P.underlying t = some (.int k)) : Opens P (Kd.int k) t (fun a => (Lit.int k a).wf = true) := by
  intro H enc w base spare held fuel cs x h
  obtain ⟨n, hcs, _, hw⟩ := DataW.trod_int ht h
  exact ⟨n, hcs, hw⟩
theorem Opens.bool {P : Program} {t : TypeId} (ht : P.underlying t = some .bool) : Opens P Kd.bool t (fun _ => True) := by
  intro H enc w base spare held fuel cs x h
  obtain ⟨b, hcs, _⟩ := DataW.trod_bool ht h
  exact ⟨b, hcs, trivial⟩
theorem Opens.slice {α : Type} [Inhabited α] {P : Program} {t e : TypeId} {d : Kd α} {V : α → Prop} (ht : P.underlying t = some (.slice e)) (hsz : P.cellsOf e = d.sz) (ho : Opens P d e V) :
    Opens P (Kd.slice e d) t (fun l => l.length ≤ 9223372036854775807 ∧ ∀ a ∈ l, V a) := by
  intro H enc w base spare held fuel cs x h
  rcases open_slice ht h with ⟨rfl, _⟩ | ⟨a, len, cap, m, n, D, Pl, rfl, hb, hl, hm, hmm, _, hi⟩
  · exact ⟨[], ⟨none, 0, rfl, Nat.le_refl _, rfl, by simp, fun hp => absurd hp (by simp)⟩, by simp, by simp⟩
  · have hlm : len ≤ m := by rw [hmm]; split <;> omega
    have hx : ∀ i, i < len → ∃ y : α, V y ∧ ∃ c : List Value, c.length = d.sz ∧ d.K w y c ∧ ∀ j u, c[j]? = some u → w.cell? (a.add (i * d.sz + j)) = some u := by
      intro i hil
      obtain ⟨cs', hc, ht'⟩ := hi i (by omega)
      obtain ⟨y, hk, hv⟩ := ho H enc w base spare held n cs' _ ht'
      obtain ⟨_, hcl, hat⟩ := World.cells?_some hc
      refine ⟨y, hv, cs', d.K_len hk, hk, fun j u hj => ?_⟩
      have hjl : j < cs'.length := (List.getElem?_eq_some_iff.1 hj).1
      have := hat j (by rw [hsz, ← d.K_len hk]; exact hjl)
      rw [Go.Deep.add_add, hsz] at this
      rw [this, hj]
    obtain ⟨f, hf⟩ := choose_lt hx
    have hlen : ((List.range len).map f).length = len := by simp
    refine ⟨(List.range len).map f, ⟨some a, cap, by rw [hlen], by rw [hlen]; exact hl, rfl, ?_, fun _ => ⟨a, rfl, fun j p hj => ?_⟩⟩, ?_⟩
    · rw [hlen]; unfold maxLen at hm; omega
    · have hjl : j < len := by
        have := (List.getElem?_eq_some_iff.1 hj).1
        rwa [hlen] at this
      have hp : f j = p := by
        rw [List.getElem?_map, List.getElem?_range hjl] at hj
        simpa using hj
      obtain ⟨_, c, h1, h2, h3⟩ := hf j hjl
      rw [hp] at h2
      exact ⟨c, h1, h2, h3⟩
    · refine ⟨by rw [hlen]; unfold maxLen at hm; omega, fun y hy => ?_⟩
      obtain ⟨i, hi', rfl⟩ := List.mem_map.1 hy
      exact (hf i (List.mem_range.1 hi')).1
theorem cut2 {cs : List Value} {n m : Nat} (h : cs.length = n + m) : cs = (cs.drop 0).take n ++ (cs.drop n).take m := by
  rw [List.drop_zero, List.take_of_length_le (l := cs.drop n) (by rw [List.length_drop]; omega), List.take_append_drop]
theorem Opens.struct2 {α β γ : Type} {P : Program} {t : TypeId} {f0 f1 : Field} {d0 : Kd α} {d1 : Kd β} {V0 : α → Prop} {V1 : β → Prop} (g : γ → α × β) (g' : α → β → γ) (hg : ∀ x y, g (g' x y) = (x, y))
    (ht : P.underlying t = some (.struct #[f0, f1])) (o0 : f0.offset = 0) (o1 : f1.offset = d0.sz) (s0 : P.cellsOf f0.type = d0.sz) (s1 : P.cellsOf f1.type = d1.sz) (sz : P.cellsOf t = d0.sz + d1.sz)
    (h0 : Opens P d0 f0.type V0) (h1 : Opens P d1 f1.type V1) : Opens P (Kd.iso (Kd.pair d0 d1) g) t (fun a => V0 (g a).1 ∧ V1 (g a).2) := by
  intro H enc w base spare held fuel cs x h
  obtain ⟨y0, y1, n, _, hl, t0, t1⟩ := trod_struct2 ht h
  rw [o0, s0] at t0
  rw [o1, s1] at t1
  obtain ⟨x0, k0, v0⟩ := h0 _ _ _ _ _ _ _ _ _ t0
  obtain ⟨x1, k1, v1⟩ := h1 _ _ _ _ _ _ _ _ _ t1
  refine ⟨g' x0 x1, ?_, ?_⟩
  · show ∃ c0 c1, cs = c0 ++ c1 ∧ d0.K w (g (g' x0 x1)).1 c0 ∧ d1.K w (g (g' x0 x1)).2 c1
    rw [hg]
    exact ⟨_, _, cut2 (by rw [hl, sz]), k0, k1⟩
  · simp only [hg]; exact ⟨v0, v1⟩
theorem arg_open {α : Type} {P : Program} {t : TypeId} {d : Kd α} {V : α → Prop} (ho : Opens P d t V) {H : Type} {enc : TypeId × Value → H} {w : World} {base : Nat} {spare : Nat → Bool} {held : Bool} {v : Value} {x : DataW H} {p : List MemPlace}
    (h : DataW.Trod enc P w base spare held t v x p) : ∃ a : α, d.K w a v.cells.toList ∧ V a := by
  obtain ⟨fuel, hf⟩ := h
  exact ho _ _ _ _ _ _ _ _ _ hf
theorem slice_arg {α : Type} {d : Kd α} {e : Nat} {w : World} {l : List α} {a : Option Addr} {len cap : Nat} (h : (Kd.slice e d).K w l (Value.slice a len cap).cells.toList) : l.length = len ∧ l.length ≤ cap ∧ d.C w a l.length l := by
  obtain ⟨A, c, hcs, hl, hr⟩ := h
  simp [Value.cells] at hcs
  obtain ⟨rfl, rfl, rfl⟩ := hcs
  exact ⟨rfl, hl, hr⟩
end Go.Proofs.Ytaecheolnpofeaa.Open
end
section
namespace Go.Proofs.Ytaecheolnpofeaa.F
open Go.RowKit Go.Proofs.YtaecheolnpofeaaW.PrintWords Go.Proofs.Ytaecheolnpofeaa.Open
instance : Inhabited S48 := ⟨⟨default, default⟩⟩
def V48 : S48 → Prop := fun a => (fun a => (Lit.int .i64 a).wf = true) a.f0 ∧ (fun a => (Lit.int .i64 a).wf = true) a.f1
theorem O48 : Opens Try.prog k48 48 V48 :=
  Opens.struct2 (fun x : S48 => (x.f0, x.f1)) (fun a b => ⟨a, b⟩) (fun _ _ => rfl) Try.underlying48 rfl rfl (by kernel_rfl) (by kernel_rfl) (by kernel_rfl) (Opens.int Try.underlying2) (Opens.int Try.underlying2)
end Go.Proofs.Ytaecheolnpofeaa.F
end
section
namespace Go.Proofs.Ytaecheolnpofeaa.L
open Go.RowKit Go.Proofs.YtaecheolnpofeaaW.PrintWords
theorem Ev.pos {α : Type} {c : Prop} [Decidable c] {f g : Nat → Option α} {r : α} (h : c) (e : Ev f r) : Ev (fun k => if c then f k else g k) r := by
  obtain ⟨K, e⟩ := e
  exact ⟨K, fun k hk => (if_pos h).trans (e k hk)⟩
theorem Ev.neg {α : Type} {c : Prop} [Decidable c] {f g : Nat → Option α} {r : α} (h : ¬ c) (e : Ev g r) : Ev (fun k => if c then f k else g k) r := by
  obtain ⟨K, e⟩ := e
  exact ⟨K, fun k hk => (if_neg h).trans (e k hk)⟩
theorem Ev.if_ {α : Type} {c : Prop} [Decidable c] {f g : Nat → Option α} {r s : α} (h : c → Ev f r) (h' : ¬ c → Ev g s) : Ev (fun k => if c then f k else g k) (if c then r else s) := by
  by_cases hc : c
  · rw [if_pos hc]; exact Ev.pos hc (h hc)
  · rw [if_neg hc]; exact Ev.neg hc (h' hc)
theorem Ev.of_eq {α : Type} {g : Nat → Option α} {r s : α} (h : Ev g r) (e : r = s) : Ev g s := e ▸ h
theorem Ev.bind0 {α β : Type} {o : Option α} {f : Nat → α → Option β} {a : α} {r : β} (h : o = some a) (k : Ev (fun n => f n a) r) : Ev (fun n => o.bind (f n)) r := by
  subst h
  exact k
theorem Ev.succ {α : Type} {g : Nat → Option α} {r : α} (h : Ev (fun k => g (k + 1)) r) : Ev g r := by
  obtain ⟨K, h⟩ := h
  refine ⟨K + 1, fun n hn => ?_⟩
  obtain ⟨m, rfl⟩ : ∃ m, n = m + 1 := ⟨n - 1, by omega⟩
  exact h m (by omega)
theorem w64 {n : Int} (h : -9223372036854775808 ≤ n) (h' : n ≤ 9223372036854775807) : wrap64 n = n := by
  unfold wrap64
  omega
theorem getD_at {α : Type} (pre suf : List α) (c d : α) : (pre ++ c :: suf).getD (pre.length : Int).toNat d = c := by
  simp [List.getD]
end Go.Proofs.Ytaecheolnpofeaa.L
namespace Go.Proofs.Ytaecheolnpofeaa.L
open Go.RowKit Go.Proofs.YtaecheolnpofeaaW.PrintWords
theorem loop_list {α σ ρ : Type} (xs : List α) (l : Nat → Int → σ → Option ρ) (g : List α → List α → σ → ρ) (Inv : List α → σ → Prop)
    (hn : ∀ s, Inv xs s → Ev (fun k => l (k + 1) (xs.length : Int) s) (g xs [] s))
    (hs : ∀ (pre : List α) (c : α) (suf : List α) (s : σ), xs = pre ++ c :: suf → Inv pre s → (∀ s', Inv (pre ++ [c]) s' → Ev (fun k => l k ((pre.length : Int) + 1) s') (g (pre ++ [c]) suf s')) → Ev (fun k => l (k + 1) (pre.length : Int) s) (g pre (c :: suf) s)) :
    ∀ s, Inv [] s → Ev (fun k => l k 0 s) (g [] xs s) := by
  have key : ∀ (suf pre : List α), xs = pre ++ suf → ∀ s, Inv pre s → Ev (fun k => l k (pre.length : Int) s) (g pre suf s) := by
    intro suf
    induction suf with
    | nil =>
      intro pre hx s hi
      rw [List.append_nil] at hx
      subst hx
      exact Ev.succ (hn s hi)
    | cons c suf ih =>
      intro pre hx s hi
      refine Ev.succ (hs pre c suf s hx hi fun s' hi' => ?_)
      have := ih (pre ++ [c]) (by rw [hx]; simp) s' hi'
      rw [List.length_append] at this
      exact this
  intro s hi
  exact key xs [] rfl s hi
end Go.Proofs.Ytaecheolnpofeaa.L
end
section
namespace Go.Proofs.Ytaecheolnpofeaa.L
open Go.RowKit Go.Proofs.YtaecheolnpofeaaW.PrintWords Go.Proofs.YtaecheolnpofeaaW.PrintLast Go.Proofs.YtaecheolnpofeaaW.PrintMore Go.Proofs.Ytaecheolnpofeaa.F
set_option linter.unusedVariables false
set_option linter.unusedSimpArgs false
abbrev Cell := S44
abbrev LCell := S48
theorem in_eq (a b c : Int) : spec_l01In.f a b c = some (decide (b ≤ a ∧ a ≤ c)) := by
  unfold spec_l01In.f
  by_cases h : a ≥ b
  · rw [if_pos h]; simp [show b ≤ a from h]
  · rw [if_neg h]; simp [show ¬ b ≤ a from h]
theorem within_eq (a b c : Int) : impl_within.f a b c = some (decide (b ≤ a ∧ a ≤ c)) := by
  unfold impl_within.f
  by_cases h : a ≥ b
  · rw [if_pos h]; simp [show b ≤ a from h]
  · rw [if_neg h]; simp [show ¬ b ≤ a from h]
def ok1 (n : Int) : Prop := -100 ≤ n ∧ n ≤ 100
instance (n : Int) : Decidable (ok1 n) := by unfold ok1; infer_instance
def okC (c : Cell) : Prop := ok1 c.f0 ∧ ok1 c.f1
instance (c : Cell) : Decidable (okC c) := by unfold okC; infer_instance
def ltC (a b : Cell) : Prop := a.f1 < b.f1 ∨ a.f1 = b.f1 ∧ a.f0 < b.f0
instance (a b : Cell) : Decidable (ltC a b) := by unfold ltC; infer_instance
theorem isCoordinate_eq (n : Int) : impl_isCoordinate.f n = some (decide (ok1 n)) := by
  unfold impl_isCoordinate.f
  rw [within_eq]
  rfl
theorem l02Cell_eq (x y : Int) : spec_l02Cell.f x y = some (decide (ok1 x ∧ ok1 y)) := by
  unfold spec_l02Cell.f
  rw [in_eq, in_eq]
  simp only [Option.bind_some]
  by_cases h : -100 ≤ x ∧ x ≤ 100
  · have h' : ok1 x := h
    simp only [h, and_self, decide_true, if_true, true_and, h', ok1]
  · have h' : ¬ ok1 x := h
    simp [h, h']
theorem toCell_eq (x y : Int) : laws_toCell.f x y = some (x, y) := rfl
theorem eqCell_eq (a b c d : Int) : laws_eqCell.f a b c d = some (decide (a = c ∧ b = d)) := by
  unfold laws_eqCell.f
  by_cases h : a = c
  · by_cases h' : b = d <;> simp [h, h']
  · simp [h]
def small {α : Type} (l : List α) : Prop := l.length ≤ 4611686018427387904
theorem pre_lt {α : Type} {xs pre suf : List α} {c : α} (h : xs = pre ++ c :: suf) : ((pre.length : Int) < (xs.length : Int)) = True := by
  subst h; simp; omega
theorem pre_w {α : Type} {xs pre suf : List α} {c : α} (h : xs = pre ++ c :: suf) (hs : small xs) : wrap64 ((pre.length : Int) + 1) = (pre.length : Int) + 1 := by
  subst h
  unfold small at hs
  rw [List.length_append, List.length_cons] at hs
  exact w64 (by omega) (by omega)
theorem pre_0 {α : Type} (pre : List α) : (0 ≤ (pre.length : Int)) = True := by simp
theorem len_lt {α : Type} (xs : List α) : ((xs.length : Int) < (xs.length : Int)) = False := by simp
theorem at_pre {xs pre suf : List Cell} {c : Cell} (h : xs = pre ++ c :: suf) : rd_T44 xs (pre.length : Int) = c := by
  subst h; exact getD_at pre suf c _
theorem at_preL {xs pre suf : List LCell} {c : LCell} (h : xs = pre ++ c :: suf) : rd_T48 xs (pre.length : Int) = c := by
  subst h; exact getD_at pre suf c _
theorem eqCellS_ev (a : List Cell) (ha : small a) : Ev (fun k => laws_eqCellS.f k a a) true := by
  unfold laws_eqCellS.f
  refine Ev.pos rfl ?_
  refine loop_list a (fun k i (_ : Unit) => laws_eqCellS.l0 k a a i) (fun _ _ _ => true) (fun _ _ => True) ?_ ?_ () trivial
  · intro _ _
    simp only [laws_eqCellS.l0, len_lt, if_false]
    exact Ev.now _
  · intro pre c suf _ hx _ ih
    simp only [laws_eqCellS.l0, pre_lt hx, pre_0, if_true, at_pre hx, eqCell_eq, and_self, decide_true, Option.bind_some, pre_w hx ha]
    exact ih () trivial
def cellOf (c : LCell) : Cell := ⟨c.f0, c.f1⟩
theorem toCellS_ev (a : List LCell) (ha : a.length ≤ 1048576) : Ev (fun k => laws_toCellS.f k a) (a.map cellOf) := by
  have hs : small a := by unfold small; omega
  unfold laws_toCellS.f
  refine Ev.pos (by omega) (Ev.pos (by omega) ?_)
  have := loop_list a (fun k i (s : List Cell) => laws_toCellS.l0 k a s i) (fun _ suf s => s.take (a.length - suf.length) ++ suf.map cellOf) (fun pre s => s.length = a.length) ?_ ?_ (List.replicate a.length z44) (by simp)
  · refine Ev.of_eq this ?_
    simp
  · intro s hl
    simp only [laws_toCellS.l0, len_lt, if_false]
    refine Ev.of_eq (Ev.now _) ?_
    simp [List.take_of_length_le, hl]
  · intro pre c suf s hx hl ih
    have hlt : ((pre.length : Int) < (s.length : Int)) = True := by rw [hl]; exact pre_lt hx
    simp only [laws_toCellS.l0, pre_lt hx, pre_0, if_true, at_preL hx, toCell_eq, Option.bind_some, hlt, pre_w hx hs]
    refine Ev.of_eq (ih (s.set (pre.length : Int).toNat ⟨c.f0, c.f1⟩) (by simpa using hl)) ?_
    have hn : a.length = pre.length + (suf.length + 1) := by rw [hx]; simp
    have e1 : a.length - suf.length = pre.length + 1 := by omega
    have e2 : a.length - (c :: suf).length = pre.length := by simp; omega
    rw [e1, e2, Int.toNat_natCast, List.take_add_one, List.getElem?_set_self (by omega), List.take_set_of_le (Nat.le_refl _)]
    simp [cellOf]
def markedC (n : Nat) : List Cell := (List.range n).map fun (i : Nat) => ⟨1 + 2 * (i : Int), 2 + 2 * (i : Int)⟩
theorem markedC_len (n : Nat) : (markedC n).length = n := by simp [markedC]
theorem markedC_get (n i : Nat) (h : i < n) : (markedC n)[i]? = some ⟨1 + 2 * (i : Int), 2 + 2 * (i : Int)⟩ := by
  simp [markedC, h]
theorem pre_get {α : Type} {xs pre suf : List α} {c : α} (h : xs = pre ++ c :: suf) : xs[pre.length]? = some c := by
  subst h; simp
theorem pre_len {α : Type} {xs pre suf : List α} {c : α} (h : xs = pre ++ c :: suf) : pre.length < xs.length := by
  subst h; simp
def fits {α : Type} (l : List α) : Prop := l.length ≤ 1048576
theorem fits.small {α : Type} {l : List α} (h : fits l) : small l := by unfold fits at h; unfold L.small; omega
theorem markCellS_ev (a : List Cell) (ha : fits a) : Ev (fun k => laws_markCellS.f k a 1) (1 + 2 * (a.length : Int), markedC a.length) := by
  unfold laws_markCellS.f
  have hs := ha.small
  unfold fits at ha
  have := loop_list a (fun k i (s : List Cell × Int) => laws_markCellS.l0 k s.1 s.2 i) (fun pre _ s => (1 + 2 * (a.length : Int), s.1.take pre.length ++ (markedC a.length).drop pre.length))
    (fun pre s => s.1.length = a.length ∧ s.2 = 1 + 2 * (pre.length : Int)) ?_ ?_ (a, 1) ⟨rfl, by simp⟩
  · simpa using this
  · rintro ⟨l, n⟩ ⟨hl, hn⟩
    simp only at hl hn
    simp only [laws_markCellS.l0, hl, len_lt, if_false]
    refine Ev.of_eq (Ev.now _) ?_
    rw [List.take_of_length_le (by omega), List.drop_of_length_le (by rw [markedC_len]; exact Nat.le_refl _), List.append_nil, hn]
  · rintro pre c suf ⟨l, n⟩ hx ⟨hl, hn⟩ ih
    have hp := pre_len hx
    simp only at hl hn
    subst hn
    have hlt : ((pre.length : Int) < (l.length : Int)) = True := by rw [hl]; exact pre_lt hx
    have e1 : wrap64 (1 + 2 * (pre.length : Int) + 1) = 2 + 2 * (pre.length : Int) := by rw [w64 (by omega) (by omega)]; omega
    have e2 : wrap64 (2 + 2 * (pre.length : Int) + 1) = 1 + 2 * ((pre.length : Int) + 1) := by rw [w64 (by omega) (by omega)]; omega
    have e3 : rd_T44 (l.set pre.length (⟨1 + 2 * (pre.length : Int), (rd_T44 l (pre.length : Int)).f1⟩ : Cell)) (pre.length : Int) = ⟨1 + 2 * (pre.length : Int), (rd_T44 l (pre.length : Int)).f1⟩ := by
      simp [rd_T44, List.getD, hl, hp]
    simp only [laws_markCellS.l0, hlt, pre_0, if_true, Option.bind_some, Int.toNat_natCast, e3, List.set_set, e1, e2, pre_w hx hs]
    refine Ev.of_eq (ih (l.set pre.length ⟨1 + 2 * (pre.length : Int), 2 + 2 * (pre.length : Int)⟩, 1 + 2 * ((pre.length : Int) + 1)) ⟨by simpa using hl, by simp⟩) ?_
    refine Prod.ext rfl ?_
    simp only [List.length_append, List.length_singleton]
    rw [List.take_add_one, List.getElem?_set_self (by omega), List.take_set_of_le (Nat.le_refl _), List.drop_eq_getElem_cons (i := pre.length) (by rw [markedC_len]; omega)]
    have := markedC_get a.length pre.length hp
    rw [List.getElem?_eq_getElem (by rw [markedC_len]; omega)] at this
    simp [Option.some.inj this]
theorem heldCellS_ev (n : Nat) (hn : n ≤ 1048576) : Ev (fun k => laws_heldCellS.f k (markedC n) 1) (1 + 2 * (n : Int)) := by
  unfold laws_heldCellS.f
  have hs : small (markedC n) := by unfold small; rw [markedC_len]; omega
  refine loop_list (markedC n) (fun k i (s : Int) => laws_heldCellS.l0 k (markedC n) s i) (fun _ _ _ => 1 + 2 * (n : Int)) (fun pre s => s = 1 + 2 * (pre.length : Int)) ?_ ?_ 1 (by simp)
  · rintro s rfl
    simp only [laws_heldCellS.l0, len_lt, if_false]
    rw [markedC_len]
    exact Ev.now _
  · rintro pre c suf s hx rfl ih
    have hp := pre_len hx
    rw [markedC_len] at hp
    have hc := pre_get hx
    rw [markedC_get n _ hp] at hc
    have hc := Option.some.inj hc
    have e1 : wrap64 (1 + 2 * (pre.length : Int) + 1) = 2 + 2 * (pre.length : Int) := by rw [w64 (by omega) (by omega)]; omega
    have e2 : wrap64 (2 + 2 * (pre.length : Int) + 1) = 1 + 2 * ((pre.length : Int) + 1) := by rw [w64 (by omega) (by omega)]; omega
    simp only [laws_heldCellS.l0, pre_lt hx, pre_0, if_true, at_pre hx, ← hc, e1, e2, pre_w hx hs]
    exact ih _ (by simp)
theorem szCellS_eq (a : List LCell) (n : Int) (h0 : 0 ≤ n) (h1 : n ≤ 1048576) (ha : a.length ≤ 9223372036854775807) : laws_szCellS.f a n = some (if n - (a.length : Int) < 0 then -1 else n - (a.length : Int)) := by
  unfold laws_szCellS.f
  rw [w64 (by omega) (by omega)]
  split <;> rfl
def cmpI (a b : Int) : Int := if a < b then -1 else if a > b then 1 else 0
theorem compare_eq (a b : Int) : cmp_Compare_int64.f a b = some (cmpI a b) := by
  unfold cmp_Compare_int64.f cmp_isNaN_int64.f cmpI
  simp only [bne_self_eq_false, Option.bind_some, Bool.false_eq_true, if_false]
  split
  · rfl
  · split <;> rfl
theorem l02Less_eq (a b c d : Int) : spec_l02Less.f a b c d = some (decide (b < d ∨ b = d ∧ a < c)) := by
  unfold spec_l02Less.f
  by_cases h : b < d
  · simp [h]
  · by_cases h' : b = d <;> simp [h, h']
    
def cmpC (a b : Cell) : Int := if cmpI a.f1 b.f1 = 0 then cmpI a.f0 b.f0 else cmpI a.f1 b.f1
theorem compareCells_eq (a b : Cell) : impl_compareCells.f a.f0 a.f1 b.f0 b.f1 = some (cmpC a b) := by
  unfold impl_compareCells.f cmpC
  simp only [compare_eq, Option.bind_some]
  split <;> rfl
theorem cmpC_lt {a b : Cell} : cmpC a b < 0 ↔ ltC a b := by
  unfold cmpC cmpI ltC
  repeat' split
  all_goals constructor <;> intro h <;> omega
theorem cmpC_ge {a b : Cell} : cmpC a b ≥ 0 ↔ ¬ ltC a b := by
  rw [← cmpC_lt]; omega
def goodFrom : Option Cell → List Cell → Bool
  | _, [] => true
  | p, c :: r => decide (okC c) && (match p with | none => true | some q => decide (ltC q c)) && goodFrom (some c) r
def shapeB (l : List Cell) : Bool := goodFrom none l && decide (1 ≤ (l.length : Int) ∧ (l.length : Int) ≤ 40)
theorem specIsShape_ev (l : List Cell) (hs : small l) : Ev (fun k => spec_IsShape.f k l) (shapeB l) := by
  unfold spec_IsShape.f
  refine loop_list l (fun k i (_ : Unit) => spec_IsShape.l0 k l i) (fun pre suf _ => goodFrom pre.getLast? suf && decide (1 ≤ (l.length : Int) ∧ (l.length : Int) ≤ 40)) (fun _ _ => True) ?_ ?_ () trivial
  · intro _ _
    simp only [spec_IsShape.l0, len_lt, if_false, in_eq, Option.bind_some]
    refine Ev.of_eq (Ev.now _) ?_
    simp [goodFrom]
  · intro pre c suf _ hx _ ih
    simp only [spec_IsShape.l0, pre_lt hx, pre_0, if_true, at_pre hx, l02Cell_eq, Option.bind_some, pre_w hx hs]
    by_cases hc : okC c
    · have hc' : ok1 c.f0 ∧ ok1 c.f1 := hc
      simp only [hc', and_self, decide_true, if_true]
      rcases List.eq_nil_or_concat pre with rfl | ⟨L, b, rfl⟩
      · refine Ev.neg (by simp) (Ev.of_eq (ih () trivial) ?_)
        simp [goodFrom, hc]
      · rw [List.concat_eq_append] at hx ih ⊢
        have hx2 : l = L ++ b :: (c :: suf) := by rw [hx]; simp
        have e1 : wrap64 (((L ++ [b]).length : Int) - 1) = (L.length : Int) := by
          unfold small at hs
          rw [hx2] at hs
          simp only [List.length_append, List.length_cons, List.length_nil] at hs ⊢
          rw [w64 (by omega) (by omega)]; omega
        refine Ev.pos (by simp <;> omega) ?_
        simp only [e1, pre_0, if_true, pre_lt hx2, at_pre hx2, l02Less_eq, Option.bind_some]
        by_cases hl : ltC b c
        · have hl' : b.f1 < c.f1 ∨ b.f1 = c.f1 ∧ b.f0 < c.f0 := hl
          refine Ev.pos (by simpa using hl') (Ev.of_eq (ih () trivial) ?_)
          simp [goodFrom, hc, hl]
        · have hl' : ¬ (b.f1 < c.f1 ∨ b.f1 = c.f1 ∧ b.f0 < c.f0) := hl
          refine Ev.neg (by simpa using hl') (Ev.of_eq (Ev.now _) ?_)
          simp [goodFrom, hc, hl]
    · have hc' : ¬ (ok1 c.f0 ∧ ok1 c.f1) := hc
      simp only [hc', decide_false, Bool.false_eq_true, if_false]
      refine Ev.of_eq (Ev.now _) ?_
      simp [goodFrom, hc]
theorem implIsShape_ev (l : List Cell) (hs : small l) : Ev (fun k => impl_IsShape.f k l) (shapeB l) := by
  unfold impl_IsShape.f
  refine loop_list l (fun k i (_ : Unit) => impl_IsShape.l0 k l l (l.length : Int) i) (fun pre suf _ => goodFrom pre.getLast? suf && decide (1 ≤ (l.length : Int) ∧ (l.length : Int) ≤ 40)) (fun _ _ => True) ?_ ?_ () trivial
  · intro _ _
    simp only [impl_IsShape.l0, len_lt, if_false]
    refine Ev.of_eq (Ev.if_ (fun _ => Ev.now _) (fun _ => Ev.now _)) ?_
    by_cases h : (l.length : Int) ≥ 1
    · rw [if_pos h]; simp [goodFrom, show 1 ≤ (l.length : Int) from h]
    · rw [if_neg h]; simp [goodFrom, show ¬ 1 ≤ (l.length : Int) from h]
  · intro pre c suf _ hx _ ih
    simp only [impl_IsShape.l0, pre_lt hx, pre_0, if_true, at_pre hx, isCoordinate_eq, Option.bind_some, pre_w hx hs]
    by_cases hc : okC c
    · have hc' : ok1 c.f0 ∧ ok1 c.f1 := hc
      simp only [hc'.1, hc'.2, decide_true, if_true]
      rcases List.eq_nil_or_concat pre with rfl | ⟨L, b, rfl⟩
      · refine Ev.neg (by simp) (Ev.of_eq (ih () trivial) ?_)
        simp [goodFrom, hc]
      · rw [List.concat_eq_append] at hx ih ⊢
        have hx2 : l = L ++ b :: (c :: suf) := by rw [hx]; simp
        have e1 : wrap64 (((L ++ [b]).length : Int) - 1) = (L.length : Int) := by
          unfold small at hs
          rw [hx2] at hs
          simp only [List.length_append, List.length_cons, List.length_nil] at hs ⊢
          rw [w64 (by omega) (by omega)]; omega
        refine Ev.pos (by simp <;> omega) ?_
        simp only [e1, pre_0, if_true, pre_lt hx2, at_pre hx2, compareCells_eq, Option.bind_some]
        by_cases hl : ltC b c
        · refine Ev.neg (fun h => cmpC_ge.1 h hl) (Ev.of_eq (ih () trivial) ?_)
          simp [goodFrom, hc, hl]
        · refine Ev.pos (cmpC_ge.2 hl) (Ev.of_eq (Ev.now _) ?_)
          simp [goodFrom, hc, hl]
    · by_cases h0 : ok1 c.f0
      · have h1 : ¬ ok1 c.f1 := fun h => hc ⟨h0, h⟩
        simp only [h0, h1, decide_true, if_true, decide_false, Bool.false_eq_true, if_false]
        refine Ev.of_eq (Ev.now _) ?_
        simp [goodFrom, hc]
      · simp only [h0, decide_false, Bool.false_eq_true, if_false]
        refine Ev.of_eq (Ev.now _) ?_
        simp [goodFrom, hc]
theorem goodFrom_ok : ∀ (l : List Cell) (p : Option Cell), goodFrom p l = true → ∀ c ∈ l, okC c
  | [], _, _, c, h => by simp at h
  | a :: r, p, hg, c, h => by
    simp only [goodFrom, Bool.and_eq_true, decide_eq_true_eq] at hg
    rcases List.mem_cons.1 h with rfl | h
    · exact hg.1.1
    · exact goodFrom_ok r _ hg.2 c h
theorem ltC_trans {a b c : Cell} (h : ltC a b) (h' : ltC b c) : ltC a c := by unfold ltC at *; omega
theorem goodFrom_lt : ∀ (l : List Cell) (p : Option Cell), goodFrom p l = true → (∀ q, p = some q → ∀ c ∈ l, ltC q c) ∧ l.Pairwise ltC
  | [], _, _ => ⟨fun _ _ c h => by simp at h, List.Pairwise.nil⟩
  | a :: r, p, hg => by
    simp only [goodFrom, Bool.and_eq_true, decide_eq_true_eq] at hg
    obtain ⟨h1, h2⟩ := goodFrom_lt r (some a) hg.2
    have h3 := h1 a rfl
    refine ⟨fun q hq c hc => ?_, List.pairwise_cons.2 ⟨h3, h2⟩⟩
    subst hq
    have h4 : ltC q a := by simpa using hg.1.2
    rcases List.mem_cons.1 hc with rfl | hc
    · exact h4
    · exact ltC_trans h4 (h3 c hc)
theorem goodFrom_of : ∀ (l : List Cell) (p : Option Cell), (∀ c ∈ l, okC c) → (∀ q, p = some q → ∀ c ∈ l, ltC q c) → l.Pairwise ltC → goodFrom p l = true
  | [], _, _, _, _ => rfl
  | a :: r, p, h0, h1, h2 => by
    obtain ⟨h3, h4⟩ := List.pairwise_cons.1 h2
    simp only [goodFrom, Bool.and_eq_true, decide_eq_true_eq]
    refine ⟨⟨h0 a List.mem_cons_self, ?_⟩, goodFrom_of r (some a) (fun c hc => h0 c (List.mem_cons_of_mem _ hc)) (fun q hq c hc => by injection hq with hq; subst hq; exact h3 c hc) h4⟩
    cases p with
    | none => rfl
    | some q => simpa using h1 q rfl a List.mem_cons_self
theorem shapeB_iff {l : List Cell} : shapeB l = true ↔ (∀ c ∈ l, okC c) ∧ l.Pairwise ltC ∧ 1 ≤ l.length ∧ l.length ≤ 40 := by
  unfold shapeB
  rw [Bool.and_eq_true, decide_eq_true_eq]
  constructor
  · rintro ⟨h, h'⟩
    exact ⟨goodFrom_ok l _ h, (goodFrom_lt l _ h).2, by omega, by omega⟩
  · rintro ⟨h1, h2, h3, h4⟩
    exact ⟨goodFrom_of l none h1 (fun _ h => by cases h) h2, by omega, by omega⟩
def minX : Int → List Cell → Int := fun z l => l.foldl (fun m c => mn m c.f0) z
def minY : Int → List Cell → Int := fun z l => l.foldl (fun m c => mn m c.f1) z
def maxX : Int → List Cell → Int := fun z l => l.foldl (fun m c => mx m c.f0) z
def maxY : Int → List Cell → Int := fun z l => l.foldl (fun m c => mx m c.f1) z
def leastOf (l : List Cell) : Int × Int := match l with | [] => (0, 0) | c :: r => (minX c.f0 r, minY c.f1 r)
def reachOf (l : List Cell) : Int × Int := match l with | [] => (0, 0) | c :: r => (maxX c.f0 r, maxY c.f1 r)
theorem implCorner_ev (l : List Cell) (hs : small l) (h0 : 0 < l.length) : Ev (fun k => impl_corner.f k l) (leastOf l) := by
  unfold impl_corner.f
  obtain ⟨c, r, rfl⟩ : ∃ c r, l = c :: r := by cases l with | nil => simp at h0 | cons c r => exact ⟨c, r, rfl⟩
  refine Ev.pos (by simp <;> omega) ?_
  have h1 : rd_T44 (c :: r) 0 = c := rfl
  rw [h1]
  have := loop_list (c :: r) (fun k i (s : Int × Int) => impl_corner.l0 k (c :: r) ((c :: r).length : Int) i s.1 s.2) (fun _ suf s => (minX s.1 suf, minY s.2 suf)) (fun _ _ => True) ?_ ?_ (c.f0, c.f1) trivial
  · refine Ev.of_eq this ?_
    simp [leastOf, minX, minY, mn]
  · rintro s _
    simp only [impl_corner.l0, len_lt, if_false]
    exact Ev.now _
  · rintro pre d suf s hx _ ih
    simp only [impl_corner.l0, pre_lt hx, pre_0, if_true, at_pre hx, pre_w hx hs]
    exact ih (mn s.1 d.f0, mn s.2 d.f1) trivial
theorem implReach_ev (l : List Cell) (hs : small l) (h0 : 0 < l.length) : Ev (fun k => impl_reach.f k l) (reachOf l) := by
  unfold impl_reach.f
  obtain ⟨c, r, rfl⟩ : ∃ c r, l = c :: r := by cases l with | nil => simp at h0 | cons c r => exact ⟨c, r, rfl⟩
  refine Ev.pos (by simp <;> omega) ?_
  have h1 : rd_T44 (c :: r) 0 = c := rfl
  rw [h1]
  have := loop_list (c :: r) (fun k i (s : Int × Int) => impl_reach.l0 k (c :: r) ((c :: r).length : Int) i s.1 s.2) (fun _ suf s => (maxX s.1 suf, maxY s.2 suf)) (fun _ _ => True) ?_ ?_ (c.f0, c.f1) trivial
  · refine Ev.of_eq this ?_
    simp [reachOf, maxX, maxY, mx]
  · rintro s _
    simp only [impl_reach.l0, len_lt, if_false]
    exact Ev.now _
  · rintro pre d suf s hx _ ih
    simp only [impl_reach.l0, pre_lt hx, pre_0, if_true, at_pre hx, pre_w hx hs]
    exact ih (mx s.1 d.f0, mx s.2 d.f1) trivial
theorem loop_tail {α σ ρ : Type} (c : α) (r : List α) (l : Nat → Int → σ → Option ρ) (g : List α → List α → σ → ρ) (Inv : List α → σ → Prop)
    (hn : ∀ s, Inv (c :: r) s → Ev (fun k => l (k + 1) ((c :: r).length : Int) s) (g (c :: r) [] s))
    (hs : ∀ (pre : List α) (d : α) (suf : List α) (s : σ), c :: r = pre ++ d :: suf → pre ≠ [] → Inv pre s → (∀ s', Inv (pre ++ [d]) s' → Ev (fun k => l k ((pre.length : Int) + 1) s') (g (pre ++ [d]) suf s')) → Ev (fun k => l (k + 1) (pre.length : Int) s) (g pre (d :: suf) s)) :
    ∀ s, Inv [c] s → Ev (fun k => l k 1 s) (g [c] r s) := by
  have key : ∀ (suf pre : List α), c :: r = pre ++ suf → pre ≠ [] → ∀ s, Inv pre s → Ev (fun k => l k (pre.length : Int) s) (g pre suf s) := by
    intro suf
    induction suf with
    | nil =>
      intro pre hx _ s hi
      rw [List.append_nil] at hx
      subst hx
      exact Ev.succ (hn s hi)
    | cons d suf ih =>
      intro pre hx hp s hi
      refine Ev.succ (hs pre d suf s hx hp hi fun s' hi' => ?_)
      have := ih (pre ++ [d]) (by rw [hx]; simp) (by simp) s' hi'
      rw [List.length_append] at this
      exact this
  intro s hi
  exact key r [c] rfl (by simp) s hi
theorem specLeast_ev (l : List Cell) (hs : small l) (h0 : 0 < l.length) : Ev (fun k => spec_l02Least.f k l) (leastOf l) := by
  unfold spec_l02Least.f
  obtain ⟨c, r, rfl⟩ : ∃ c r, l = c :: r := by cases l with | nil => simp at h0 | cons c r => exact ⟨c, r, rfl⟩
  refine Ev.pos (by simp <;> omega) ?_
  have h1 : rd_T44 (c :: r) 0 = c := rfl
  rw [h1]
  refine loop_tail c r (fun k i (s : Int × Int) => spec_l02Least.l0 k (c :: r) s.1 s.2 i) (fun _ suf s => (minX s.1 suf, minY s.2 suf)) (fun _ _ => True) ?_ ?_ (c.f0, c.f1) trivial
  · rintro s _
    simp only [spec_l02Least.l0, len_lt, if_false]
    exact Ev.now _
  · rintro pre d suf s hx _ _ ih
    simp only [spec_l02Least.l0, pre_lt hx, pre_0, if_true, at_pre hx, pre_w hx hs]
    exact ih (mn s.1 d.f0, mn s.2 d.f1) trivial
theorem minX_le : ∀ (l : List Cell) (z : Int), minX z l ≤ z ∧ (∀ c ∈ l, minX z l ≤ c.f0) ∧ (minX z l = z ∨ ∃ c ∈ l, minX z l = c.f0)
  | [], z => ⟨Int.le_refl _, fun c h => by simp at h, .inl rfl⟩
  | a :: r, z => by
    obtain ⟨h1, h2, h3⟩ := minX_le r (mn z a.f0)
    have h4 : mn z a.f0 ≤ z ∧ mn z a.f0 ≤ a.f0 ∧ (mn z a.f0 = z ∨ mn z a.f0 = a.f0) := by unfold mn; split <;> omega
    have e : minX z (a :: r) = minX (mn z a.f0) r := rfl
    rw [e]
    refine ⟨by omega, fun c hc => ?_, ?_⟩
    · rcases List.mem_cons.1 hc with rfl | hc
      · omega
      · exact h2 c hc
    · rcases h3 with h3 | ⟨c, hc, h3⟩
      · rcases h4.2.2 with h5 | h5
        · exact .inl (h3.trans h5)
        · exact .inr ⟨a, List.mem_cons_self, h3.trans h5⟩
      · exact .inr ⟨c, List.mem_cons_of_mem _ hc, h3⟩
theorem minY_le : ∀ (l : List Cell) (z : Int), minY z l ≤ z ∧ (∀ c ∈ l, minY z l ≤ c.f1) ∧ (minY z l = z ∨ ∃ c ∈ l, minY z l = c.f1)
  | [], z => ⟨Int.le_refl _, fun c h => by simp at h, .inl rfl⟩
  | a :: r, z => by
    obtain ⟨h1, h2, h3⟩ := minY_le r (mn z a.f1)
    have h4 : mn z a.f1 ≤ z ∧ mn z a.f1 ≤ a.f1 ∧ (mn z a.f1 = z ∨ mn z a.f1 = a.f1) := by unfold mn; split <;> omega
    have e : minY z (a :: r) = minY (mn z a.f1) r := rfl
    rw [e]
    refine ⟨by omega, fun c hc => ?_, ?_⟩
    · rcases List.mem_cons.1 hc with rfl | hc
      · omega
      · exact h2 c hc
    · rcases h3 with h3 | ⟨c, hc, h3⟩
      · rcases h4.2.2 with h5 | h5
        · exact .inl (h3.trans h5)
        · exact .inr ⟨a, List.mem_cons_self, h3.trans h5⟩
      · exact .inr ⟨c, List.mem_cons_of_mem _ hc, h3⟩
theorem maxX_ge : ∀ (l : List Cell) (z : Int), z ≤ maxX z l ∧ (∀ c ∈ l, c.f0 ≤ maxX z l) ∧ (maxX z l = z ∨ ∃ c ∈ l, maxX z l = c.f0)
  | [], z => ⟨Int.le_refl _, fun c h => by simp at h, .inl rfl⟩
  | a :: r, z => by
    obtain ⟨h1, h2, h3⟩ := maxX_ge r (mx z a.f0)
    have h4 : z ≤ mx z a.f0 ∧ a.f0 ≤ mx z a.f0 ∧ (mx z a.f0 = z ∨ mx z a.f0 = a.f0) := by unfold mx; split <;> omega
    have e : maxX z (a :: r) = maxX (mx z a.f0) r := rfl
    rw [e]
    refine ⟨by omega, fun c hc => ?_, ?_⟩
    · rcases List.mem_cons.1 hc with rfl | hc
      · omega
      · exact h2 c hc
    · rcases h3 with h3 | ⟨c, hc, h3⟩
      · rcases h4.2.2 with h5 | h5
        · exact .inl (h3.trans h5)
        · exact .inr ⟨a, List.mem_cons_self, h3.trans h5⟩
      · exact .inr ⟨c, List.mem_cons_of_mem _ hc, h3⟩
theorem maxY_ge : ∀ (l : List Cell) (z : Int), z ≤ maxY z l ∧ (∀ c ∈ l, c.f1 ≤ maxY z l) ∧ (maxY z l = z ∨ ∃ c ∈ l, maxY z l = c.f1)
  | [], z => ⟨Int.le_refl _, fun c h => by simp at h, .inl rfl⟩
  | a :: r, z => by
    obtain ⟨h1, h2, h3⟩ := maxY_ge r (mx z a.f1)
    have h4 : z ≤ mx z a.f1 ∧ a.f1 ≤ mx z a.f1 ∧ (mx z a.f1 = z ∨ mx z a.f1 = a.f1) := by unfold mx; split <;> omega
    have e : maxY z (a :: r) = maxY (mx z a.f1) r := rfl
    rw [e]
    refine ⟨by omega, fun c hc => ?_, ?_⟩
    · rcases List.mem_cons.1 hc with rfl | hc
      · omega
      · exact h2 c hc
    · rcases h3 with h3 | ⟨c, hc, h3⟩
      · rcases h4.2.2 with h5 | h5
        · exact .inl (h3.trans h5)
        · exact .inr ⟨a, List.mem_cons_self, h3.trans h5⟩
      · exact .inr ⟨c, List.mem_cons_of_mem _ hc, h3⟩
theorem least_le {l : List Cell} {c : Cell} (h : c ∈ l) : (leastOf l).1 ≤ c.f0 ∧ (leastOf l).2 ≤ c.f1 := by
  cases l with
  | nil => simp at h
  | cons a r =>
    have hx := minX_le r a.f0
    have hy := minY_le r a.f1
    show minX a.f0 r ≤ c.f0 ∧ minY a.f1 r ≤ c.f1
    rcases List.mem_cons.1 h with rfl | h
    · exact ⟨hx.1, hy.1⟩
    · exact ⟨hx.2.1 c h, hy.2.1 c h⟩
theorem reach_ge {l : List Cell} {c : Cell} (h : c ∈ l) : c.f0 ≤ (reachOf l).1 ∧ c.f1 ≤ (reachOf l).2 := by
  cases l with
  | nil => simp at h
  | cons a r =>
    have hx := maxX_ge r a.f0
    have hy := maxY_ge r a.f1
    show c.f0 ≤ maxX a.f0 r ∧ c.f1 ≤ maxY a.f1 r
    rcases List.mem_cons.1 h with rfl | h
    · exact ⟨hx.1, hy.1⟩
    · exact ⟨hx.2.1 c h, hy.2.1 c h⟩
theorem least_mem {l : List Cell} (h : l ≠ []) : (∃ c ∈ l, (leastOf l).1 = c.f0) ∧ (∃ c ∈ l, (leastOf l).2 = c.f1) := by
  cases l with
  | nil => exact absurd rfl h
  | cons a r =>
    refine ⟨?_, ?_⟩
    · rcases (minX_le r a.f0).2.2 with e | ⟨c, hc, e⟩
      · exact ⟨a, List.mem_cons_self, e⟩
      · exact ⟨c, List.mem_cons_of_mem _ hc, e⟩
    · rcases (minY_le r a.f1).2.2 with e | ⟨c, hc, e⟩
      · exact ⟨a, List.mem_cons_self, e⟩
      · exact ⟨c, List.mem_cons_of_mem _ hc, e⟩
theorem reach_mem {l : List Cell} (h : l ≠ []) : (∃ c ∈ l, (reachOf l).1 = c.f0) ∧ (∃ c ∈ l, (reachOf l).2 = c.f1) := by
  cases l with
  | nil => exact absurd rfl h
  | cons a r =>
    refine ⟨?_, ?_⟩
    · rcases (maxX_ge r a.f0).2.2 with e | ⟨c, hc, e⟩
      · exact ⟨a, List.mem_cons_self, e⟩
      · exact ⟨c, List.mem_cons_of_mem _ hc, e⟩
    · rcases (maxY_ge r a.f1).2.2 with e | ⟨c, hc, e⟩
      · exact ⟨a, List.mem_cons_self, e⟩
      · exact ⟨c, List.mem_cons_of_mem _ hc, e⟩
theorem least_ok {l : List Cell} (h : l ≠ []) (ho : ∀ c ∈ l, okC c) : ok1 (leastOf l).1 ∧ ok1 (leastOf l).2 := by
  obtain ⟨⟨c, hc, e⟩, ⟨d, hd, e'⟩⟩ := least_mem h
  rw [e, e']
  exact ⟨(ho c hc).1, (ho d hd).2⟩
def sizeOf_ (l : List Cell) : Int × Int := ((reachOf l).1 - (leastOf l).1 + 1, (reachOf l).2 - (leastOf l).2 + 1)
theorem foldW (x : Int) : ∀ (l : List Cell) (m : Int), l.foldl (fun m c => mx m (c.f0 - x + 1)) (m - x + 1) = maxX m l - x + 1
  | [], m => rfl
  | a :: r, m => by
    have : mx (m - x + 1) (a.f0 - x + 1) = mx m a.f0 - x + 1 := by unfold mx; split <;> split <;> omega
    simp only [List.foldl_cons, this, foldW x r]
    rfl
theorem foldH (x : Int) : ∀ (l : List Cell) (m : Int), l.foldl (fun m c => mx m (c.f1 - x + 1)) (m - x + 1) = maxY m l - x + 1
  | [], m => rfl
  | a :: r, m => by
    have : mx (m - x + 1) (a.f1 - x + 1) = mx m a.f1 - x + 1 := by unfold mx; split <;> split <;> omega
    simp only [List.foldl_cons, this, foldH x r]
    rfl
theorem specSize_ev (l : List Cell) (hs : small l) (h0 : l ≠ []) (ho : ∀ c ∈ l, okC c) : Ev (fun k => spec_l04Size.f k l) (sizeOf_ l) := by
  unfold spec_l04Size.f
  refine Ev.bind (specLeast_ev l hs (List.length_pos_iff.2 h0)) ?_
  have hb := least_ok h0 ho
  have := loop_list l (fun k i (s : Int × Int) => spec_l04Size.l0 k l (leastOf l).1 (leastOf l).2 s.1 s.2 i)
    (fun _ suf s => (suf.foldl (fun m c => mx m (c.f0 - (leastOf l).1 + 1)) s.1, suf.foldl (fun m c => mx m (c.f1 - (leastOf l).2 + 1)) s.2)) (fun _ _ => True) ?_ ?_ (0, 0) trivial
  · refine Ev.of_eq this ?_
    obtain ⟨a, r, rfl⟩ : ∃ a r, l = a :: r := by cases l with | nil => exact absurd rfl h0 | cons a r => exact ⟨a, r, rfl⟩
    have hl := least_le (l := a :: r) (c := a) List.mem_cons_self
    have e1 : mx 0 (a.f0 - (leastOf (a :: r)).1 + 1) = a.f0 - (leastOf (a :: r)).1 + 1 := by unfold mx; split <;> omega
    have e2 : mx 0 (a.f1 - (leastOf (a :: r)).2 + 1) = a.f1 - (leastOf (a :: r)).2 + 1 := by unfold mx; split <;> omega
    simp only [List.foldl_cons, e1, e2, foldW, foldH]
    rfl
  · rintro s _
    simp only [spec_l04Size.l0, len_lt, if_false]
    exact Ev.now _
  · rintro pre d suf s hx _ ih
    have hd := ho d (by rw [hx]; simp)
    unfold okC ok1 at hd
    unfold ok1 at hb
    have e1 : wrap64 (wrap64 (d.f0 - (leastOf l).1) + 1) = d.f0 - (leastOf l).1 + 1 := by rw [w64 (n := d.f0 - (leastOf l).1) (by omega) (by omega), w64 (by omega) (by omega)]
    have e2 : wrap64 (wrap64 (d.f1 - (leastOf l).2) + 1) = d.f1 - (leastOf l).2 + 1 := by rw [w64 (n := d.f1 - (leastOf l).2) (by omega) (by omega), w64 (by omega) (by omega)]
    simp only [spec_l04Size.l0, pre_lt hx, pre_0, if_true, at_pre hx, pre_w hx hs, e1, e2]
    exact ih (mx s.1 (d.f0 - (leastOf l).1 + 1), mx s.2 (d.f1 - (leastOf l).2 + 1)) trivial
theorem shape_ne {l : List Cell} (h : shapeB l = true) : l ≠ [] := by
  have := (shapeB_iff.1 h).2.2.1
  intro e
  rw [e] at this
  simp at this
def sameC (a b : Cell) : Bool := decide (a.f0 = b.f0) && decide (a.f1 = b.f1)
theorem sameC_iff {a b : Cell} : sameC a b = true ↔ a = b := by
  obtain ⟨a0, a1⟩ := a
  obtain ⟨b0, b1⟩ := b
  simp [sameC]
def idxF : List Cell → Cell → Int → Int
  | [], _, _ => -1
  | a :: r, c, i => if sameC a c = true then i else idxF r c (i + 1)
def idxC (l : List Cell) (c : Cell) : Int := idxF l c 0
theorem specIndex_ev (l : List Cell) (c : Cell) (hs : small l) : Ev (fun k => spec_l02Index.f k l c.f0 c.f1) (idxC l c) := by
  unfold spec_l02Index.f
  refine loop_list l (fun k i (_ : Unit) => spec_l02Index.l0 k l i c.f0 c.f1) (fun pre suf _ => idxF suf c (pre.length : Int)) (fun _ _ => True) ?_ ?_ () trivial
  · intro _ _
    simp only [spec_l02Index.l0, len_lt, if_false]
    exact Ev.now _
  · intro pre d suf _ hx _ ih
    simp only [spec_l02Index.l0, pre_lt hx, pre_0, if_true, at_pre hx, pre_w hx hs, idxF]
    have e : (d.f0 == c.f0 && d.f1 == c.f1) = sameC d c := by simp [sameC, BEq.beq]
    rw [e]
    refine Ev.if_ (fun _ => Ev.now _) (fun _ => Ev.of_eq (ih () trivial) ?_)
    simp
theorem idxF_spec : ∀ (l : List Cell) (c : Cell) (i : Int), 0 ≤ i → (idxF l c i = -1 ∧ c ∉ l) ∨ (∃ j : Nat, j < l.length ∧ idxF l c i = i + (j : Int) ∧ l[j]? = some c ∧ ∀ q : Nat, q < j → l[q]? ≠ some c)
  | [], c, i, _ => .inl ⟨rfl, by simp⟩
  | a :: r, c, i, hi => by
    unfold idxF
    by_cases h : sameC a c = true
    · rw [if_pos h]
      exact .inr ⟨0, by simp, by simp, by simp [sameC_iff.1 h], fun q hq => by omega⟩
    · rw [if_neg h]
      have hne : a ≠ c := fun e => h (sameC_iff.2 e)
      rcases idxF_spec r c (i + 1) (by omega) with ⟨h1, h2⟩ | ⟨j, h1, h2, h3, h4⟩
      · exact .inl ⟨h1, by simp only [List.mem_cons, not_or]; exact ⟨fun e => hne e.symm, h2⟩⟩
      · refine .inr ⟨j + 1, by simpa using h1, by rw [h2]; simp; omega, by simpa using h3, fun q hq => ?_⟩
        cases q with
        | zero => simpa using hne
        | succ q => simpa using h4 q (by omega)
theorem idxC_spec (l : List Cell) (c : Cell) : (idxC l c = -1 ∧ c ∉ l) ∨ (∃ j : Nat, j < l.length ∧ idxC l c = (j : Int) ∧ l[j]? = some c ∧ ∀ q : Nat, q < j → l[q]? ≠ some c) := by
  rcases idxF_spec l c 0 (Int.le_refl _) with h | ⟨j, h1, h2, h3⟩
  · exact .inl h
  · exact .inr ⟨j, h1, by unfold idxC; rw [h2]; omega, h3⟩
theorem idxC_mem (l : List Cell) (c : Cell) : idxC l c ≥ 0 ↔ c ∈ l := by
  rcases idxC_spec l c with ⟨h1, h2⟩ | ⟨j, h1, h2, h3, _⟩
  · rw [h1]; constructor
    · intro h; omega
    · intro h; exact absurd h h2
  · rw [h2]; constructor
    · intro _; exact List.mem_of_getElem? h3
    · intro _; omega
end Go.Proofs.Ytaecheolnpofeaa.L
end
section
namespace Go.Proofs.Ytaecheolnpofeaa.L
open Go.RowKit Go.Proofs.YtaecheolnpofeaaW.PrintWords Go.Proofs.YtaecheolnpofeaaW.PrintLast Go.Proofs.YtaecheolnpofeaaW.PrintMore Go.Proofs.Ytaecheolnpofeaa.F
set_option linter.unusedVariables false
set_option linter.unusedSimpArgs false
def visit1 (l : List Cell) (i : Int) (s : List Int × List Int) (d : Cell) : List Int × List Int :=
  if idxC l d ≥ 0 ∧ rd s.1 (idxC l d) < 0 then (s.1.set (idxC l d).toNat i, s.2 ++ [idxC l d]) else s
def visit (l : List Cell) (i : Int) (ds : List Cell) (s : List Int × List Int) : List Int × List Int := ds.foldl (visit1 l i) s
def negs (o : List Int) : Nat := o.countP fun x => decide (x < 0)
structure Fine (l : List Cell) (o q : List Int) : Prop where
  len : o.length = l.length
  rng : ∀ j ∈ q, 0 ≤ j ∧ j < (l.length : Int)
theorem idxC_lt (l : List Cell) (d : Cell) : idxC l d < (l.length : Int) := by
  rcases idxC_spec l d with ⟨h, _⟩ | ⟨j, h1, h2, _⟩
  · omega
  · omega
theorem rd_set (o : List Int) (j : Nat) (i : Int) (q : Int) (hj : j < o.length) : rd (o.set j i) q = if q.toNat = j then i else rd o q := by
  unfold rd
  rw [List.getD_eq_getElem?_getD, List.getD_eq_getElem?_getD]
  by_cases h : q.toNat = j
  · rw [if_pos h, h, List.getElem?_set_self hj]; rfl
  · rw [if_neg h, List.getElem?_set_ne (by omega)]
theorem negs_set (o : List Int) (j : Int) (i : Int) (h0 : 0 ≤ j) (h1 : j < (o.length : Int)) (h : rd o j < 0) (hi : 0 ≤ i) : negs (o.set j.toNat i) + 1 = negs o := by
  have hj : j.toNat < o.length := by omega
  have hr : o[j.toNat] < 0 := by
    unfold rd at h
    rw [List.getD_eq_getElem?_getD, List.getElem?_eq_getElem hj] at h
    exact h
  unfold negs
  have hpos : 0 < o.countP fun x => decide (x < 0) := List.countP_pos_iff.2 ⟨_, List.getElem_mem hj, by simpa using hr⟩
  rw [List.countP_set hj]
  have e1 : decide (i < 0) = false := decide_eq_false (by omega)
  have e2 : decide (o[j.toNat] < 0) = true := decide_eq_true hr
  simp only [e1, e2, if_true]
  simp
  omega
end Go.Proofs.Ytaecheolnpofeaa.L
end
