/- The row of FnTriangleForms, with what it needs: text 8 of 10. -/
import Derived.Test.YtlnliahadgmbcaaKTF6
import Derived.ChangeArms
import Derived.ChangeSame
import Derived.Deep.Fields
import Derived.Deep.Slices
import Derived.Deep.Strs
import Derived.WideShapes
set_option maxHeartbeats 8000000
set_option maxRecDepth 100000
section
namespace Go.Proofs.Ytlnliahadgmbcaa.F
open Go.RowKit Go.Proofs.YtlnliahadgmbcaaW.PrintWords Go.Proofs.YtlnliahadgmbcaaW.PrintLast Go.Proofs.YtlnliahadgmbcaaW.PrintMore
attribute [local go_sem] max2_int min2_int max_two min_two max_three min_three max_four min_four
set_option linter.unusedVariables false
set_option linter.unusedSimpArgs false
def impl_parts__impl_trianglesAround.f (k : Nat) (l0 : List (S59)) : Option (List Int) := if l0.all wfC = true then (if 0 ≤ (l0.length : Int) then (if ((l0.length : Int) : Int).toNat ≤ 35184372088832 then (impl_parts__impl_trianglesAround.l0 k l0 (List.replicate ((l0.length : Int) : Int).toNat 0) l0 (l0.length : Int) 0) else (none)) else (none)) else none
theorem impl_parts__impl_trianglesAround.calls (k : Nat) (A0 : Option Addr) (c0 : Nat) (l0 : List (S59))  (r : List Int) (w : World) (hr0 : Kd.C k59 w A0 l0.length l0) (hc0 : l0.length ≤ c0) (h : impl_parts__impl_trianglesAround.f k l0 = some r) :
  Calls Try.prog 83 #[.slice A0 l0.length c0, .func (.func 45) #[] #[]] w fun e w' => ∃ v0_ : Value, e = .returned (v0_) ∧ Kd.R (Kd.int .i64) 2 w' w.heap.size (fun _ => True) v0_ r ∧ Below w.heap.size w w' := by
 have hu59 := Try.underlying59
 have HR0 := aM hr0
 have HC0 := aM hc0
 clear hr0 hc0
 have HB := aM (Below.refl w.heap.size w)
 have Hwf : l0.all wfC = true := by
  by_cases hh : l0.all wfC = true
  ·exact hh
  unfold impl_parts__impl_trianglesAround.f at h; rw [if_neg hh] at h; cases h
 have H : (if 0 ≤ (l0.length : Int) then (if ((l0.length : Int) : Int).toNat ≤ 35184372088832 then (impl_parts__impl_trianglesAround.l0 k l0 (List.replicate ((l0.length : Int) : Int).toNat 0) l0 (l0.length : Int) 0) else (none)) else (none)) = some r := by unfold impl_parts__impl_trianglesAround.f at h; rw [if_pos Hwf] at h; exact h
 clear h
 by_cases c3 : 0 ≤ (l0.length : Int)
 rotate_left
 ·rw [if_neg c3] at H
  exact absurd H (by simp)
 rw [if_pos c3] at H
 have c3b0 := eq_true c3
 have c3b1 : decide (0 ≤ (l0.length : Int)) = true := decide_eq_true c3
 clear c3
 by_cases c4 : ((l0.length : Int) : Int).toNat ≤ 35184372088832
 rotate_left
 ·rw [if_neg c4] at H
  exact absurd H (by simp)
 rw [if_pos c4] at H
 have c4b0 := eq_true c4
 have c4b1 : decide (((l0.length : Int) : Int).toNat ≤ 35184372088832) = true := decide_eq_true c4
 have HLN : Aside0 (l0.length ≤ 35184372088832) := ⟨by have := of_decide_eq_true c4b1; omega⟩
 clear c4
 obtain ⟨y475, hy475⟩ : ∃ y_ : List Int, y_ = (List.replicate ((l0.length : Int) : Int).toNat 0) := ⟨_, rfl⟩
 replace H : (impl_parts__impl_trianglesAround.l0 k l0 y475 l0 (l0.length : Int) 0) = some r := zy H hy475
 have Ny475 := aM hy475
 clear hy475
 have H' := aM H
 clear H
 go_enter Try.func83, Try.ntmps83
 go_wp2_with (first | ((with_reducible refine gate_dst (N := 16) rfl ?_); refine pm_make rfl rfl ?_; intro bm w40_ hb hlt_ hM_; have HM := aM hM_; have HMB := aM (Nat.le_trans (below_size zb) hlt_); have n1_ := aM (below_step zb hb); clear HB; have HB := n1_; clear n1_ hM_ hb hlt_) | ((with_reducible refine gate_dst (N := 19) rfl ?_); refine Kd.R_make (Kd.int .i64) _ 2 rfl (N := 19) rfl 40 _ _ rfl (l0.length : Int) rfl rfl Try.underlying40 (.int .i64 0) 8 info2 rfl (by decide) (by omega) 0 (ok := fun _ => True) (okp := fun _ => True) rfl (fun _ hk => hk) trivial (of_decide_eq_true za) (Nat.le_trans (Nat.mul_le_mul_right _ (of_decide_eq_true za : (l0.length : Int).toNat ≤ 35184372088832)) (by omega)) (Below.refl _ _) (Nat.le_refl _) ?_; intro v476 w5 ho6 hb hg_ hnew_; clear hg_ hnew_; have m0_ := aM (pm_step (by (with_reducible repeat (first | apply pm_alloc | apply pm_drewN | apply pm_drew | refine pm_farN ?_ (by assumption) _)); exact HM.out) hb); clear HM; have HM := m0_; clear m0_; (first | rw [← Ny475.out] at ho6 | (simp only [Int.reduceToNat] at ho6; rw [← Ny475.out] at ho6)); have n0_ := aM (Kd.R_lower ho6 (below_size zb)); have n1_ := aM (below_step zb hb); clear HB; have HO477 := n0_; have HB := n1_; clear n0_ n1_; clear hb ho6))
 go_loopg [22] k (fun kq v22 w' => ∃ (x6_1 : List Int) (x22_1 : Int), v22 = .int .i64 x22_1 ∧ Aside0 (impl_parts__impl_trianglesAround.l0 kq l0 x6_1 l0 (l0.length : Int) x22_1 = some r) ∧ Aside0 (kq ≤ k) ∧ Aside0 (Kd.R (Kd.int .i64) 2 w' w.heap.size (fun _ => True) v476 x6_1) ∧ Aside0 (Below w.heap.size w w') ∧ Aside0 (0 ≤ x22_1) ∧ Aside0 (PM w' bm (l0.take x22_1.toNat)))
 case atStart => exact ⟨(y475), (0), zr, H', ⟨Nat.le_refl _⟩, ⟨mR_ HO477.out⟩, ⟨zb⟩, ⟨Int.le_refl _⟩, ⟨(by (with_reducible repeat (first | apply pm_alloc | apply pm_drewN | apply pm_drew | refine pm_farN ?_ (by assumption) _)); exact HM.out)⟩⟩
 case round =>
  clear H'
  try clear p2
  try clear c3
  try clear c3b0
  try clear c3b1
  try clear c4
  try clear c4b0
  try clear c4b1
  obtain ⟨x6_1, x22_1, rfl, HA, HK1, HO_6, HB, HI, HM⟩ := hrel
  cases gk with
  | zero => exact absurd HA.out (by simp [impl_parts__impl_trianglesAround.l0])
  | succ k1 =>
   have H := HA.out
   clear HA
   simp only [impl_parts__impl_trianglesAround.l0] at H
   by_cases c7 : x22_1 < (l0.length : Int)
   ·rw [if_pos c7] at H
    have c7b0 : decide (x22_1 < (l0.length : Int)) = true := decide_eq_true c7
    clear c7
    by_cases c8 : 0 ≤ x22_1
    rotate_left
    ·rw [if_neg c8] at H
     exact absurd H (by simp)
    rw [if_pos c8] at H
    have c8b0 : decide (0 ≤ x22_1) = true := decide_eq_true c8
    clear c8
    by_cases c9 : x22_1 < (l0.length : Int)
    rotate_left
    ·rw [if_neg c9] at H
     exact absurd H (by simp)
    rw [if_pos c9] at H
    have c9b0 : decide (x22_1 < (l0.length : Int)) = true := decide_eq_true c9
    clear c9
    by_cases c10 : x22_1 < (x6_1.length : Int)
    rotate_left
    ·rw [if_neg c10] at H
     exact absurd H (by simp)
    rw [if_pos c10] at H
    have c10b0 : decide (x22_1 < (x6_1.length : Int)) = true := decide_eq_true c10
    clear c10
    obtain ⟨y480, hy480⟩ : ∃ y_ : List Int, y_ = (x6_1.set (x22_1 : Int).toNat (-1)) := ⟨_, rfl⟩
    replace H : (impl_parts__impl_trianglesAround.l0 k1 l0 y480 l0 (l0.length : Int) (wrap64 (x22_1 + 1))) = some r := zy H hy480
    have Ny480 := aM hy480
    clear hy480
    have H' := aM H
    clear H
    have p478 : 0 ≤ (x22_1 : Int) := of_decide_eq_true za
    have q478 : x22_1 < (l0.length : Int) := of_decide_eq_true za
    obtain ⟨ad478, e478, hx478_0, hx478_1⟩ := at_T59 HR0.out x22_1 p478 q478
    cases e478
    replace hx478_0 := zk HB.out hx478_0
    replace hx478_1 := zk HB.out hx478_1
    replace p478 := eq_true p478
    replace q478 := eq_true q478
    go_wp2_with (first | ((with_reducible refine gate_dst (N := 8) rfl ?_); refine zx 8 #[.int .i64 0, .int .i64 0] 59 ?_; intro gb479 hg w12 hbox hb; have hne479 : bm ≠ gb479 := (by rw [hg]; exact Nat.ne_of_lt (pm_lt (by (with_reducible repeat (first | apply pm_alloc | apply pm_drewN | apply pm_drew | refine pm_farN ?_ (by assumption) _)); exact HM.out))); have m0_ := aM (pm_step (by (with_reducible repeat (first | apply pm_alloc | apply pm_drewN | apply pm_drew | refine pm_farN ?_ (by assumption) _)); exact HM.out) hb); clear HM; have HM := m0_; clear m0_; have n0_ := aM (Kd.R_below (mR_ HO_6.out) hb); have n1_ := aM (below_step zb hb); have n2_ := aM (hbox); have n3_ := aM ((ze : w.heap.size ≤ gb479)); have n4_ := aM ((ze : w.heap.size ≤ gb479)); clear HO_6 HB; have HO_6 := n0_; have HB := n1_; have BK479 := n2_; have GW479 := n3_; have GE479 := n4_; clear n0_ n1_ n2_ n3_ n4_ hb hbox hg; have hcz13_0 : w12.cell? ⟨gb479, 0, none⟩ = some (.int .i64 0) := (blk_cell BK479.out 0).trans rfl; have hcz13_1 : w12.cell? ⟨gb479, 1, none⟩ = some (.int .i64 0) := (blk_cell BK479.out 1).trans rfl; have hfz13_0 := blk_frozen BK479.out 0; have hfz13_1 := blk_frozen BK479.out 1) | ((with_reducible refine gate_store (t := 59) (p := 8) rfl ?_); refine store_event (t := 59) (p := 8) (v := ?vo_w14) (w1 := ((w12.setCell ⟨gb479, 0, none⟩ (.int .i64 ((rd_T59 l0 x22_1).f0))).setCell ⟨gb479, 1, none⟩ (.int .i64 ((rd_T59 l0 x22_1).f1)))) ?hg ?ho ?hn ?hr ?_; (case ho => rfl); (case hg => rfl); (case hn => rfl); (case hr => first | (go_simp; done) | (go_simp; rfl)); intro w14 hw; have m0_ : Aside0 (PM w14 bm (l0.take x22_1.toNat)) := ⟨(by rw [hw]; exact (by (with_reducible repeat (first | apply pm_alloc | apply pm_drewN | apply pm_drew | refine pm_farN ?_ (by assumption) _)); exact HM.out))⟩; clear HM; have HM := m0_; clear m0_; have n0_ : Aside0 (Kd.R (Kd.int .i64) 2 w14 w.heap.size (fun _ => True) v476 x6_1) := ⟨(by rw [hw]; exact (by (with_reducible repeat (first | apply Kd.R_alloc | apply Kd.R_drewN | apply Kd.R_drew)); exact Kd.R_mono (Kd.R_far (p := ⟨gb479, 1, none⟩) (Kd.R_far (p := ⟨gb479, 0, none⟩) (Kd.R_types HO_6.out BK479.out (by decide)) (fun _ hk => hk.2) (.int .i64 ((rd_T59 l0 x22_1).f0))) (fun _ hk => hk.2) (.int .i64 ((rd_T59 l0 x22_1).f1))) (fun _ hk => trivial)))⟩; have n1_ : Aside0 (w14.heap[gb479]? = some (.cells #[.int .i64 ((rd_T59 l0 x22_1).f0), .int .i64 ((rd_T59 l0 x22_1).f1)] 59 (0, 0))) := ⟨(by rw [hw]; exact (by (with_reducible repeat (first | refine blk_drewN ?_ _ | refine blk_drew ?_ | refine blk_alloc ?_ _)); refine blk_put (cs := #[.int .i64 ((rd_T59 l0 x22_1).f0), .int .i64 0]) ?_ 1 _ rfl; (with_reducible repeat (first | refine blk_drewN ?_ _ | refine blk_drew ?_ | refine blk_alloc ?_ _)); refine blk_put (cs := #[.int .i64 0, .int .i64 0]) ?_ 0 _ rfl; (with_reducible repeat (first | refine blk_drewN ?_ _ | refine blk_drew ?_ | refine blk_alloc ?_ _)); exact BK479.out))⟩; have n2_ : Aside0 (Below w.heap.size w w14) := ⟨(by rw [hw]; exact (zs GE479.out))⟩; clear hw HO_6 BK479 HB; have HO_6 := n0_; have BK479 := n1_; have HB := n2_; clear n0_ n1_ n2_; have hcz15_0 : w14.cell? ⟨gb479, 0, none⟩ = some (.int .i64 ((rd_T59 l0 x22_1).f0)) := (blk_cell BK479.out 0).trans rfl; have hcz15_1 : w14.cell? ⟨gb479, 1, none⟩ = some (.int .i64 ((rd_T59 l0 x22_1).f1)) := (blk_cell BK479.out 1).trans rfl; have hfz15_0 := blk_frozen BK479.out 0; have hfz15_1 := blk_frozen BK479.out 1) | ((with_reducible refine gate_map (t := 96) (m := .tmp 27) (x := .tmp 28) (v := .tmp 29) rfl ?_); refine pm_putAt rfl _ _ _ rfl rfl x22_1 ?hM HI.out ?h1 HLN.out Hwf rfl rfl ?_; (case hM => exact (by (with_reducible repeat (first | apply pm_alloc | apply pm_drewN | apply pm_drew | refine pm_farN ?_ (by assumption) _)); exact HM.out)); (case h1 => exact of_decide_eq_true za); intro w14 hg hi_ m0h_; have n0_ := aM (R_map (mR_ HO_6.out) (by (with_reducible repeat (first | apply pm_alloc | apply pm_drewN | apply pm_drew | refine pm_farN ?_ (by assumption) _)); exact HM.out) hg); have n1_ := aM (blk_grown (g := gb479) (o := .cells #[.int .i64 ((rd_T59 l0 x22_1).f0), .int .i64 ((rd_T59 l0 x22_1).f1)] 59 (0, 0)) (mB_ BK479.out) hg (by simpa using Ne.symm (hne479))); have n2_ := aM (pw_below_grown zb (some bm) (below_size zb) hg (fun _ hk_ => by injection hk_ with hk_; subst hk_; exact HMB.out)); clear HM HO_6 BK479 HB HI; have HM := aM m0h_; have HI := aM hi_; have HO_6 := n0_; have BK479 := n1_; have HB := n2_; clear n0_ n1_ n2_ hg m0h_ hi_; have p11 : 0 ≤ (x22_1 : Int) := of_decide_eq_true za; have q11 : (x22_1 : Int) < ((x6_1.length : Int) : Int) := of_decide_eq_true za; obtain ⟨go11, co11, eo11, gb11, gl11, cl11, HG11⟩ := Kd.R_form HO_6.out (by omega); (first | cases eo11 | (injection eo11 with ea_ en_ ec_; (first | subst ea_ | (injection ea_ with ea_; subst ea_)); subst ec_; clear en_)); have GB11 := aM gb11; have GG11 := aM HG11; clear gb11 gl11 HG11; obtain ⟨hx11_0, hf11_0⟩ := Kd.R_celln 0 HO_6.out (x22_1 : Int) p11 q11; replace p11 := eq_true p11; replace q11 := eq_true q11; obtain ⟨hy16_, hz16_⟩ := Kd.R_celln 0 HO_6.out (x22_1 : Int) (of_decide_eq_true za) (of_decide_eq_true za); have HP16 := Kd.R_putg HO_6.out (x22_1 : Int) (-1)) | ((with_reducible refine gate_store (t := 2) (p := 32) rfl ?_); refine store_event (t := 2) (p := 32) (v := ?vo_w17) (w1 := (w14.setCell ⟨go11, (x22_1 : Int).toNat, none⟩ (.int .i64 (-1)))) ?hg ?ho ?hn ?hr ?_; (case ho => rfl); (case hg => rfl); (case hn => rfl); (case hr => first | (go_simp; done) | (go_simp; rfl)); intro w17 hw; have hg : w14.grownBy w17 (some go11) := (by rw [hw]; exact HP16.2); have m0_ := aM (pm_kept (row := some go11) HM.out hg (pm_row HM.out HO_6.out)); clear HM; have HM := m0_; clear m0_; have hp_ : Kd.R (Kd.int .i64) 2 w17 w.heap.size (fun _ => True) (.slice (some ⟨go11, 0, none⟩) x6_1.length co11) y480 := (by rw [hw, Ny480.out]; exact HP16.1); clear HP16; have n0_ := aM (hp_); have n1_ := aM (blk_grown (g := gb479) (o := .cells #[.int .i64 ((rd_T59 l0 x22_1).f0), .int .i64 ((rd_T59 l0 x22_1).f1)] 59 (0, 0)) (mB_ BK479.out) hg (Kd.R_ne HO_6.out BK479.out (by decide))); have n2_ := aM ((by rw [hw]; exact below_set (HB.out) GB11.out : Below w.heap.size w w17)); clear HO_6 BK479 HB; have HO_6 := n0_; have BK479 := n1_; have HB := n2_; clear n0_ n1_ n2_; clear hg hw hp_))
    go_roundg k1
    case measure => have := HK1.out; omega
    case rel => exact ⟨(y480), (wrap64 (x22_1 + 1)), zr, H', ⟨by have := HK1.out; omega⟩, ⟨mR_ HO_6.out⟩, ⟨zs GE479.out⟩, ⟨HI.out⟩, ⟨(by (with_reducible repeat (first | apply pm_alloc | apply pm_drewN | apply pm_drew | refine pm_farN ?_ (by assumption) _)); exact HM.out)⟩⟩
   rw [if_neg c7] at H
   have c7b0 : decide (x22_1 < (l0.length : Int)) = false := decide_eq_false c7
   replace HM : Aside0 (PM _ bm l0) := ⟨pm_all HM.out (of_decide_eq_false c7b0)⟩
   clear c7
   have H' := aM H
   clear H
   go_wp2
   go_loopg [36] k1 (fun kq v36 w' => ∃ (x6_2 : List Int) (x36_2 : Int), v36 = .int .i64 x36_2 ∧ Aside0 (impl_parts__impl_trianglesAround.l1 kq l0 x6_2 (l0.length : Int) x36_2 = some r) ∧ Aside0 (kq ≤ k1) ∧ Aside0 (Kd.R (Kd.int .i64) 2 w' w.heap.size (fun _ => True) v476 x6_2) ∧ Aside0 (Below w.heap.size w w') ∧ Aside0 (PM w' bm l0))
   case atStart => exact ⟨(x6_1), (0), zr, H', ⟨Nat.le_refl _⟩, ⟨mR_ HO_6.out⟩, ⟨zb⟩, ⟨(by (with_reducible repeat (first | apply pm_alloc | apply pm_drewN | apply pm_drew | refine pm_farN ?_ (by assumption) _)); exact HM.out)⟩⟩
   case round =>
    clear H'
    try clear c1
    try clear p1
    try clear q1
    try clear hx1
    try clear p2
    try clear c3
    try clear c3b0
    try clear c3b1
    try clear c4
    try clear c4b0
    try clear c4b1
    try clear p4
    try clear q4
    try clear hx4
    try clear p6
    try clear c7
    try clear c7b0
    try clear c8
    try clear c8b0
    try clear c9
    try clear c9b0
    try clear c10
    try clear c10b0
    try clear p11
    try clear q11
    try clear hx11
    try clear hf11
    try clear hcz13_0
    try clear hcz13_1
    try clear hcz15_0
    try clear hcz15_1
    try clear hfz13_0
    try clear hfz13_1
    try clear hfz15_0
    try clear hfz15_1
    try clear hx11_0
    try clear hx478_0
    try clear hx478_1
    try clear p11
    try clear p2
    try clear p478
    try clear q11
    try clear q478
    obtain ⟨x6_2, x36_2, rfl, HA, HK2, HO_6, HB, HM⟩ := hrel
    cases gk with
    | zero => exact absurd HA.out (by simp [impl_parts__impl_trianglesAround.l1])
    | succ k2 =>
     have H := HA.out
     clear HA
     simp only [impl_parts__impl_trianglesAround.l1] at H
     by_cases c18 : x36_2 < (l0.length : Int)
     rotate_left
     ·rw [if_neg c18] at H
      have c18b0 : decide (x36_2 < (l0.length : Int)) = false := decide_eq_false c18
      clear c18
      obtain rfl := Option.some.inj H
      go_wp2
      go_ret
      exact ⟨_, zw, mR_ HO_6.out, zb⟩
     rw [if_pos c18] at H
     have c18b0 : decide (x36_2 < (l0.length : Int)) = true := decide_eq_true c18
     clear c18
     by_cases c19 : 0 ≤ x36_2
     rotate_left
     ·rw [if_neg c19] at H
      exact absurd H (by simp)
     rw [if_pos c19] at H
     have c19b0 : decide (0 ≤ x36_2) = true := decide_eq_true c19
     clear c19
     by_cases c20 : x36_2 < (x6_2.length : Int)
     rotate_left
     ·rw [if_neg c20] at H
      exact absurd H (by simp)
     rw [if_pos c20] at H
     have c20b0 : decide (x36_2 < (x6_2.length : Int)) = true := decide_eq_true c20
     clear c20
     by_cases c21 : (rd x6_2 x36_2) ≥ 0
     ·rw [if_pos c21] at H
      have c21b0 : decide (0 ≤ (rd x6_2 x36_2)) = true := decide_eq_true c21
      clear c21
      have H' := aM H
      clear H
      obtain ⟨Ao22, co22, eo22⟩ := Kd.R_slice HO_6.out
      subst eo22
      have p481 : 0 ≤ (x36_2 : Int) := of_decide_eq_true za
      have q481 : x36_2 < (x6_2.length : Int) := of_decide_eq_true za
      obtain ⟨ad481, e481, hx481_0⟩ := Kd.at_int (Kd.R_reads' HO_6.out).2.2 x36_2 p481 q481
      cases e481
      replace p481 := eq_true p481
      replace q481 := eq_true q481
      go_wp2
      go_roundg k2
      case measure => have := HK1.out; have := HK2.out; omega
      case rel => exact ⟨(x6_2), (wrap64 (x36_2 + 1)), zr, H', ⟨by have := HK1.out; have := HK2.out; omega⟩, ⟨mR_ HO_6.out⟩, ⟨zb⟩, ⟨(by (with_reducible repeat (first | apply pm_alloc | apply pm_drewN | apply pm_drew | refine pm_farN ?_ (by assumption) _)); exact HM.out)⟩⟩
     rw [if_neg c21] at H
     have c21b0 : decide (0 ≤ (rd x6_2 x36_2)) = false := decide_eq_false c21
     clear c21
     obtain ⟨y482, hy482⟩ : ∃ y_ : List Int, y_ = (x6_2.set (x36_2 : Int).toNat x36_2) := ⟨_, rfl⟩
     replace H : (impl_parts__impl_trianglesAround.l2 k2 l0 y482 x36_2 (([x36_2] : List Int)) 0 (l0.length : Int) x36_2) = some r := zy H hy482
     have Ny482 := aM hy482
     clear hy482
     obtain ⟨y483, hy483⟩ : ∃ y_ : List Int, y_ = (([x36_2] : List Int)) := ⟨_, rfl⟩
     replace H : (impl_parts__impl_trianglesAround.l2 k2 l0 y482 x36_2 y483 0 (l0.length : Int) x36_2) = some r := zy H hy483
     have Ny483 := aM hy483
     clear hy483
     have H' := aM H
     clear H
     obtain ⟨Ao24, co24, eo24⟩ := Kd.R_slice HO_6.out
     subst eo24
     have p481 : 0 ≤ (x36_2 : Int) := of_decide_eq_true za
     have q481 : x36_2 < (x6_2.length : Int) := of_decide_eq_true za
     obtain ⟨ad481, e481, hx481_0⟩ := Kd.at_int (Kd.R_reads' HO_6.out).2.2 x36_2 p481 q481
     cases e481
     replace p481 := eq_true p481
     replace q481 := eq_true q481
     have p23 : 0 ≤ (x36_2 : Int) := of_decide_eq_true za
     have q23 : (x36_2 : Int) < ((x6_2.length : Int) : Int) := of_decide_eq_true za
     obtain ⟨go23, co23, eo23, gb23, gl23, cl23, HG23⟩ := Kd.R_form HO_6.out (by omega)
     (first | cases eo23 | (injection eo23 with ea_ en_ ec_; (first | subst ea_ | (injection ea_ with ea_; subst ea_)); subst ec_; clear en_))
     have GB23 := aM gb23
     have GG23 := aM HG23
     clear gb23 gl23 HG23
     (first | simp only [add_plain] at hx481_0 | skip)
     obtain ⟨hx23_0, hf23_0⟩ := Kd.R_celln 0 HO_6.out (x36_2 : Int) p23 q23
     replace p23 := eq_true p23
     replace q23 := eq_true q23
     have HP25 := Kd.R_putg HO_6.out (x36_2 : Int) x36_2
     go_wp2_with (first | ((with_reducible refine gate_store (t := 2) (p := 47) rfl ?_); refine store_event (t := 2) (p := 47) (v := ?vo_w26) (w1 := (wr.setCell ⟨go23, (x36_2 : Int).toNat, none⟩ (.int .i64 x36_2))) ?hg ?ho ?hn ?hr ?_; (case ho => rfl); (case hg => rfl); (case hn => rfl); (case hr => first | (go_simp; done) | (go_simp; rfl)); intro w26 hw; have hg : wr.grownBy w26 (some go23) := (by rw [hw]; exact HP25.2); have m0_ := aM (pm_kept (row := some go23) HM.out hg (pm_row HM.out HO_6.out)); clear HM; have HM := m0_; clear m0_; have hp_ : Kd.R (Kd.int .i64) 2 w26 w.heap.size (fun _ => True) (.slice (some ⟨go23, 0, none⟩) x6_2.length co24) y482 := (by rw [hw, Ny482.out]; exact HP25.1); clear HP25; have n0_ := aM (hp_); have n1_ := aM ((by rw [hw]; exact below_set (HB.out) GB23.out : Below w.heap.size w w26)); clear HO_6 HB; have HO_6 := n0_; have HB := n1_; clear n0_ n1_; clear hg hw hp_) | ((with_reducible refine gate_dst (N := 49) rfl ?_); refine Kd.R_lit (Kd.int .i64) _ 3 ?hg (N := 49) ?hd (xs := ([x36_2] : List Int)) (inner := [.int .i64 x36_2]) (ok := fun _ => True) (okp := fun _ => True) ?hr ?hp (fun _ hk => hk) trivial (Below.refl _ _) (Nat.le_refl _) (by simp) ?_; (case hd => rfl); (case hg => rfl); (case hr => first | (go_simp; done) | (go_simp; rfl)); (case hp => exact (Reps.one (show Kd.M (Kd.int .i64) _ _ _ x36_2 [.int .i64 x36_2] from rfl) (Reps.none _ _))); intro v484 w27 ho28 hb hg_ hnew_; clear hg_ hnew_; have m0_ := aM (pm_step (by (with_reducible repeat (first | apply pm_alloc | apply pm_drewN | apply pm_drew | refine pm_farN ?_ (by assumption) _)); exact HM.out) hb); clear HM; have HM := m0_; clear m0_; (first | rw [← Ny483.out] at ho28 | (simp only [Int.reduceToNat] at ho28; rw [← Ny483.out] at ho28)); have n0_ := aM (Kd.R_below (mR_ HO_6.out) hb); have n1_ := aM (Kd.R_lower ho28 (below_size zb)); have n2_ := aM (below_step zb hb); clear HO_6 HB; have HO_6 := n0_; have HO485 := n1_; have HB := n2_; clear n0_ n1_ n2_; clear hb ho28))
     go_loopg [10, 11] k2 (fun kq v10 v11 w' => ∃ (x6_3 : List Int) (x10_3 : List Int) (x11_3 : Int), v11 = .int .i64 x11_3 ∧ Aside0 (impl_parts__impl_trianglesAround.l2 kq l0 x6_3 x36_2 x10_3 x11_3 (l0.length : Int) x36_2 = some r) ∧ Aside0 (kq ≤ k2) ∧ Aside0 (Kd.R (Kd.int .i64) 2 w' w.heap.size (fun _ => True) (.slice (some ⟨go23, 0, none⟩) x6_2.length co24) x6_3) ∧ Aside0 (Kd.R (Kd.int .i64) 3 w' w.heap.size (fun _ => True) v10 x10_3) ∧ Aside0 (Below w.heap.size w w') ∧ Aside0 (PM w' bm l0))
     case atStart => exact ⟨(y482), (y483), (0), zr, H', ⟨Nat.le_refl _⟩, ⟨mR_ HO_6.out⟩, ⟨mR_ HO485.out⟩, ⟨zb⟩, ⟨(by (with_reducible repeat (first | apply pm_alloc | apply pm_drewN | apply pm_drew | refine pm_farN ?_ (by assumption) _)); exact HM.out)⟩⟩
     case round =>
      clear H'
      try clear c1
      try clear p1
      try clear q1
      try clear hx1
      try clear c2
      try clear p2
      try clear q2
      try clear hx2
      try clear hf2
      try clear c3
      try clear c3b0
      try clear c3b1
      try clear c4
      try clear c4b0
      try clear c4b1
      try clear p4
      try clear q4
      try clear hx4
      try clear p6
      try clear c7
      try clear c7b0
      try clear c8
      try clear c8b0
      try clear c9
      try clear c9b0
      try clear c10
      try clear c10b0
      try clear p11
      try clear q11
      try clear hx11
      try clear hf11
      try clear c18
      try clear c18b0
      try clear c19
      try clear c19b0
      try clear c20
      try clear c20b0
      try clear c21
      try clear c21b0
      try clear p23
      try clear q23
      try clear hx23
      try clear hf23
      try clear hcz13_0
      try clear hcz13_1
      try clear hcz15_0
      try clear hcz15_1
      try clear hfz13_0
      try clear hfz13_1
      try clear hfz15_0
      try clear hfz15_1
      try clear hx11_0
      try clear hx23_0
      try clear hx478_0
      try clear hx478_1
      try clear hx481_0
      try clear p1
      try clear p11
      try clear p2
      try clear p23
      try clear p4
      try clear p478
      try clear p481
      try clear p6
      try clear q1
      try clear q11
      try clear q23
      try clear q4
      try clear q478
      try clear q481
      obtain ⟨x6_3, x10_3, x11_3, rfl, HA, HK3, HO_6, HO_10, HB, HM⟩ := hrel
      have hl6_3 := (Kd.R_reads' HO_6.out).1
      rw [hl6_3] at HO_6
      (try simp only [hl6_3])
      (try simp only [hl6_3] at HO_10)
      cases gk with
      | zero => exact absurd HA.out (by simp [impl_parts__impl_trianglesAround.l2])
      | succ k3 =>
       have H := HA.out
       clear HA
       simp only [impl_parts__impl_trianglesAround.l2] at H
       by_cases c29 : x11_3 < (x10_3.length : Int)
       rotate_left
       ·rw [if_neg c29] at H
        have c29b0 : decide (x11_3 < (x10_3.length : Int)) = false := decide_eq_false c29
        clear c29
        have H' := aM H
        clear H
        obtain ⟨Ao59, co59, eo59⟩ := Kd.R_slice HO_10.out
        subst eo59
        go_wp2
        (try simp only [← hl6_3])
        go_roundg k3
        case measure => have := HK1.out; have := HK2.out; have := HK3.out; omega
        case rel => exact ⟨(x6_3), (wrap64 (x36_2 + 1)), zr, H', ⟨by have := HK1.out; have := HK2.out; have := HK3.out; omega⟩, ⟨by (try simp only [hl6_3]); (with_reducible repeat (first | apply Kd.R_alloc | apply Kd.R_drewN | apply Kd.R_drew)); exact HO_6.out⟩, ⟨zb⟩, ⟨(by (with_reducible repeat (first | apply pm_alloc | apply pm_drewN | apply pm_drew | refine pm_farN ?_ (by assumption) _)); exact HM.out)⟩⟩
       rw [if_pos c29] at H
       have c29b0 : decide (x11_3 < (x10_3.length : Int)) = true := decide_eq_true c29
       clear c29
       by_cases c30 : 0 ≤ x11_3
       rotate_left
       ·rw [if_neg c30] at H
        exact absurd H (by simp)
       rw [if_pos c30] at H
       have c30b0 : decide (0 ≤ x11_3) = true := decide_eq_true c30
       clear c30
       by_cases c31 : 0 ≤ (rd x10_3 x11_3)
       rotate_left
       ·rw [if_neg c31] at H
        exact absurd H (by simp)
       rw [if_pos c31] at H
       have c31b0 : decide (0 ≤ (rd x10_3 x11_3)) = true := decide_eq_true c31
       clear c31
       by_cases c32 : (rd x10_3 x11_3) < (l0.length : Int)
       rotate_left
       ·rw [if_neg c32] at H
        exact absurd H (by simp)
       rw [if_pos c32] at H
       have c32b0 : decide ((rd x10_3 x11_3) < (l0.length : Int)) = true := decide_eq_true c32
       clear c32
       replace H := Option.bind_eq_some_iff.mp H
       obtain ⟨t488, A330, H⟩ := H
       replace H : (impl_parts__impl_trianglesAround.l3 k3 l0 x6_3 x36_2 x10_3 x11_3 (l0.length : Int) x36_2 t488 (t488.length : Int) 0) = some r := H
       have A33 := aM A330
       clear A330
       have H' := aM H
       clear H
       obtain ⟨Ao34, co34, eo34⟩ := Kd.R_slice HO_10.out
       subst eo34
       have p486 : 0 ≤ (x11_3 : Int) := of_decide_eq_true za
       have q486 : x11_3 < (x10_3.length : Int) := of_decide_eq_true za
       obtain ⟨ad486, e486, hx486_0⟩ := Kd.at_int (Kd.R_reads' HO_10.out).2.2 x11_3 p486 q486
       cases e486
       replace p486 := eq_true p486
       replace q486 := eq_true q486
       have p487 : 0 ≤ ((rd x10_3 x11_3) : Int) := of_decide_eq_true za
       have q487 : (rd x10_3 x11_3) < (l0.length : Int) := of_decide_eq_true za
       obtain ⟨ad487, e487, hx487_0, hx487_1⟩ := at_T59 HR0.out (rd x10_3 x11_3) p487 q487
       cases e487
       replace hx487_0 := zk HB.out hx487_0
       replace hx487_1 := zk HB.out hx487_1
       replace p487 := eq_true p487
       replace q487 := eq_true q487
       go_wp2_with (first | (go_at_call 45; (with_reducible refine (impl_trianglesAround.calls ((rd_T59 l0 (rd x10_3 x11_3)).f0) ((rd_T59 l0 (rd x10_3 x11_3)).f1) t488 _ A33.out).mono ?_); rintro e w35 ⟨v489, rfl, ho0, hb⟩; have m0_ := aM (pm_step (by (with_reducible repeat (first | apply pm_alloc | apply pm_drewN | apply pm_drew | refine pm_farN ?_ (by assumption) _)); exact HM.out) hb); clear HM; have HM := m0_; clear m0_; have n0_ := aM (Kd.R_below (mR_ HO_6.out) hb); have n1_ := aM (Kd.R_below (mR_ HO_10.out) hb); have n2_ := aM (Kd.R_lower ho0 (below_size zb)); have n3_ := aM (below_step zb hb); clear HO_6 HO_10 HB; have HO_6 := n0_; have HO_10 := n1_; have HO490 := n2_; have HB := n3_; clear n0_ n1_ n2_ n3_; (try clear hb); (try clear hb2); (try clear hk); (try clear hi); (try clear ho0); obtain ⟨Ao36, co36, eo36⟩ := Kd.R_slice HO490.out; subst eo36))
       go_loopg [10, 66] k3 (fun kq v10 v66 w' => ∃ (x6_4 : List Int) (x10_4 : List Int) (x66_4 : Int), v66 = .int .i64 x66_4 ∧ Aside0 (impl_parts__impl_trianglesAround.l3 kq l0 x6_4 x36_2 x10_4 x11_3 (l0.length : Int) x36_2 t488 (t488.length : Int) x66_4 = some r) ∧ Aside0 (kq ≤ k3) ∧ Aside0 (Kd.R (Kd.int .i64) 2 w' w.heap.size (fun _ => True) (.slice (some ⟨go23, 0, none⟩) x6_3.length co24) x6_4) ∧ Aside0 (Kd.R (Kd.int .i64) 3 w' w.heap.size (fun _ => True) v10 x10_4) ∧ Aside0 (Kd.R k59 59 w' w.heap.size (fun _ => True) (.slice Ao36 t488.length co36) t488) ∧ Aside0 (Below w.heap.size w w') ∧ Aside0 (PM w' bm l0))
       case atStart => exact ⟨(x6_3), (x10_3), (0), zr, H', ⟨Nat.le_refl _⟩, ⟨by (try simp only [hl6_3]); (with_reducible repeat (first | apply Kd.R_alloc | apply Kd.R_drewN | apply Kd.R_drew)); exact HO_6.out⟩, ⟨by (try simp only [hl6_3]); (with_reducible repeat (first | apply Kd.R_alloc | apply Kd.R_drewN | apply Kd.R_drew)); exact HO_10.out⟩, ⟨by (try simp only [hl6_3]); (with_reducible repeat (first | apply Kd.R_alloc | apply Kd.R_drewN | apply Kd.R_drew)); exact HO490.out⟩, ⟨zb⟩, ⟨(by (with_reducible repeat (first | apply pm_alloc | apply pm_drewN | apply pm_drew | refine pm_farN ?_ (by assumption) _)); exact HM.out)⟩⟩
       case round =>
        clear H'
        try clear c1
        try clear p1
        try clear q1
        try clear hx1
        try clear c2
        try clear p2
        try clear q2
        try clear hx2
        try clear hf2
        try clear c3
        try clear c3b0
        try clear c3b1
        try clear c4
        try clear c4b0
        try clear c4b1
        try clear p4
        try clear q4
        try clear hx4
        try clear p6
        try clear c7
        try clear c7b0
        try clear c8
        try clear c8b0
        try clear c9
        try clear c9b0
        try clear c10
        try clear c10b0
        try clear p11
        try clear q11
        try clear hx11
        try clear hf11
        try clear c18
        try clear c18b0
        try clear c19
        try clear c19b0
        try clear c20
        try clear c20b0
        try clear c21
        try clear c21b0
        try clear p23
        try clear q23
        try clear hx23
        try clear hf23
        try clear c29
        try clear c29b0
        try clear c30
        try clear c30b0
        try clear c31
        try clear c31b0
        try clear c32
        try clear c32b0
        try clear hcz13_0
        try clear hcz13_1
        try clear hcz15_0
        try clear hcz15_1
        try clear hfz13_0
        try clear hfz13_1
        try clear hfz15_0
        try clear hfz15_1
        try clear hx11_0
        try clear hx23_0
        try clear hx478_0
        try clear hx478_1
        try clear hx481_0
        try clear hx486_0
        try clear hx487_0
        try clear hx487_1
        try clear p1
        try clear p11
        try clear p2
        try clear p23
        try clear p4
        try clear p478
        try clear p481
        try clear p486
        try clear p487
        try clear p6
        try clear q1
        try clear q11
        try clear q2
        try clear q23
        try clear q4
        try clear q478
        try clear q481
        try clear q486
        try clear q487
        obtain ⟨x6_4, x10_4, x66_4, rfl, HA, HK4, HO_6, HO_10, HO_64, HB, HM⟩ := hrel
        have hl6_4 := (Kd.R_reads' HO_6.out).1
        rw [hl6_4] at HO_6
        (try simp only [hl6_4])
        (try simp only [hl6_4] at HO_10)
        (try simp only [hl6_4] at HO_64)
        cases gk with
        | zero => exact absurd HA.out (by simp [impl_parts__impl_trianglesAround.l3])
        | succ k4 =>
         have H := HA.out
         clear HA
         simp only [impl_parts__impl_trianglesAround.l3] at H
         by_cases c37 : x66_4 < (t488.length : Int)
         rotate_left
         ·rw [if_neg c37] at H
          have c37b0 : decide (x66_4 < (t488.length : Int)) = false := decide_eq_false c37
          clear c37
          have H' := aM H
          clear H
          go_wp2
          (try simp only [← hl6_3, ← hl6_4])
          go_roundg k4
          case measure => have := HK1.out; have := HK2.out; have := HK3.out; have := HK4.out; omega
          case rel => exact ⟨(x6_4), (x10_4), (wrap64 (x11_3 + 1)), zr, H', ⟨by have := HK1.out; have := HK2.out; have := HK3.out; have := HK4.out; omega⟩, ⟨by (try simp only [hl6_3]); (try simp only [hl6_4]); (with_reducible repeat (first | apply Kd.R_alloc | apply Kd.R_drewN | apply Kd.R_drew)); exact HO_6.out⟩, ⟨by (try simp only [hl6_3]); (try simp only [hl6_4]); (with_reducible repeat (first | apply Kd.R_alloc | apply Kd.R_drewN | apply Kd.R_drew)); exact HO_10.out⟩, ⟨zb⟩, ⟨(by (with_reducible repeat (first | apply pm_alloc | apply pm_drewN | apply pm_drew | refine pm_farN ?_ (by assumption) _)); exact HM.out)⟩⟩
         rw [if_pos c37] at H
         have c37b0 : decide (x66_4 < (t488.length : Int)) = true := decide_eq_true c37
         clear c37
         by_cases c38 : 0 ≤ x66_4
         rotate_left
         ·rw [if_neg c38] at H
          exact absurd H (by simp)
         rw [if_pos c38] at H
         have c38b0 : decide (0 ≤ x66_4) = true := decide_eq_true c38
         clear c38
         by_cases c39 : x66_4 < (t488.length : Int)
         rotate_left
         ·rw [if_neg c39] at H
          exact absurd H (by simp)
         rw [if_pos c39] at H
         have c39b0 : decide (x66_4 < (t488.length : Int)) = true := decide_eq_true c39
         clear c39
         replace H := Option.bind_eq_some_iff.mp H
         obtain ⟨⟨t493, t494⟩, A400, H⟩ := H
         replace H : (if t494 = true then (if 0 ≤ t493 then (if t493 < (x6_4.length : Int) then (if (rd x6_4 t493) < 0 then (if x10_4.length < 17592186044416 then (impl_parts__impl_trianglesAround.l3 k4 l0 (x6_4.set (t493 : Int).toNat x36_2) x36_2 (x10_4 ++ [t493]) x11_3 (l0.length : Int) x36_2 t488 (t488.length : Int) (wrap64 (x66_4 + 1))) else (none)) else (impl_parts__impl_trianglesAround.l3 k4 l0 x6_4 x36_2 x10_4 x11_3 (l0.length : Int) x36_2 t488 (t488.length : Int) (wrap64 (x66_4 + 1)))) else (none)) else (none)) else (impl_parts__impl_trianglesAround.l3 k4 l0 x6_4 x36_2 x10_4 x11_3 (l0.length : Int) x36_2 t488 (t488.length : Int) (wrap64 (x66_4 + 1)))) = some r := H
         have A40 := aM A400
         clear A400
         by_cases c41 : t494 = true
         rotate_left
         ·replace c41 := Bool.eq_false_iff.mpr c41
          subst c41
          have H1 : (impl_parts__impl_trianglesAround.l3 k4 l0 x6_4 x36_2 x10_4 x11_3 (l0.length : Int) x36_2 t488 (t488.length : Int) (wrap64 (x66_4 + 1))) = some r := by rw [if_neg (show ¬ (false = true) by decide)] at H; exact H
          clear H
          have H := H1
          clear H1
          have H' := aM H
          clear H
          have p491 : 0 ≤ (x66_4 : Int) := of_decide_eq_true za
          have q491 : x66_4 < (t488.length : Int) := of_decide_eq_true za
          obtain ⟨ad491, e491, hx491_0, hx491_1⟩ := at_T59 (Kd.R_reads' HO_64.out).2.2 x66_4 p491 q491
          cases e491
          replace p491 := eq_true p491
          replace q491 := eq_true q491
          go_wp2_with (first | ((with_reducible refine gate_dst (N := 13) rfl ?_); refine zx 13 #[.int .i64 0, .int .i64 0] 59 ?_; intro gb492 hg w56 hbox hb; have hne492 : bm ≠ gb492 := (by rw [hg]; exact Nat.ne_of_lt (pm_lt (by (with_reducible repeat (first | apply pm_alloc | apply pm_drewN | apply pm_drew | refine pm_farN ?_ (by assumption) _)); exact HM.out))); have m0_ := aM (pm_step (by (with_reducible repeat (first | apply pm_alloc | apply pm_drewN | apply pm_drew | refine pm_farN ?_ (by assumption) _)); exact HM.out) hb); clear HM; have HM := m0_; clear m0_; have n0_ := aM (Kd.R_below (mR_ HO_6.out) hb); have n1_ := aM (Kd.R_below (mR_ HO_10.out) hb); have n2_ := aM (Kd.R_below (Kd.R_elderB (mR_ HO_64.out) gb492 (Nat.le_of_eq hg.symm)) hb); have n3_ := aM (below_step zb hb); have n4_ := aM (hbox); have n5_ := aM ((ze : w.heap.size ≤ gb492)); have n6_ := aM ((ze : w.heap.size ≤ gb492)); clear HO_6 HO_10 HO_64 HB; have HO_6 := n0_; have HO_10 := n1_; have HO_64 := n2_; have HB := n3_; have BK492 := n4_; have GW492 := n5_; have GE492 := n6_; clear n0_ n1_ n2_ n3_ n4_ n5_ n6_ hb hbox hg; have hcz57_0 : w56.cell? ⟨gb492, 0, none⟩ = some (.int .i64 0) := (blk_cell BK492.out 0).trans rfl; have hcz57_1 : w56.cell? ⟨gb492, 1, none⟩ = some (.int .i64 0) := (blk_cell BK492.out 1).trans rfl; have hfz57_0 := blk_frozen BK492.out 0; have hfz57_1 := blk_frozen BK492.out 1) | ((with_reducible refine gate_dst (N := 73) rfl ?_); refine pm_look rfl _ _ rfl rfl ?hM _ _ rfl A40.out ?_; (case hM => exact (by (with_reducible repeat (first | apply pm_alloc | apply pm_drewN | apply pm_drew | refine pm_farN ?_ (by assumption) _)); exact HM.out)); intro w58 hb m0h_; clear HM; have HM := aM m0h_; clear m0h_; have n0_ := aM (Kd.R_below (by (with_reducible repeat (first | apply Kd.R_alloc | apply Kd.R_drewN | apply Kd.R_drew)); exact (Kd.R_mono (Kd.R_far (p := ⟨gb492, 1, none⟩) (Kd.R_far (p := ⟨gb492, 0, none⟩) (Kd.R_types HO_6.out BK492.out (by decide)) (fun _ hk => hk.2) (.int .i64 ((rd_T59 t488 x66_4).f0))) (fun _ hk => hk.2) (.int .i64 ((rd_T59 t488 x66_4).f1))) (fun _ h_ => h_.1))) hb); have n1_ := aM (Kd.R_below (by (with_reducible repeat (first | apply Kd.R_alloc | apply Kd.R_drewN | apply Kd.R_drew)); exact (Kd.R_mono (Kd.R_far (p := ⟨gb492, 1, none⟩) (Kd.R_far (p := ⟨gb492, 0, none⟩) (Kd.R_types HO_10.out BK492.out (by decide)) (fun _ hk => hk.2) (.int .i64 ((rd_T59 t488 x66_4).f0))) (fun _ hk => hk.2) (.int .i64 ((rd_T59 t488 x66_4).f1))) (fun _ h_ => h_.1))) hb); have n2_ := aM (Kd.R_below (by (with_reducible repeat (first | apply Kd.R_alloc | apply Kd.R_drewN | apply Kd.R_drew)); exact (Kd.R_mono (Kd.R_far (p := ⟨gb492, 1, none⟩) (Kd.R_far (p := ⟨gb492, 0, none⟩) (Kd.R_mono HO_64.out (fun k_ hk => (⟨hk, hk.2⟩ : _ ∧ k_ ≠ gb492))) (fun _ hk => hk.2) (.int .i64 ((rd_T59 t488 x66_4).f0))) (fun _ hk => hk.2) (.int .i64 ((rd_T59 t488 x66_4).f1))) (fun _ h_ => h_.1))) hb); have n3_ := aM (blk_below (g := gb492) (o := .cells #[.int .i64 ((rd_T59 t488 x66_4).f0), .int .i64 ((rd_T59 t488 x66_4).f1)] 59 (0, 0)) (by (with_reducible repeat (first | refine blk_drewN ?_ _ | refine blk_drew ?_ | refine blk_alloc ?_ _)); refine blk_put (cs := #[.int .i64 ((rd_T59 t488 x66_4).f0), .int .i64 0]) ?_ 1 _ rfl; (with_reducible repeat (first | refine blk_drewN ?_ _ | refine blk_drew ?_ | refine blk_alloc ?_ _)); refine blk_put (cs := #[.int .i64 0, .int .i64 0]) ?_ 0 _ rfl; (with_reducible repeat (first | refine blk_drewN ?_ _ | refine blk_drew ?_ | refine blk_alloc ?_ _)); exact BK492.out) hb); have n4_ := aM (below_step (zs GE492.out) hb); clear HO_6 HO_10 HO_64 BK492 HB; have HO_6 := n0_; have HO_10 := n1_; have HO_64 := n2_; have BK492 := n3_; have HB := n4_; clear n0_ n1_ n2_ n3_ n4_; (try clear hb); (try clear hb2); (try clear hk); (try clear hi)))
          (try simp only [← hl6_4])
          go_roundg k4
          case measure => have := HK1.out; have := HK2.out; have := HK3.out; have := HK4.out; omega
          case rel => exact ⟨(x6_4), (x10_4), (wrap64 (x66_4 + 1)), zr, H', ⟨by have := HK1.out; have := HK2.out; have := HK3.out; have := HK4.out; omega⟩, ⟨by (try simp only [hl6_3]); (try simp only [hl6_4]); (with_reducible repeat (first | apply Kd.R_alloc | apply Kd.R_drewN | apply Kd.R_drew)); exact HO_6.out⟩, ⟨by (try simp only [hl6_3]); (try simp only [hl6_4]); (with_reducible repeat (first | apply Kd.R_alloc | apply Kd.R_drewN | apply Kd.R_drew)); exact HO_10.out⟩, ⟨by (try simp only [hl6_3]); (try simp only [hl6_4]); (with_reducible repeat (first | apply Kd.R_alloc | apply Kd.R_drewN | apply Kd.R_drew)); exact Kd.R_mono HO_64.out (fun _ hk => trivial)⟩, ⟨zs GE492.out⟩, ⟨(by (with_reducible repeat (first | apply pm_alloc | apply pm_drewN | apply pm_drew | refine pm_farN ?_ (by assumption) _)); exact HM.out)⟩⟩
         subst c41
         have H1 : (if 0 ≤ t493 then (if t493 < (x6_4.length : Int) then (if (rd x6_4 t493) < 0 then (if x10_4.length < 17592186044416 then (impl_parts__impl_trianglesAround.l3 k4 l0 (x6_4.set (t493 : Int).toNat x36_2) x36_2 (x10_4 ++ [t493]) x11_3 (l0.length : Int) x36_2 t488 (t488.length : Int) (wrap64 (x66_4 + 1))) else (none)) else (impl_parts__impl_trianglesAround.l3 k4 l0 x6_4 x36_2 x10_4 x11_3 (l0.length : Int) x36_2 t488 (t488.length : Int) (wrap64 (x66_4 + 1)))) else (none)) else (none)) = some r := by rw [if_pos rfl] at H; exact H
         clear H
         have H := H1
         clear H1
         by_cases c42 : 0 ≤ t493
         rotate_left
         ·rw [if_neg c42] at H
          exact absurd H (by simp)
         rw [if_pos c42] at H
         have c42b0 : decide (0 ≤ t493) = true := decide_eq_true c42
         clear c42
         by_cases c43 : t493 < (x6_4.length : Int)
         rotate_left
         ·rw [if_neg c43] at H
          exact absurd H (by simp)
         rw [if_pos c43] at H
         have c43b0 : decide (t493 < (x6_4.length : Int)) = true := decide_eq_true c43
         clear c43
         by_cases c44 : (rd x6_4 t493) < 0
         rotate_left
         ·rw [if_neg c44] at H
          have c44b0 : decide ((rd x6_4 t493) < 0) = false := decide_eq_false c44
          clear c44
          have H' := aM H
          clear H
          have p491 : 0 ≤ (x66_4 : Int) := of_decide_eq_true za
          have q491 : x66_4 < (t488.length : Int) := of_decide_eq_true za
          obtain ⟨ad491, e491, hx491_0, hx491_1⟩ := at_T59 (Kd.R_reads' HO_64.out).2.2 x66_4 p491 q491
          cases e491
          replace p491 := eq_true p491
          replace q491 := eq_true q491
          go_wp2_with (first | ((with_reducible refine gate_dst (N := 13) rfl ?_); refine zx 13 #[.int .i64 0, .int .i64 0] 59 ?_; intro gb492 hg w53 hbox hb; have hne492 : bm ≠ gb492 := (by rw [hg]; exact Nat.ne_of_lt (pm_lt (by (with_reducible repeat (first | apply pm_alloc | apply pm_drewN | apply pm_drew | refine pm_farN ?_ (by assumption) _)); exact HM.out))); have m0_ := aM (pm_step (by (with_reducible repeat (first | apply pm_alloc | apply pm_drewN | apply pm_drew | refine pm_farN ?_ (by assumption) _)); exact HM.out) hb); clear HM; have HM := m0_; clear m0_; have n0_ := aM (Kd.R_below (mR_ HO_6.out) hb); have n1_ := aM (Kd.R_below (mR_ HO_10.out) hb); have n2_ := aM (Kd.R_below (Kd.R_elderB (mR_ HO_64.out) gb492 (Nat.le_of_eq hg.symm)) hb); have n3_ := aM (below_step zb hb); have n4_ := aM (hbox); have n5_ := aM ((ze : w.heap.size ≤ gb492)); have n6_ := aM ((ze : w.heap.size ≤ gb492)); clear HO_6 HO_10 HO_64 HB; have HO_6 := n0_; have HO_10 := n1_; have HO_64 := n2_; have HB := n3_; have BK492 := n4_; have GW492 := n5_; have GE492 := n6_; clear n0_ n1_ n2_ n3_ n4_ n5_ n6_ hb hbox hg; have hcz54_0 : w53.cell? ⟨gb492, 0, none⟩ = some (.int .i64 0) := (blk_cell BK492.out 0).trans rfl; have hcz54_1 : w53.cell? ⟨gb492, 1, none⟩ = some (.int .i64 0) := (blk_cell BK492.out 1).trans rfl; have hfz54_0 := blk_frozen BK492.out 0; have hfz54_1 := blk_frozen BK492.out 1) | ((with_reducible refine gate_dst (N := 73) rfl ?_); refine pm_look rfl _ _ rfl rfl ?hM _ _ rfl A40.out ?_; (case hM => exact (by (with_reducible repeat (first | apply pm_alloc | apply pm_drewN | apply pm_drew | refine pm_farN ?_ (by assumption) _)); exact HM.out)); intro w55 hb m0h_; clear HM; have HM := aM m0h_; clear m0h_; have n0_ := aM (Kd.R_below (by (with_reducible repeat (first | apply Kd.R_alloc | apply Kd.R_drewN | apply Kd.R_drew)); exact (Kd.R_mono (Kd.R_far (p := ⟨gb492, 1, none⟩) (Kd.R_far (p := ⟨gb492, 0, none⟩) (Kd.R_types HO_6.out BK492.out (by decide)) (fun _ hk => hk.2) (.int .i64 ((rd_T59 t488 x66_4).f0))) (fun _ hk => hk.2) (.int .i64 ((rd_T59 t488 x66_4).f1))) (fun _ h_ => h_.1))) hb); have n1_ := aM (Kd.R_below (by (with_reducible repeat (first | apply Kd.R_alloc | apply Kd.R_drewN | apply Kd.R_drew)); exact (Kd.R_mono (Kd.R_far (p := ⟨gb492, 1, none⟩) (Kd.R_far (p := ⟨gb492, 0, none⟩) (Kd.R_types HO_10.out BK492.out (by decide)) (fun _ hk => hk.2) (.int .i64 ((rd_T59 t488 x66_4).f0))) (fun _ hk => hk.2) (.int .i64 ((rd_T59 t488 x66_4).f1))) (fun _ h_ => h_.1))) hb); have n2_ := aM (Kd.R_below (by (with_reducible repeat (first | apply Kd.R_alloc | apply Kd.R_drewN | apply Kd.R_drew)); exact (Kd.R_mono (Kd.R_far (p := ⟨gb492, 1, none⟩) (Kd.R_far (p := ⟨gb492, 0, none⟩) (Kd.R_mono HO_64.out (fun k_ hk => (⟨hk, hk.2⟩ : _ ∧ k_ ≠ gb492))) (fun _ hk => hk.2) (.int .i64 ((rd_T59 t488 x66_4).f0))) (fun _ hk => hk.2) (.int .i64 ((rd_T59 t488 x66_4).f1))) (fun _ h_ => h_.1))) hb); have n3_ := aM (blk_below (g := gb492) (o := .cells #[.int .i64 ((rd_T59 t488 x66_4).f0), .int .i64 ((rd_T59 t488 x66_4).f1)] 59 (0, 0)) (by (with_reducible repeat (first | refine blk_drewN ?_ _ | refine blk_drew ?_ | refine blk_alloc ?_ _)); refine blk_put (cs := #[.int .i64 ((rd_T59 t488 x66_4).f0), .int .i64 0]) ?_ 1 _ rfl; (with_reducible repeat (first | refine blk_drewN ?_ _ | refine blk_drew ?_ | refine blk_alloc ?_ _)); refine blk_put (cs := #[.int .i64 0, .int .i64 0]) ?_ 0 _ rfl; (with_reducible repeat (first | refine blk_drewN ?_ _ | refine blk_drew ?_ | refine blk_alloc ?_ _)); exact BK492.out) hb); have n4_ := aM (below_step (zs GE492.out) hb); clear HO_6 HO_10 HO_64 BK492 HB; have HO_6 := n0_; have HO_10 := n1_; have HO_64 := n2_; have BK492 := n3_; have HB := n4_; clear n0_ n1_ n2_ n3_ n4_; (try clear hb); (try clear hb2); (try clear hk); (try clear hi); have p495 : 0 ≤ (t493 : Int) := of_decide_eq_true za; have q495 : t493 < (x6_4.length : Int) := of_decide_eq_true za; obtain ⟨ad495, e495, hx495_0⟩ := Kd.at_int (Kd.R_reads' HO_6.out).2.2 t493 p495 q495; obtain rfl : (⟨go23, 0, none⟩ : Addr) = ad495 := (by injection e495); (first | simp only [add_plain] at hx495_0 | simp only [add_at] at hx495_0 | simp only [Addr.add, Nat.zero_add] at hx495_0 | skip); replace p495 := eq_true p495; replace q495 := eq_true q495))
          (try simp only [← hl6_4])
          go_roundg k4
          case measure => have := HK1.out; have := HK2.out; have := HK3.out; have := HK4.out; omega
          case rel => exact ⟨(x6_4), (x10_4), (wrap64 (x66_4 + 1)), zr, H', ⟨by have := HK1.out; have := HK2.out; have := HK3.out; have := HK4.out; omega⟩, ⟨by (try simp only [hl6_3]); (try simp only [hl6_4]); (with_reducible repeat (first | apply Kd.R_alloc | apply Kd.R_drewN | apply Kd.R_drew)); exact HO_6.out⟩, ⟨by (try simp only [hl6_3]); (try simp only [hl6_4]); (with_reducible repeat (first | apply Kd.R_alloc | apply Kd.R_drewN | apply Kd.R_drew)); exact HO_10.out⟩, ⟨by (try simp only [hl6_3]); (try simp only [hl6_4]); (with_reducible repeat (first | apply Kd.R_alloc | apply Kd.R_drewN | apply Kd.R_drew)); exact Kd.R_mono HO_64.out (fun _ hk => trivial)⟩, ⟨zs GE492.out⟩, ⟨(by (with_reducible repeat (first | apply pm_alloc | apply pm_drewN | apply pm_drew | refine pm_farN ?_ (by assumption) _)); exact HM.out)⟩⟩
         rw [if_pos c44] at H
         have c44b0 : decide ((rd x6_4 t493) < 0) = true := decide_eq_true c44
         clear c44
         obtain ⟨y496, hy496⟩ : ∃ y_ : List Int, y_ = (x6_4.set (t493 : Int).toNat x36_2) := ⟨_, rfl⟩
         replace H : (if x10_4.length < 17592186044416 then (impl_parts__impl_trianglesAround.l3 k4 l0 y496 x36_2 (x10_4 ++ [t493]) x11_3 (l0.length : Int) x36_2 t488 (t488.length : Int) (wrap64 (x66_4 + 1))) else (none)) = some r := zy H hy496
         have Ny496 := aM hy496
         clear hy496
         by_cases c46 : x10_4.length < 17592186044416
         rotate_left
         ·rw [if_neg c46] at H
          exact absurd H (by simp)
         rw [if_pos c46] at H
         have LMc46 := aM c46
         clear c46
         obtain ⟨y497, hy497⟩ : ∃ y_ : List Int, y_ = (x10_4 ++ [t493]) := ⟨_, rfl⟩
         replace H : (impl_parts__impl_trianglesAround.l3 k4 l0 y496 x36_2 y497 x11_3 (l0.length : Int) x36_2 t488 (t488.length : Int) (wrap64 (x66_4 + 1))) = some r := zy H hy497
         have Ny497 := aM hy497
         clear hy497
         have H' := aM H
         clear H
         have p491 : 0 ≤ (x66_4 : Int) := of_decide_eq_true za
         have q491 : x66_4 < (t488.length : Int) := of_decide_eq_true za
         obtain ⟨ad491, e491, hx491_0, hx491_1⟩ := at_T59 (Kd.R_reads' HO_64.out).2.2 x66_4 p491 q491
         cases e491
         replace p491 := eq_true p491
         replace q491 := eq_true q491
         go_wp2_with (first | ((with_reducible refine gate_dst (N := 13) rfl ?_); refine zx 13 #[.int .i64 0, .int .i64 0] 59 ?_; intro gb492 hg w47 hbox hb; have hne492 : bm ≠ gb492 := (by rw [hg]; exact Nat.ne_of_lt (pm_lt (by (with_reducible repeat (first | apply pm_alloc | apply pm_drewN | apply pm_drew | refine pm_farN ?_ (by assumption) _)); exact HM.out))); have m0_ := aM (pm_step (by (with_reducible repeat (first | apply pm_alloc | apply pm_drewN | apply pm_drew | refine pm_farN ?_ (by assumption) _)); exact HM.out) hb); clear HM; have HM := m0_; clear m0_; have n0_ := aM (Kd.R_below (mR_ HO_6.out) hb); have n1_ := aM (Kd.R_below (mR_ HO_10.out) hb); have n2_ := aM (Kd.R_below (Kd.R_elderB (mR_ HO_64.out) gb492 (Nat.le_of_eq hg.symm)) hb); have n3_ := aM (below_step zb hb); have n4_ := aM (hbox); have n5_ := aM ((ze : w.heap.size ≤ gb492)); have n6_ := aM ((ze : w.heap.size ≤ gb492)); clear HO_6 HO_10 HO_64 HB; have HO_6 := n0_; have HO_10 := n1_; have HO_64 := n2_; have HB := n3_; have BK492 := n4_; have GW492 := n5_; have GE492 := n6_; clear n0_ n1_ n2_ n3_ n4_ n5_ n6_ hb hbox hg; have hcz48_0 : w47.cell? ⟨gb492, 0, none⟩ = some (.int .i64 0) := (blk_cell BK492.out 0).trans rfl; have hcz48_1 : w47.cell? ⟨gb492, 1, none⟩ = some (.int .i64 0) := (blk_cell BK492.out 1).trans rfl; have hfz48_0 := blk_frozen BK492.out 0; have hfz48_1 := blk_frozen BK492.out 1) | ((with_reducible refine gate_dst (N := 73) rfl ?_); refine pm_look rfl _ _ rfl rfl ?hM _ _ rfl A40.out ?_; (case hM => exact (by (with_reducible repeat (first | apply pm_alloc | apply pm_drewN | apply pm_drew | refine pm_farN ?_ (by assumption) _)); exact HM.out)); intro w49 hb m0h_; clear HM; have HM := aM m0h_; clear m0h_; have n0_ := aM (Kd.R_below (by (with_reducible repeat (first | apply Kd.R_alloc | apply Kd.R_drewN | apply Kd.R_drew)); exact (Kd.R_mono (Kd.R_far (p := ⟨gb492, 1, none⟩) (Kd.R_far (p := ⟨gb492, 0, none⟩) (Kd.R_types HO_6.out BK492.out (by decide)) (fun _ hk => hk.2) (.int .i64 ((rd_T59 t488 x66_4).f0))) (fun _ hk => hk.2) (.int .i64 ((rd_T59 t488 x66_4).f1))) (fun _ h_ => h_.1))) hb); have n1_ := aM (Kd.R_below (by (with_reducible repeat (first | apply Kd.R_alloc | apply Kd.R_drewN | apply Kd.R_drew)); exact (Kd.R_mono (Kd.R_far (p := ⟨gb492, 1, none⟩) (Kd.R_far (p := ⟨gb492, 0, none⟩) (Kd.R_types HO_10.out BK492.out (by decide)) (fun _ hk => hk.2) (.int .i64 ((rd_T59 t488 x66_4).f0))) (fun _ hk => hk.2) (.int .i64 ((rd_T59 t488 x66_4).f1))) (fun _ h_ => h_.1))) hb); have n2_ := aM (Kd.R_below (by (with_reducible repeat (first | apply Kd.R_alloc | apply Kd.R_drewN | apply Kd.R_drew)); exact (Kd.R_mono (Kd.R_far (p := ⟨gb492, 1, none⟩) (Kd.R_far (p := ⟨gb492, 0, none⟩) (Kd.R_mono HO_64.out (fun k_ hk => (⟨hk, hk.2⟩ : _ ∧ k_ ≠ gb492))) (fun _ hk => hk.2) (.int .i64 ((rd_T59 t488 x66_4).f0))) (fun _ hk => hk.2) (.int .i64 ((rd_T59 t488 x66_4).f1))) (fun _ h_ => h_.1))) hb); have n3_ := aM (blk_below (g := gb492) (o := .cells #[.int .i64 ((rd_T59 t488 x66_4).f0), .int .i64 ((rd_T59 t488 x66_4).f1)] 59 (0, 0)) (by (with_reducible repeat (first | refine blk_drewN ?_ _ | refine blk_drew ?_ | refine blk_alloc ?_ _)); refine blk_put (cs := #[.int .i64 ((rd_T59 t488 x66_4).f0), .int .i64 0]) ?_ 1 _ rfl; (with_reducible repeat (first | refine blk_drewN ?_ _ | refine blk_drew ?_ | refine blk_alloc ?_ _)); refine blk_put (cs := #[.int .i64 0, .int .i64 0]) ?_ 0 _ rfl; (with_reducible repeat (first | refine blk_drewN ?_ _ | refine blk_drew ?_ | refine blk_alloc ?_ _)); exact BK492.out) hb); have n4_ := aM (below_step (zs GE492.out) hb); clear HO_6 HO_10 HO_64 BK492 HB; have HO_6 := n0_; have HO_10 := n1_; have HO_64 := n2_; have BK492 := n3_; have HB := n4_; clear n0_ n1_ n2_ n3_ n4_; (try clear hb); (try clear hb2); (try clear hk); (try clear hi); have p495 : 0 ≤ (t493 : Int) := of_decide_eq_true za; have q495 : t493 < (x6_4.length : Int) := of_decide_eq_true za; obtain ⟨ad495, e495, hx495_0⟩ := Kd.at_int (Kd.R_reads' HO_6.out).2.2 t493 p495 q495; obtain rfl : (⟨go23, 0, none⟩ : Addr) = ad495 := (by injection e495); (first | simp only [add_plain] at hx495_0 | simp only [add_at] at hx495_0 | simp only [Addr.add, Nat.zero_add] at hx495_0 | skip); replace p495 := eq_true p495; replace q495 := eq_true q495; have p45 : 0 ≤ (t493 : Int) := of_decide_eq_true za; have q45 : (t493 : Int) < ((x6_4.length : Int) : Int) := of_decide_eq_true za; obtain ⟨hx45_0, hf45_0⟩ := Kd.R_celln 0 HO_6.out (t493 : Int) p45 q45; replace p45 := eq_true p45; replace q45 := eq_true q45; obtain ⟨hy50_, hz50_⟩ := Kd.R_celln 0 HO_6.out (t493 : Int) (of_decide_eq_true za) (of_decide_eq_true za); have HP50 := Kd.R_putg HO_6.out (t493 : Int) x36_2) | ((with_reducible refine gate_store (t := 2) (p := 87) rfl ?_); refine store_event (t := 2) (p := 87) (v := ?vo_w51) (w1 := (w49.setCell ⟨go23, (t493 : Int).toNat, none⟩ (.int .i64 x36_2))) ?hg ?ho ?hn ?hr ?_; (case ho => rfl); (case hg => rfl); (case hn => rfl); (case hr => first | (go_simp; done) | (go_simp; rfl)); intro w51 hw; have hg : w49.grownBy w51 (some go23) := (by rw [hw]; exact HP50.2); have m0_ := aM (pm_kept (row := some go23) HM.out hg (pm_row HM.out HO_6.out)); clear HM; have HM := m0_; clear m0_; have hp_ : Kd.R (Kd.int .i64) 2 w51 w.heap.size (fun _ => True) (.slice (some ⟨go23, 0, none⟩) x6_4.length co24) y496 := (by rw [hw, Ny496.out]; exact HP50.1); clear HP50; have n0_ := aM (hp_); have n1_ := aM (Kd.R_over' (v := (.slice (some ⟨go23, 0, none⟩) x6_4.length co24)) (mR_ HO_10.out) (Kd.R_typed HO_6.out) (by decide) hg); have n2_ := aM (Kd.R_over' (v := (.slice (some ⟨go23, 0, none⟩) x6_4.length co24)) (mR_ HO_64.out) (Kd.R_typed HO_6.out) (by decide) hg); have n3_ := aM (blk_grown (g := gb492) (o := .cells #[.int .i64 ((rd_T59 t488 x66_4).f0), .int .i64 ((rd_T59 t488 x66_4).f1)] 59 (0, 0)) (mB_ BK492.out) hg (Kd.R_ne HO_6.out BK492.out (by decide))); have n4_ := aM ((by rw [hw]; exact below_set (HB.out) GB23.out : Below w.heap.size w w51)); clear HO_6 HO_10 HO_64 BK492 HB; have HO_6 := n0_; have HO_10 := n1_; have HO_64 := n2_; have BK492 := n3_; have HB := n4_; clear n0_ n1_ n2_ n3_ n4_; clear hg hw hp_) | ((with_reducible refine gate_builtin (b := .append) (xs := #[.tmp 88, .tmp 90]) rfl ?_); at_builtin; refine Kd.R_append (Kd.int .i64) (w0 := w) w.heap.size rfl (.tmp 88) (.tmp 90) 97 3 (.int .i64 0) 8 rfl Try.underlying97 info3 rfl (by decide) (by omega) u10 x10_4 t493 [.int .i64 t493] (fun _ => True) (fun _ => False) rfl rfl ?aP (fun _ hk => hk.elim) ?aF ?aO ?aB ?aS ?aL ?_; (case aP => exact rfl); (case aB => exact (zs GE492.out)); (case aF => exact (fun _ _ => trivial)); (case aO => exact (mR_ HO_10.out)); (case aS => exact (below_size (zs GE492.out))); (case aL => have := LMc46.out; omega); intro v498 w52 ho hb hg hat; have m0_ := aM (pm_append (by (with_reducible repeat (first | apply pm_alloc | apply pm_drewN | apply pm_drew | refine pm_farN ?_ (by assumption) _)); exact HM.out) (mR_ HO_10.out) hg); clear HM; have HM := m0_; clear m0_; rw [← Ny497.out] at ho; have n0_ := aM (Kd.R_over' (mR_ HO_6.out) (Kd.R_typed (mR_ HO_10.out)) (by decide) hg); have n1_ := aM (Kd.R_over' (mR_ HO_64.out) (Kd.R_typed (mR_ HO_10.out)) (by decide) hg); have n2_ := aM (blk_grown (g := gb492) (o := .cells #[.int .i64 ((rd_T59 t488 x66_4).f0), .int .i64 ((rd_T59 t488 x66_4).f1)] 59 (0, 0)) (mB_ BK492.out) hg (Kd.R_ne HO_10.out BK492.out (by decide))); have n3_ := aM (hb); have n4_ := aM (ho); clear HO_6 HO_64 BK492 HB HO_10; have HO_6 := n0_; have HO_64 := n1_; have BK492 := n2_; have HB := n3_; have HO499 := n4_; clear n0_ n1_ n2_ n3_ n4_; clear ho hb hg hat))
         (try simp only [← hl6_4])
         go_roundg k4
         case measure => have := HK1.out; have := HK2.out; have := HK3.out; have := HK4.out; omega
         case rel => exact ⟨(y496), (y497), (wrap64 (x66_4 + 1)), zr, H', ⟨by have := HK1.out; have := HK2.out; have := HK3.out; have := HK4.out; omega⟩, ⟨by (try simp only [hl6_3]); (try simp only [hl6_4]); (with_reducible repeat (first | apply Kd.R_alloc | apply Kd.R_drewN | apply Kd.R_drew)); exact HO_6.out⟩, ⟨by (try simp only [hl6_3]); (try simp only [hl6_4]); (with_reducible repeat (first | apply Kd.R_alloc | apply Kd.R_drewN | apply Kd.R_drew)); exact HO499.out⟩, ⟨by (try simp only [hl6_3]); (try simp only [hl6_4]); (with_reducible repeat (first | apply Kd.R_alloc | apply Kd.R_drewN | apply Kd.R_drew)); exact Kd.R_mono HO_64.out (fun _ hk => trivial)⟩, ⟨zs GE492.out⟩, ⟨(by (with_reducible repeat (first | apply pm_alloc | apply pm_drewN | apply pm_drew | refine pm_farN ?_ (by assumption) _)); exact HM.out)⟩⟩
def impl_connected__impl_trianglesAround.f (k : Nat) (l0 : List (S59))  : Option (Bool) := (impl_parts__impl_trianglesAround.f k l0).bind fun t500 => ((slices_Max_int64_int64.f k t500).bind fun t503 => (some (t503 == 0)))
theorem impl_connected__impl_trianglesAround.calls (k : Nat) (A0 : Option Addr) (c0 : Nat) (l0 : List (S59))  (r : Bool) (w : World) (hr0 : Kd.C k59 w A0 l0.length l0) (hc0 : l0.length ≤ c0) (h : impl_connected__impl_trianglesAround.f k l0 = some r) :
  Calls Try.prog 44 #[.slice A0 l0.length c0, .func (.func 45) #[] #[]] w fun e w' => e = .returned (.bool r) ∧ Below w.heap.size w w' := by
 have HR0 := aM hr0
 have HC0 := aM hc0
 clear hr0 hc0
 have HB := aM (Below.refl w.heap.size w)
 have H : ((impl_parts__impl_trianglesAround.f k l0).bind fun t500 => ((slices_Max_int64_int64.f k t500).bind fun t503 => (some (t503 == 0)))) = some r := h
 clear h
 replace H := Option.bind_eq_some_iff.mp H
 obtain ⟨t500, A30, H⟩ := H
 replace H : ((slices_Max_int64_int64.f k t500).bind fun t503 => (some (t503 == 0))) = some r := H
 have A3 := aM A30
 clear A30
 replace H := Option.bind_eq_some_iff.mp H
 obtain ⟨t503, A40, H⟩ := H
 replace H : (some (t503 == 0)) = some r := H
 have A4 := aM A40
 clear A40
 obtain rfl := Option.some.inj H
 go_enter Try.func44, Try.ntmps44
 go_wp2_with (first | ((with_reducible refine gate_callee (f := 83) rfl ?_); refine goesL_ (some 7) rfl rfl Try.func83 (by kernel_rfl) rfl #[.slice A0 l0.length c0, .func (.func 45) #[] #[]] rfl zm ?_; (with_reducible refine (impl_parts__impl_trianglesAround.calls k _ _ l0  t500 _ ?side1 ?side2 A3.out).mono ?_); (case side1 => repeat (first | exact HR0.out | (with_reducible refine Kd.C_alloc ?_ _) | (with_reducible refine Kd.C_drewN ?_ _) | (with_reducible refine Kd.C_drew ?_))); (case side2 => exact HC0.out); rintro e w5 ⟨v501, rfl, ho0, hb⟩; refine ⟨_, rfl, ?_⟩; have n0_ := aM (Kd.R_lower ho0 (below_size zb)); have n1_ := aM (below_step zb hb); clear HB; have HO502 := n0_; have HB := n1_; clear n0_ n1_; (try clear hb); (try clear hb2); (try clear hk); (try clear hi); (try clear ho0); obtain ⟨Ao6, co6, eo6⟩ := Kd.R_slice HO502.out; subst eo6) | ((with_reducible refine gate_callee (f := 82) rfl ?_); refine goesL_ (some 8) rfl rfl Try.func82 (by kernel_rfl) rfl #[.slice Ao6 t500.length co6] rfl zm ?_; (with_reducible refine (slices_Max_int64_int64.calls k _ _ t500 t503 _ ?side1 ?side2 A4.out).mono ?_); (case side1 => exact zc HO502.out); (case side2 => exact (Kd.R_reads' HO502.out).2.1); rintro e w7 ⟨rfl, hb⟩; refine ⟨_, rfl, ?_⟩; have n0_ := aM (Kd.R_below (mR_ HO502.out) hb); have n1_ := aM (below_step zb hb); clear HO502 HB; have HO502 := n0_; have HB := n1_; clear n0_ n1_; (try clear hb); (try clear hb2); (try clear hk); (try clear hi)))
 go_ret
 exact ⟨zw, zb⟩
def impl_IsTriangleShape.f (k : Nat) (l0 : List (S59)) : Option (Bool × Bool) := (impl_isTriangleShape.f k l0).bind fun t504 => (if t504 = true then ((impl_connected__impl_trianglesAround.f k l0).bind fun t505 => (some (true, t505))) else (some (false, false)))
theorem impl_IsTriangleShape.calls (k : Nat) (A0 : Option Addr) (c0 : Nat) (l0 : List (S59)) (r1 : Bool) (r2 : Bool) (w : World) (hr0 : Kd.C k59 w A0 l0.length l0) (hc0 : l0.length ≤ c0) (h : impl_IsTriangleShape.f k l0 = some (r1, r2)) :
  Calls Try.prog 13 #[.slice A0 l0.length c0] w fun e w' => e = .returned (.tuple #[.bool r1, .bool r2]) ∧ Below w.heap.size w w' := by
 have HR0 := aM hr0
 have HC0 := aM hc0
 clear hr0 hc0
 have HB := aM (Below.refl w.heap.size w)
 have H : ((impl_isTriangleShape.f k l0).bind fun t504 => (if t504 = true then ((impl_connected__impl_trianglesAround.f k l0).bind fun t505 => (some (true, t505))) else (some (false, false)))) = some (r1, r2) := h
 clear h
 replace H := Option.bind_eq_some_iff.mp H
 obtain ⟨t504, A20, H⟩ := H
 replace H : (if t504 = true then ((impl_connected__impl_trianglesAround.f k l0).bind fun t505 => (some (true, t505))) else (some (false, false))) = some (r1, r2) := H
 have A2 := aM A20
 clear A20
 by_cases c3 : t504 = true
 rotate_left
 ·replace c3 := Bool.eq_false_iff.mpr c3
  subst c3
  have H1 : (some (false, false)) = some (r1, r2) := by rw [if_neg (show ¬ (false = true) by decide)] at H; exact H
  clear H
  have H := H1
  clear H1
  simp only [Option.some.injEq, Prod.mk.injEq] at H
  obtain ⟨rfl, rfl⟩ := H
  go_enter Try.func13, Try.ntmps13
  go_wp2_with (first | ((with_reducible refine gate_callee (f := 37) rfl ?_); refine goesL_ (some 5) rfl rfl Try.func37 (by kernel_rfl) rfl #[.slice A0 l0.length c0] rfl zm ?_; (with_reducible refine (impl_isTriangleShape.calls k _ _ l0 false _ ?side1 ?side2 A2.out).mono ?_); (case side1 => repeat (first | exact HR0.out | (with_reducible refine Kd.C_alloc ?_ _) | (with_reducible refine Kd.C_drewN ?_ _) | (with_reducible refine Kd.C_drew ?_))); (case side2 => exact HC0.out); rintro e w7 ⟨rfl, hb⟩; refine ⟨_, rfl, ?_⟩; have n0_ := aM (below_step zb hb); clear HB; have HB := n0_; clear n0_; (try clear hb); (try clear hb2); (try clear hk); (try clear hi)))
  go_ret2
  exact ⟨zw, zb⟩
 subst c3
 have H1 : ((impl_connected__impl_trianglesAround.f k l0).bind fun t505 => (some (true, t505))) = some (r1, r2) := by rw [if_pos rfl] at H; exact H
 clear H
 have H := H1
 clear H1
 replace H := Option.bind_eq_some_iff.mp H
 obtain ⟨t505, A40, H⟩ := H
 replace H : (some (true, t505)) = some (r1, r2) := H
 have A4 := aM A40
 clear A40
 simp only [Option.some.injEq, Prod.mk.injEq] at H
 obtain ⟨rfl, rfl⟩ := H
 go_enter Try.func13, Try.ntmps13
 go_wp2_with (first | ((with_reducible refine gate_callee (f := 37) rfl ?_); refine goesL_ (some 5) rfl rfl Try.func37 (by kernel_rfl) rfl #[.slice A0 l0.length c0] rfl zm ?_; (with_reducible refine (impl_isTriangleShape.calls k _ _ l0 true _ ?side1 ?side2 A2.out).mono ?_); (case side1 => repeat (first | exact HR0.out | (with_reducible refine Kd.C_alloc ?_ _) | (with_reducible refine Kd.C_drewN ?_ _) | (with_reducible refine Kd.C_drew ?_))); (case side2 => exact HC0.out); rintro e w5 ⟨rfl, hb⟩; refine ⟨_, rfl, ?_⟩; have n0_ := aM (below_step zb hb); clear HB; have HB := n0_; clear n0_; (try clear hb); (try clear hb2); (try clear hk); (try clear hi)) | ((with_reducible refine gate_callee (f := 44) rfl ?_); refine goesL_ (some 8) rfl rfl Try.func44 (by kernel_rfl) rfl #[.slice A0 l0.length c0, .func (.func 45) #[] #[]] rfl zm ?_; (with_reducible refine (impl_connected__impl_trianglesAround.calls k _ _ l0  t505 _ ?side1 ?side2 A4.out).mono ?_); (case side1 => repeat (first | exact (Kd.C_below HR0.out HB.out) | (with_reducible refine Kd.C_alloc ?_ _) | (with_reducible refine Kd.C_drewN ?_ _) | (with_reducible refine Kd.C_drew ?_))); (case side2 => exact HC0.out); rintro e w6 ⟨rfl, hb⟩; refine ⟨_, rfl, ?_⟩; have n0_ := aM (below_step zb hb); clear HB; have HB := n0_; clear n0_; (try clear hb); (try clear hb2); (try clear hk); (try clear hi)))
 go_ret2
 exact ⟨zw, zb⟩
def spec_IsTriangleShape.f (k : Nat) (l0 : List (S59)) : Option (Bool × Bool) := (spec_l07Shape.f k 0 l0).bind fun t522 => (if t522 = true then ((spec_l07Connected.f k 0 l0).bind fun t523 => (some (true, t523))) else (some (false, false)))
theorem spec_IsTriangleShape.calls (k : Nat) (A0 : Option Addr) (c0 : Nat) (l0 : List (S59)) (r1 : Bool) (r2 : Bool) (w : World) (hr0 : Kd.C k59 w A0 l0.length l0) (hc0 : l0.length ≤ c0) (h : spec_IsTriangleShape.f k l0 = some (r1, r2)) :
  Calls Try.prog 14 #[.slice A0 l0.length c0] w fun e w' => e = .returned (.tuple #[.bool r1, .bool r2]) ∧ Below w.heap.size w w' := by
 have HR0 := aM hr0
 have HC0 := aM hc0
 clear hr0 hc0
 have HB := aM (Below.refl w.heap.size w)
 have H : ((spec_l07Shape.f k 0 l0).bind fun t522 => (if t522 = true then ((spec_l07Connected.f k 0 l0).bind fun t523 => (some (true, t523))) else (some (false, false)))) = some (r1, r2) := h
 clear h
 replace H := Option.bind_eq_some_iff.mp H
 obtain ⟨t522, A20, H⟩ := H
 replace H : (if t522 = true then ((spec_l07Connected.f k 0 l0).bind fun t523 => (some (true, t523))) else (some (false, false))) = some (r1, r2) := H
 have A2 := aM A20
 clear A20
 by_cases c3 : t522 = true
 rotate_left
 ·replace c3 := Bool.eq_false_iff.mpr c3
  subst c3
  have H1 : (some (false, false)) = some (r1, r2) := by rw [if_neg (show ¬ (false = true) by decide)] at H; exact H
  clear H
  have H := H1
  clear H1
  simp only [Option.some.injEq, Prod.mk.injEq] at H
  obtain ⟨rfl, rfl⟩ := H
  go_enter Try.func14, Try.ntmps14
  go_wp2_with (first | ((with_reducible refine gate_callee (f := 46) rfl ?_); refine goesL_ (some 5) rfl rfl Try.func46 (by kernel_rfl) rfl #[.int .i64 0, .slice A0 l0.length c0] rfl zm ?_; (with_reducible refine (spec_l07Shape.calls k 0 _ _ l0 false _ ?side1 ?side2 A2.out).mono ?_); (case side1 => repeat (first | exact HR0.out | (with_reducible refine Kd.C_alloc ?_ _) | (with_reducible refine Kd.C_drewN ?_ _) | (with_reducible refine Kd.C_drew ?_))); (case side2 => exact HC0.out); rintro e w7 ⟨rfl, hb⟩; refine ⟨_, rfl, ?_⟩; have n0_ := aM (below_step zb hb); clear HB; have HB := n0_; clear n0_; (try clear hb); (try clear hb2); (try clear hk); (try clear hi)))
  go_ret2
  exact ⟨zw, zb⟩
 subst c3
 have H1 : ((spec_l07Connected.f k 0 l0).bind fun t523 => (some (true, t523))) = some (r1, r2) := by rw [if_pos rfl] at H; exact H
 clear H
 have H := H1
 clear H1
 replace H := Option.bind_eq_some_iff.mp H
 obtain ⟨t523, A40, H⟩ := H
 replace H : (some (true, t523)) = some (r1, r2) := H
 have A4 := aM A40
 clear A40
 simp only [Option.some.injEq, Prod.mk.injEq] at H
 obtain ⟨rfl, rfl⟩ := H
 go_enter Try.func14, Try.ntmps14
 go_wp2_with (first | ((with_reducible refine gate_callee (f := 46) rfl ?_); refine goesL_ (some 5) rfl rfl Try.func46 (by kernel_rfl) rfl #[.int .i64 0, .slice A0 l0.length c0] rfl zm ?_; (with_reducible refine (spec_l07Shape.calls k 0 _ _ l0 true _ ?side1 ?side2 A2.out).mono ?_); (case side1 => repeat (first | exact HR0.out | (with_reducible refine Kd.C_alloc ?_ _) | (with_reducible refine Kd.C_drewN ?_ _) | (with_reducible refine Kd.C_drew ?_))); (case side2 => exact HC0.out); rintro e w5 ⟨rfl, hb⟩; refine ⟨_, rfl, ?_⟩; have n0_ := aM (below_step zb hb); clear HB; have HB := n0_; clear n0_; (try clear hb); (try clear hb2); (try clear hk); (try clear hi)) | ((with_reducible refine gate_callee (f := 47) rfl ?_); refine goesL_ (some 8) rfl rfl Try.func47 (by kernel_rfl) rfl #[.int .i64 0, .slice A0 l0.length c0] rfl zm ?_; (with_reducible refine (spec_l07Connected.calls k 0 _ _ l0 t523 _ ?side1 ?side2 A4.out).mono ?_); (case side1 => repeat (first | exact (Kd.C_below HR0.out HB.out) | (with_reducible refine Kd.C_alloc ?_ _) | (with_reducible refine Kd.C_drewN ?_ _) | (with_reducible refine Kd.C_drew ?_))); (case side2 => exact HC0.out); rintro e w6 ⟨rfl, hb⟩; refine ⟨_, rfl, ?_⟩; have n0_ := aM (below_step zb hb); clear HB; have HB := n0_; clear n0_; (try clear hb); (try clear hb2); (try clear hk); (try clear hi)))
 go_ret2
 exact ⟨zw, zb⟩
def impl_CompareShapes.f (k : Nat) (l0 : List (S59)) (l1 : List (S59)) : Option (Int) := (impl_compareShapes.f k l0 l1).bind fun t526 => (some t526)
theorem impl_CompareShapes.calls (k : Nat) (A0 : Option Addr) (c0 : Nat) (l0 : List (S59)) (A1 : Option Addr) (c1 : Nat) (l1 : List (S59)) (r : Int) (w : World) (hr0 : Kd.C k59 w A0 l0.length l0) (hc0 : l0.length ≤ c0) (hr1 : Kd.C k59 w A1 l1.length l1) (hc1 : l1.length ≤ c1) (h : impl_CompareShapes.f k l0 l1 = some r) :
  Calls Try.prog 16 #[.slice A0 l0.length c0, .slice A1 l1.length c1] w fun e w' => e = .returned (.int .i64 r) ∧ Below w.heap.size w w' := by
 have HR0 := aM hr0
 have HC0 := aM hc0
 clear hr0 hc0
 have HR1 := aM hr1
 have HC1 := aM hc1
 clear hr1 hc1
 have HB := aM (Below.refl w.heap.size w)
 have H : ((impl_compareShapes.f k l0 l1).bind fun t526 => (some t526)) = some r := h
 clear h
 replace H := Option.bind_eq_some_iff.mp H
 obtain ⟨t526, A30, H⟩ := H
 replace H : (some t526) = some r := H
 have A3 := aM A30
 clear A30
 obtain rfl := Option.some.inj H
 go_enter Try.func16, Try.ntmps16
 go_wp2_with (first | ((with_reducible refine gate_callee (f := 48) rfl ?_); refine goesL_ (some 7) rfl rfl Try.func48 (by kernel_rfl) rfl #[.slice A0 l0.length c0, .slice A1 l1.length c1] rfl zm ?_; (with_reducible refine (impl_compareShapes.calls k _ _ l0 _ _ l1 t526 _ ?side1 ?side2 ?side3 ?side4 A3.out).mono ?_); (case side1 => repeat (first | exact HR0.out | (with_reducible refine Kd.C_alloc ?_ _) | (with_reducible refine Kd.C_drewN ?_ _) | (with_reducible refine Kd.C_drew ?_))); (case side2 => exact HC0.out); (case side3 => repeat (first | exact HR1.out | (with_reducible refine Kd.C_alloc ?_ _) | (with_reducible refine Kd.C_drewN ?_ _) | (with_reducible refine Kd.C_drew ?_))); (case side4 => exact HC1.out); rintro e w4 ⟨rfl, hb⟩; refine ⟨_, rfl, ?_⟩; have n0_ := aM (below_step zb hb); clear HB; have HB := n0_; clear n0_; (try clear hb); (try clear hb2); (try clear hk); (try clear hi)))
 go_ret
 exact ⟨zw, zb⟩
mutual
def laws_FnTriangleForms.j0 : Nat → List (S59) → Int → List (S59) → Int → Bool → Bool → Option (Bool)
 | 0, _, _, _, _, _, _ => none
 | k + 1, x5, x6, x9, x10, x14, x89 => if x89 = true then (some false) else (if x6 = 0 then (laws_FnTriangleForms.j1 k x5 x9 x14 (x10 != 0)) else (laws_FnTriangleForms.j1 k x5 x9 x14 true))
def laws_FnTriangleForms.j1 : Nat → List (S59) → List (S59) → Bool → Bool → Option (Bool)
 | 0, _, _, _, _ => none
 | k + 1, x5, x9, x14, x95 => if x95 = true then (some true) else ((impl_IsTriangleShape.f k x5).bind fun bt554 => ((impl_TriangleFree.f k x5).bind fun bt556 => (if bt554.1 = true then (if (bt554.2 == x14) = true then (if bt556.2 = 0 then ((laws_likeCells.f k bt556.1 x9).bind fun t560 => (if t560 = true then ((impl_CompareShapes.f k x9 x5).bind fun t561 => (some (decide (t561 ≤ 0)))) else (some false))) else (some false)) else (some false)) else (some false))))
end
def laws_FnTriangleForms.f (k : Nat) (l0 : List Int) : Option (Bool) := (laws_big.f l0).bind fun t527 => (if t527 = true then (some true) else ((spec_DrawTriangleForm.f k l0).bind fun bt528 => ((impl_TriangleForm.f k bt528.1 bt528.2).bind fun bt532 => ((spec_TriangleForm.f k bt528.1 bt528.2).bind fun bt536 => ((impl_TriangleFree.f k bt528.1).bind fun bt540 => ((spec_TriangleFree.f k bt528.1).bind fun bt544 => ((impl_IsTriangleShape.f k bt528.1).bind fun bt548 => ((spec_IsTriangleShape.f k bt528.1).bind fun bt550 => (if bt532.2 = bt536.2 then ((laws_likeCells.f k bt532.1 bt536.1).bind fun t552 => (if t552 = true then (if bt540.2 = bt544.2 then ((laws_likeCells.f k bt540.1 bt544.1).bind fun t553 => (if t553 = true then (if (bt548.1 != bt550.1) = true then (laws_FnTriangleForms.j0 k bt532.1 bt532.2 bt540.1 bt540.2 bt548.2 true) else (laws_FnTriangleForms.j0 k bt532.1 bt532.2 bt540.1 bt540.2 bt548.2 (bt548.2 != bt550.2))) else (laws_FnTriangleForms.j0 k bt532.1 bt532.2 bt540.1 bt540.2 bt548.2 true))) else (laws_FnTriangleForms.j0 k bt532.1 bt532.2 bt540.1 bt540.2 bt548.2 true)) else (laws_FnTriangleForms.j0 k bt532.1 bt532.2 bt540.1 bt540.2 bt548.2 true))) else (laws_FnTriangleForms.j0 k bt532.1 bt532.2 bt540.1 bt540.2 bt548.2 true))))))))))
theorem laws_FnTriangleForms.calls (k : Nat) (A0 : Option Addr) (c0 : Nat) (l0 : List Int) (r : Bool) (w : World) (hr0 : Kd.C (Kd.int .u8) w A0 l0.length l0) (hc0 : l0.length ≤ c0) (h : laws_FnTriangleForms.f k l0 = some r) :
  Calls Try.prog 3 #[.slice A0 l0.length c0] w fun e w' => e = .returned (.bool r) ∧ Below w.heap.size w w' := by
 have HR0 := aM hr0
 have HC0 := aM hc0
 clear hr0 hc0
 have HB := aM (Below.refl w.heap.size w)
 have H : ((laws_big.f l0).bind fun t527 => (if t527 = true then (some true) else ((spec_DrawTriangleForm.f k l0).bind fun bt528 => ((impl_TriangleForm.f k bt528.1 bt528.2).bind fun bt532 => ((spec_TriangleForm.f k bt528.1 bt528.2).bind fun bt536 => ((impl_TriangleFree.f k bt528.1).bind fun bt540 => ((spec_TriangleFree.f k bt528.1).bind fun bt544 => ((impl_IsTriangleShape.f k bt528.1).bind fun bt548 => ((spec_IsTriangleShape.f k bt528.1).bind fun bt550 => (if bt532.2 = bt536.2 then ((laws_likeCells.f k bt532.1 bt536.1).bind fun t552 => (if t552 = true then (if bt540.2 = bt544.2 then ((laws_likeCells.f k bt540.1 bt544.1).bind fun t553 => (if t553 = true then (if (bt548.1 != bt550.1) = true then (laws_FnTriangleForms.j0 k bt532.1 bt532.2 bt540.1 bt540.2 bt548.2 true) else (laws_FnTriangleForms.j0 k bt532.1 bt532.2 bt540.1 bt540.2 bt548.2 (bt548.2 != bt550.2))) else (laws_FnTriangleForms.j0 k bt532.1 bt532.2 bt540.1 bt540.2 bt548.2 true))) else (laws_FnTriangleForms.j0 k bt532.1 bt532.2 bt540.1 bt540.2 bt548.2 true)) else (laws_FnTriangleForms.j0 k bt532.1 bt532.2 bt540.1 bt540.2 bt548.2 true))) else (laws_FnTriangleForms.j0 k bt532.1 bt532.2 bt540.1 bt540.2 bt548.2 true))))))))))) = some r := h
 clear h
 replace H := Option.bind_eq_some_iff.mp H
 obtain ⟨t527, A20, H⟩ := H
 replace H : (if t527 = true then (some true) else ((spec_DrawTriangleForm.f k l0).bind fun bt528 => ((impl_TriangleForm.f k bt528.1 bt528.2).bind fun bt532 => ((spec_TriangleForm.f k bt528.1 bt528.2).bind fun bt536 => ((impl_TriangleFree.f k bt528.1).bind fun bt540 => ((spec_TriangleFree.f k bt528.1).bind fun bt544 => ((impl_IsTriangleShape.f k bt528.1).bind fun bt548 => ((spec_IsTriangleShape.f k bt528.1).bind fun bt550 => (if bt532.2 = bt536.2 then ((laws_likeCells.f k bt532.1 bt536.1).bind fun t552 => (if t552 = true then (if bt540.2 = bt544.2 then ((laws_likeCells.f k bt540.1 bt544.1).bind fun t553 => (if t553 = true then (if (bt548.1 != bt550.1) = true then (laws_FnTriangleForms.j0 k bt532.1 bt532.2 bt540.1 bt540.2 bt548.2 true) else (laws_FnTriangleForms.j0 k bt532.1 bt532.2 bt540.1 bt540.2 bt548.2 (bt548.2 != bt550.2))) else (laws_FnTriangleForms.j0 k bt532.1 bt532.2 bt540.1 bt540.2 bt548.2 true))) else (laws_FnTriangleForms.j0 k bt532.1 bt532.2 bt540.1 bt540.2 bt548.2 true)) else (laws_FnTriangleForms.j0 k bt532.1 bt532.2 bt540.1 bt540.2 bt548.2 true))) else (laws_FnTriangleForms.j0 k bt532.1 bt532.2 bt540.1 bt540.2 bt548.2 true)))))))))) = some r := H
 have A2 := aM A20
 clear A20
 by_cases c3 : t527 = true
 ·subst c3
  have H1 : (some true) = some r := by rw [if_pos rfl] at H; exact H
  clear H
  have H := H1
  clear H1
  obtain rfl := Option.some.inj H
  go_enter Try.func3, Try.ntmps3
  go_wp2_with (first | ((with_reducible refine gate_callee (f := 7) rfl ?_); refine goesL_ (some 22) rfl rfl Try.func7 (by kernel_rfl) rfl #[.slice A0 l0.length c0] rfl zm ?_; (with_reducible refine (laws_big.calls _ _ l0 true _ ?side1 ?side2 A2.out).mono ?_); (case side1 => repeat (first | exact HR0.out | (with_reducible refine Kd.C_alloc ?_ _) | (with_reducible refine Kd.C_drewN ?_ _) | (with_reducible refine Kd.C_drew ?_))); (case side2 => exact HC0.out); rintro e w' ⟨rfl, ⟨nd, rfl⟩⟩; refine ⟨_, rfl, ?_⟩))
  go_ret
  exact ⟨zw, zb⟩
 replace c3 := Bool.eq_false_iff.mpr c3
 subst c3
 have H1 : ((spec_DrawTriangleForm.f k l0).bind fun bt528 => ((impl_TriangleForm.f k bt528.1 bt528.2).bind fun bt532 => ((spec_TriangleForm.f k bt528.1 bt528.2).bind fun bt536 => ((impl_TriangleFree.f k bt528.1).bind fun bt540 => ((spec_TriangleFree.f k bt528.1).bind fun bt544 => ((impl_IsTriangleShape.f k bt528.1).bind fun bt548 => ((spec_IsTriangleShape.f k bt528.1).bind fun bt550 => (if bt532.2 = bt536.2 then ((laws_likeCells.f k bt532.1 bt536.1).bind fun t552 => (if t552 = true then (if bt540.2 = bt544.2 then ((laws_likeCells.f k bt540.1 bt544.1).bind fun t553 => (if t553 = true then (if (bt548.1 != bt550.1) = true then (laws_FnTriangleForms.j0 k bt532.1 bt532.2 bt540.1 bt540.2 bt548.2 true) else (laws_FnTriangleForms.j0 k bt532.1 bt532.2 bt540.1 bt540.2 bt548.2 (bt548.2 != bt550.2))) else (laws_FnTriangleForms.j0 k bt532.1 bt532.2 bt540.1 bt540.2 bt548.2 true))) else (laws_FnTriangleForms.j0 k bt532.1 bt532.2 bt540.1 bt540.2 bt548.2 true)) else (laws_FnTriangleForms.j0 k bt532.1 bt532.2 bt540.1 bt540.2 bt548.2 true))) else (laws_FnTriangleForms.j0 k bt532.1 bt532.2 bt540.1 bt540.2 bt548.2 true))))))))) = some r := by rw [if_neg (show ¬ (false = true) by decide)] at H; exact H
 clear H
 have H := H1
 clear H1
 replace H := Option.bind_eq_some_iff.mp H
 obtain ⟨⟨t528, t529⟩, A40, H⟩ := H
 replace H : ((impl_TriangleForm.f k t528 t529).bind fun bt532 => ((spec_TriangleForm.f k t528 t529).bind fun bt536 => ((impl_TriangleFree.f k t528).bind fun bt540 => ((spec_TriangleFree.f k t528).bind fun bt544 => ((impl_IsTriangleShape.f k t528).bind fun bt548 => ((spec_IsTriangleShape.f k t528).bind fun bt550 => (if bt532.2 = bt536.2 then ((laws_likeCells.f k bt532.1 bt536.1).bind fun t552 => (if t552 = true then (if bt540.2 = bt544.2 then ((laws_likeCells.f k bt540.1 bt544.1).bind fun t553 => (if t553 = true then (if (bt548.1 != bt550.1) = true then (laws_FnTriangleForms.j0 k bt532.1 bt532.2 bt540.1 bt540.2 bt548.2 true) else (laws_FnTriangleForms.j0 k bt532.1 bt532.2 bt540.1 bt540.2 bt548.2 (bt548.2 != bt550.2))) else (laws_FnTriangleForms.j0 k bt532.1 bt532.2 bt540.1 bt540.2 bt548.2 true))) else (laws_FnTriangleForms.j0 k bt532.1 bt532.2 bt540.1 bt540.2 bt548.2 true)) else (laws_FnTriangleForms.j0 k bt532.1 bt532.2 bt540.1 bt540.2 bt548.2 true))) else (laws_FnTriangleForms.j0 k bt532.1 bt532.2 bt540.1 bt540.2 bt548.2 true)))))))) = some r := H
 have A4 := aM A40
 clear A40
 replace H := Option.bind_eq_some_iff.mp H
 obtain ⟨⟨t532, t533⟩, A50, H⟩ := H
 replace H : ((spec_TriangleForm.f k t528 t529).bind fun bt536 => ((impl_TriangleFree.f k t528).bind fun bt540 => ((spec_TriangleFree.f k t528).bind fun bt544 => ((impl_IsTriangleShape.f k t528).bind fun bt548 => ((spec_IsTriangleShape.f k t528).bind fun bt550 => (if t533 = bt536.2 then ((laws_likeCells.f k t532 bt536.1).bind fun t552 => (if t552 = true then (if bt540.2 = bt544.2 then ((laws_likeCells.f k bt540.1 bt544.1).bind fun t553 => (if t553 = true then (if (bt548.1 != bt550.1) = true then (laws_FnTriangleForms.j0 k t532 t533 bt540.1 bt540.2 bt548.2 true) else (laws_FnTriangleForms.j0 k t532 t533 bt540.1 bt540.2 bt548.2 (bt548.2 != bt550.2))) else (laws_FnTriangleForms.j0 k t532 t533 bt540.1 bt540.2 bt548.2 true))) else (laws_FnTriangleForms.j0 k t532 t533 bt540.1 bt540.2 bt548.2 true)) else (laws_FnTriangleForms.j0 k t532 t533 bt540.1 bt540.2 bt548.2 true))) else (laws_FnTriangleForms.j0 k t532 t533 bt540.1 bt540.2 bt548.2 true))))))) = some r := H
 have A5 := aM A50
 clear A50
 replace H := Option.bind_eq_some_iff.mp H
 obtain ⟨⟨t536, t537⟩, A60, H⟩ := H
 replace H : ((impl_TriangleFree.f k t528).bind fun bt540 => ((spec_TriangleFree.f k t528).bind fun bt544 => ((impl_IsTriangleShape.f k t528).bind fun bt548 => ((spec_IsTriangleShape.f k t528).bind fun bt550 => (if t533 = t537 then ((laws_likeCells.f k t532 t536).bind fun t552 => (if t552 = true then (if bt540.2 = bt544.2 then ((laws_likeCells.f k bt540.1 bt544.1).bind fun t553 => (if t553 = true then (if (bt548.1 != bt550.1) = true then (laws_FnTriangleForms.j0 k t532 t533 bt540.1 bt540.2 bt548.2 true) else (laws_FnTriangleForms.j0 k t532 t533 bt540.1 bt540.2 bt548.2 (bt548.2 != bt550.2))) else (laws_FnTriangleForms.j0 k t532 t533 bt540.1 bt540.2 bt548.2 true))) else (laws_FnTriangleForms.j0 k t532 t533 bt540.1 bt540.2 bt548.2 true)) else (laws_FnTriangleForms.j0 k t532 t533 bt540.1 bt540.2 bt548.2 true))) else (laws_FnTriangleForms.j0 k t532 t533 bt540.1 bt540.2 bt548.2 true)))))) = some r := H
 have A6 := aM A60
 clear A60
 replace H := Option.bind_eq_some_iff.mp H
 obtain ⟨⟨t540, t541⟩, A70, H⟩ := H
 replace H : ((spec_TriangleFree.f k t528).bind fun bt544 => ((impl_IsTriangleShape.f k t528).bind fun bt548 => ((spec_IsTriangleShape.f k t528).bind fun bt550 => (if t533 = t537 then ((laws_likeCells.f k t532 t536).bind fun t552 => (if t552 = true then (if t541 = bt544.2 then ((laws_likeCells.f k t540 bt544.1).bind fun t553 => (if t553 = true then (if (bt548.1 != bt550.1) = true then (laws_FnTriangleForms.j0 k t532 t533 t540 t541 bt548.2 true) else (laws_FnTriangleForms.j0 k t532 t533 t540 t541 bt548.2 (bt548.2 != bt550.2))) else (laws_FnTriangleForms.j0 k t532 t533 t540 t541 bt548.2 true))) else (laws_FnTriangleForms.j0 k t532 t533 t540 t541 bt548.2 true)) else (laws_FnTriangleForms.j0 k t532 t533 t540 t541 bt548.2 true))) else (laws_FnTriangleForms.j0 k t532 t533 t540 t541 bt548.2 true))))) = some r := H
 have A7 := aM A70
 clear A70
 replace H := Option.bind_eq_some_iff.mp H
 obtain ⟨⟨t544, t545⟩, A80, H⟩ := H
 replace H : ((impl_IsTriangleShape.f k t528).bind fun bt548 => ((spec_IsTriangleShape.f k t528).bind fun bt550 => (if t533 = t537 then ((laws_likeCells.f k t532 t536).bind fun t552 => (if t552 = true then (if t541 = t545 then ((laws_likeCells.f k t540 t544).bind fun t553 => (if t553 = true then (if (bt548.1 != bt550.1) = true then (laws_FnTriangleForms.j0 k t532 t533 t540 t541 bt548.2 true) else (laws_FnTriangleForms.j0 k t532 t533 t540 t541 bt548.2 (bt548.2 != bt550.2))) else (laws_FnTriangleForms.j0 k t532 t533 t540 t541 bt548.2 true))) else (laws_FnTriangleForms.j0 k t532 t533 t540 t541 bt548.2 true)) else (laws_FnTriangleForms.j0 k t532 t533 t540 t541 bt548.2 true))) else (laws_FnTriangleForms.j0 k t532 t533 t540 t541 bt548.2 true)))) = some r := H
 have A8 := aM A80
 clear A80
 replace H := Option.bind_eq_some_iff.mp H
 obtain ⟨⟨t548, t549⟩, A90, H⟩ := H
 replace H : ((spec_IsTriangleShape.f k t528).bind fun bt550 => (if t533 = t537 then ((laws_likeCells.f k t532 t536).bind fun t552 => (if t552 = true then (if t541 = t545 then ((laws_likeCells.f k t540 t544).bind fun t553 => (if t553 = true then (if (t548 != bt550.1) = true then (laws_FnTriangleForms.j0 k t532 t533 t540 t541 t549 true) else (laws_FnTriangleForms.j0 k t532 t533 t540 t541 t549 (t549 != bt550.2))) else (laws_FnTriangleForms.j0 k t532 t533 t540 t541 t549 true))) else (laws_FnTriangleForms.j0 k t532 t533 t540 t541 t549 true)) else (laws_FnTriangleForms.j0 k t532 t533 t540 t541 t549 true))) else (laws_FnTriangleForms.j0 k t532 t533 t540 t541 t549 true))) = some r := H
 have A9 := aM A90
 clear A90
 replace H := Option.bind_eq_some_iff.mp H
 obtain ⟨⟨t550, t551⟩, A100, H⟩ := H
 replace H : (if t533 = t537 then ((laws_likeCells.f k t532 t536).bind fun t552 => (if t552 = true then (if t541 = t545 then ((laws_likeCells.f k t540 t544).bind fun t553 => (if t553 = true then (if (t548 != t550) = true then (laws_FnTriangleForms.j0 k t532 t533 t540 t541 t549 true) else (laws_FnTriangleForms.j0 k t532 t533 t540 t541 t549 (t549 != t551))) else (laws_FnTriangleForms.j0 k t532 t533 t540 t541 t549 true))) else (laws_FnTriangleForms.j0 k t532 t533 t540 t541 t549 true)) else (laws_FnTriangleForms.j0 k t532 t533 t540 t541 t549 true))) else (laws_FnTriangleForms.j0 k t532 t533 t540 t541 t549 true)) = some r := H
 have A10 := aM A100
 clear A100
 have HC11 := aM H
 clear H
 go_enter Try.func3, Try.ntmps3
 go_upto_region 10 with (first | ((with_reducible refine gate_callee (f := 7) rfl ?_); refine goesL_ (some 22) rfl rfl Try.func7 (by kernel_rfl) rfl #[.slice A0 l0.length c0] rfl zm ?_; (with_reducible refine (laws_big.calls _ _ l0 false _ ?side1 ?side2 A2.out).mono ?_); (case side1 => repeat (first | exact HR0.out | (with_reducible refine Kd.C_alloc ?_ _) | (with_reducible refine Kd.C_drewN ?_ _) | (with_reducible refine Kd.C_drew ?_))); (case side2 => exact HC0.out); rintro e w' ⟨rfl, ⟨nd, rfl⟩⟩; refine ⟨_, rfl, ?_⟩) | ((with_reducible refine gate_callee (f := 8) rfl ?_); refine goesL_ (some 25) rfl rfl Try.func8 (by kernel_rfl) rfl #[.slice A0 l0.length c0] rfl zm ?_; (with_reducible refine (spec_DrawTriangleForm.calls k _ _ l0 t528 t529 _ ?side1 ?side2 A4.out).mono ?_); (case side1 => repeat (first | exact HR0.out | (with_reducible refine Kd.C_alloc ?_ _) | (with_reducible refine Kd.C_drewN ?_ _) | (with_reducible refine Kd.C_drew ?_))); (case side2 => exact HC0.out); rintro e w12 ⟨v530, rfl, ho0, hb⟩; refine ⟨_, rfl, ?_⟩; have n0_ := aM (Kd.R_lower ho0 (below_size zb)); have n1_ := aM (below_step zb hb); clear HB; have HO531 := n0_; have HB := n1_; clear n0_ n1_; (try clear hb); (try clear hb2); (try clear hk); (try clear hi); (try clear ho0); obtain ⟨Ao13, co13, eo13⟩ := Kd.R_slice HO531.out; subst eo13) | ((with_reducible refine gate_callee (f := 9) rfl ?_); refine goesL_ (some 31) rfl rfl Try.func9 (by kernel_rfl) rfl #[.slice Ao13 t528.length co13, .int .i64 t529] rfl zm ?_; (with_reducible refine (impl_TriangleForm.calls k _ _ t528 t529 t532 t533 _ ?side1 ?side2 A5.out).mono ?_); (case side1 => exact zc HO531.out); (case side2 => exact (Kd.R_reads' HO531.out).2.1); rintro e w14 ⟨v534, rfl, ho0, hb⟩; refine ⟨_, rfl, ?_⟩; have n0_ := aM (Kd.R_elder' (mR_ HO531.out) (Kd.R_base ho0) hb); have n1_ := aM (Kd.R_lower (Kd.R_new' ho0 (Kd.R_lt (mR_ HO531.out))) (below_size zb)); have n2_ := aM (below_step zb hb); clear HO531 HB; have HO531 := n0_; have HO535 := n1_; have HB := n2_; clear n0_ n1_ n2_; (try clear hb); (try clear hb2); (try clear hk); (try clear hi); (try clear ho0)) | ((with_reducible refine gate_callee (f := 10) rfl ?_); refine goesL_ (some 37) rfl rfl Try.func10 (by kernel_rfl) rfl #[.slice Ao13 t528.length co13, .int .i64 t529] rfl zm ?_; (with_reducible refine (spec_TriangleForm.calls k _ _ t528 t529 t536 t537 _ ?side1 ?side2 A6.out).mono ?_); (case side1 => exact zc HO531.out); (case side2 => exact (Kd.R_reads' HO531.out).2.1); rintro e w15 ⟨v538, rfl, ho0, hb⟩; refine ⟨_, rfl, ?_⟩; have n0_ := aM (Kd.R_elder' (mR_ HO531.out) (Kd.R_base ho0) hb); have n1_ := aM (Kd.R_elder' (mR_ HO535.out) (Kd.R_base ho0) hb); have n2_ := aM (Kd.R_lower (Kd.R_new' (Kd.R_new' ho0 (Kd.R_lt (mR_ HO531.out))) (Kd.R_lt (mR_ HO535.out))) (below_size zb)); have n3_ := aM (below_step zb hb); clear HO531 HO535 HB; have HO531 := n0_; have HO535 := n1_; have HO539 := n2_; have HB := n3_; clear n0_ n1_ n2_ n3_; (try clear hb); (try clear hb2); (try clear hk); (try clear hi); (try clear ho0)) | ((with_reducible refine gate_callee (f := 11) rfl ?_); refine goesL_ (some 42) rfl rfl Try.func11 (by kernel_rfl) rfl #[.slice Ao13 t528.length co13] rfl zm ?_; (with_reducible refine (impl_TriangleFree.calls k _ _ t528 t540 t541 _ ?side1 ?side2 A7.out).mono ?_); (case side1 => exact zc HO531.out); (case side2 => exact (Kd.R_reads' HO531.out).2.1); rintro e w16 ⟨v542, rfl, ho0, hb⟩; refine ⟨_, rfl, ?_⟩; have n0_ := aM (Kd.R_elder' (mR_ HO531.out) (Kd.R_base ho0) hb); have n1_ := aM (Kd.R_elder' (mR_ HO535.out) (Kd.R_base ho0) hb); have n2_ := aM (Kd.R_elder' (mR_ HO539.out) (Kd.R_base ho0) hb); have n3_ := aM (Kd.R_lower (Kd.R_new' (Kd.R_new' (Kd.R_new' ho0 (Kd.R_lt (mR_ HO531.out))) (Kd.R_lt (mR_ HO535.out))) (Kd.R_lt (mR_ HO539.out))) (below_size zb)); have n4_ := aM (below_step zb hb); clear HO531 HO535 HO539 HB; have HO531 := n0_; have HO535 := n1_; have HO539 := n2_; have HO543 := n3_; have HB := n4_; clear n0_ n1_ n2_ n3_ n4_; (try clear hb); (try clear hb2); (try clear hk); (try clear hi); (try clear ho0)) | ((with_reducible refine gate_callee (f := 12) rfl ?_); refine goesL_ (some 47) rfl rfl Try.func12 (by kernel_rfl) rfl #[.slice Ao13 t528.length co13] rfl zm ?_; (with_reducible refine (spec_TriangleFree.calls k _ _ t528 t544 t545 _ ?side1 ?side2 A8.out).mono ?_); (case side1 => exact zc HO531.out); (case side2 => exact (Kd.R_reads' HO531.out).2.1); rintro e w17 ⟨v546, rfl, ho0, hb⟩; refine ⟨_, rfl, ?_⟩; have n0_ := aM (Kd.R_elder' (mR_ HO531.out) (Kd.R_base ho0) hb); have n1_ := aM (Kd.R_elder' (mR_ HO535.out) (Kd.R_base ho0) hb); have n2_ := aM (Kd.R_elder' (mR_ HO539.out) (Kd.R_base ho0) hb); have n3_ := aM (Kd.R_elder' (mR_ HO543.out) (Kd.R_base ho0) hb); have n4_ := aM (Kd.R_lower (Kd.R_new' (Kd.R_new' (Kd.R_new' (Kd.R_new' ho0 (Kd.R_lt (mR_ HO531.out))) (Kd.R_lt (mR_ HO535.out))) (Kd.R_lt (mR_ HO539.out))) (Kd.R_lt (mR_ HO543.out))) (below_size zb)); have n5_ := aM (below_step zb hb); clear HO531 HO535 HO539 HO543 HB; have HO531 := n0_; have HO535 := n1_; have HO539 := n2_; have HO543 := n3_; have HO547 := n4_; have HB := n5_; clear n0_ n1_ n2_ n3_ n4_ n5_; (try clear hb); (try clear hb2); (try clear hk); (try clear hi); (try clear ho0)) | ((with_reducible refine gate_callee (f := 13) rfl ?_); refine goesL_ (some 52) rfl rfl Try.func13 (by kernel_rfl) rfl #[.slice Ao13 t528.length co13] rfl zm ?_; (with_reducible refine (impl_IsTriangleShape.calls k _ _ t528 t548 t549 _ ?side1 ?side2 A9.out).mono ?_); (case side1 => exact zc HO531.out); (case side2 => exact (Kd.R_reads' HO531.out).2.1); rintro e w18 ⟨rfl, hb⟩; refine ⟨_, rfl, ?_⟩; have n0_ := aM (Kd.R_below (mR_ HO531.out) hb); have n1_ := aM (Kd.R_below (mR_ HO535.out) hb); have n2_ := aM (Kd.R_below (mR_ HO539.out) hb); have n3_ := aM (Kd.R_below (mR_ HO543.out) hb); have n4_ := aM (Kd.R_below (mR_ HO547.out) hb); have n5_ := aM (below_step zb hb); clear HO531 HO535 HO539 HO543 HO547 HB; have HO531 := n0_; have HO535 := n1_; have HO539 := n2_; have HO543 := n3_; have HO547 := n4_; have HB := n5_; clear n0_ n1_ n2_ n3_ n4_ n5_; (try clear hb); (try clear hb2); (try clear hk); (try clear hi)) | ((with_reducible refine gate_callee (f := 14) rfl ?_); refine goesL_ (some 57) rfl rfl Try.func14 (by kernel_rfl) rfl #[.slice Ao13 t528.length co13] rfl zm ?_; (with_reducible refine (spec_IsTriangleShape.calls k _ _ t528 t550 t551 _ ?side1 ?side2 A10.out).mono ?_); (case side1 => exact zc HO531.out); (case side2 => exact (Kd.R_reads' HO531.out).2.1); rintro e w19 ⟨rfl, hb⟩; refine ⟨_, rfl, ?_⟩; have n0_ := aM (Kd.R_below (mR_ HO531.out) hb); have n1_ := aM (Kd.R_below (mR_ HO535.out) hb); have n2_ := aM (Kd.R_below (mR_ HO539.out) hb); have n3_ := aM (Kd.R_below (mR_ HO543.out) hb); have n4_ := aM (Kd.R_below (mR_ HO547.out) hb); have n5_ := aM (below_step zb hb); clear HO531 HO535 HO539 HO543 HO547 HB; have HO531 := n0_; have HO535 := n1_; have HO539 := n2_; have HO543 := n3_; have HO547 := n4_; have HB := n5_; clear n0_ n1_ n2_ n3_ n4_ n5_; (try clear hb); (try clear hb2); (try clear hk); (try clear hi)))
 (try simp only [Act.put, xA, xB, xC])
 go_cut [89] (fun v89 wc => ∃ (kq : Nat) (x89_10 : Bool), v89 = .bool x89_10 ∧ Aside0 (laws_FnTriangleForms.j0 kq t532 t533 t540 t541 t549 x89_10 = some r) ∧ Aside0 (kq ≤ k) ∧ Aside0 (Kd.R k59 59 wc w.heap.size (fun k_ => some k_ ≠ (v542 : Value).ownBlock) v534 t532) ∧ Aside0 (Kd.R k59 59 wc w.heap.size (fun k_ => some k_ ≠ (v534 : Value).ownBlock) v542 t540) ∧ Aside0 (Below w.heap.size w wc))
 case first =>
  have H := HC11.out
  clear HC11
  by_cases c20 : t533 = t537
  rotate_left
  ·rw [if_neg c20] at H
   have c20b0 : (t533 == t537) = false := beq_eq_false_iff_ne.mpr c20
   have c20b1 : (t533 != t537) = true := bne_iff_ne.mpr c20
   (first | rw [c20b0] | (simp only [i64_w, i32_w]; rw [c20b0]) | skip)
   have H' := aM H
   clear H
   go_wp2
   go_meet
   case rel => exact ⟨_, (true), zr, H', ⟨by first | omega | exact Nat.le_refl _⟩, ⟨zd5 HO535.out⟩, ⟨zd6 HO543.out⟩, ⟨zb⟩⟩
  rw [if_pos c20] at H
  have c20b0 : (t533 == t537) = true := beq_iff_eq.mpr c20
  have c20b1 : (t533 != t537) = false := bne_eq_false_iff_eq.mpr c20
  clear c20
  (first | rw [c20b0] | (simp only [i64_w, i32_w]; rw [c20b0]) | skip)
  replace H := Option.bind_eq_some_iff.mp H
  obtain ⟨t552, A210, H⟩ := H
  replace H : (if t552 = true then (if t541 = t545 then ((laws_likeCells.f k t540 t544).bind fun t553 => (if t553 = true then (if (t548 != t550) = true then (laws_FnTriangleForms.j0 k t532 t533 t540 t541 t549 true) else (laws_FnTriangleForms.j0 k t532 t533 t540 t541 t549 (t549 != t551))) else (laws_FnTriangleForms.j0 k t532 t533 t540 t541 t549 true))) else (laws_FnTriangleForms.j0 k t532 t533 t540 t541 t549 true)) else (laws_FnTriangleForms.j0 k t532 t533 t540 t541 t549 true)) = some r := H
  have A21 := aM A210
  clear A210
  by_cases c22 : t552 = true
  rotate_left
  ·replace c22 := Bool.eq_false_iff.mpr c22
   subst c22
   have H1 : (laws_FnTriangleForms.j0 k t532 t533 t540 t541 t549 true) = some r := by rw [if_neg (show ¬ (false = true) by decide)] at H; exact H
   clear H
   have H := H1
   clear H1
   have H' := aM H
   clear H
   obtain ⟨Ao41, co41, eo41⟩ := Kd.R_slice HO535.out
   subst eo41
   obtain ⟨Ao42, co42, eo42⟩ := Kd.R_slice HO539.out
   subst eo42
   go_wp2_with (first | (go_at_call 15; (with_reducible refine (laws_likeCells.calls k _ _ t532 _ _ t536 false _ ?side1 ?side2 ?side3 ?side4 A21.out).mono ?_); (case side1 => exact zc HO535.out); (case side2 => exact (Kd.R_reads' HO535.out).2.1); (case side3 => exact zc HO539.out); (case side4 => exact (Kd.R_reads' HO539.out).2.1); rintro e w' ⟨rfl, ⟨nd, rfl⟩⟩))
   go_meet
   case rel => exact ⟨_, (true), zr, H', ⟨by first | omega | exact Nat.le_refl _⟩, ⟨zd5 HO535.out⟩, ⟨zd6 HO543.out⟩, ⟨zb⟩⟩
  subst c22
  have H1 : (if t541 = t545 then ((laws_likeCells.f k t540 t544).bind fun t553 => (if t553 = true then (if (t548 != t550) = true then (laws_FnTriangleForms.j0 k t532 t533 t540 t541 t549 true) else (laws_FnTriangleForms.j0 k t532 t533 t540 t541 t549 (t549 != t551))) else (laws_FnTriangleForms.j0 k t532 t533 t540 t541 t549 true))) else (laws_FnTriangleForms.j0 k t532 t533 t540 t541 t549 true)) = some r := by rw [if_pos rfl] at H; exact H
  clear H
  have H := H1
  clear H1
  by_cases c23 : t541 = t545
  rotate_left
  ·rw [if_neg c23] at H
   have c23b0 : (t541 == t545) = false := beq_eq_false_iff_ne.mpr c23
   have c23b1 : (t541 != t545) = true := bne_iff_ne.mpr c23
   have H' := aM H
   clear H
   obtain ⟨Ao39, co39, eo39⟩ := Kd.R_slice HO535.out
   subst eo39
   obtain ⟨Ao40, co40, eo40⟩ := Kd.R_slice HO539.out
   subst eo40
   go_wp2_with (first | (go_at_call 15; (with_reducible refine (laws_likeCells.calls k _ _ t532 _ _ t536 true _ ?side1 ?side2 ?side3 ?side4 A21.out).mono ?_); (case side1 => exact zc HO535.out); (case side2 => exact (Kd.R_reads' HO535.out).2.1); (case side3 => exact zc HO539.out); (case side4 => exact (Kd.R_reads' HO539.out).2.1); rintro e w' ⟨rfl, ⟨nd, rfl⟩⟩))
   go_meet
   case rel => exact ⟨_, (true), zr, H', ⟨by first | omega | exact Nat.le_refl _⟩, ⟨zd5 HO535.out⟩, ⟨zd6 HO543.out⟩, ⟨zb⟩⟩
  rw [if_pos c23] at H
  have c23b0 : (t541 == t545) = true := beq_iff_eq.mpr c23
  have c23b1 : (t541 != t545) = false := bne_eq_false_iff_eq.mpr c23
  clear c23
  replace H := Option.bind_eq_some_iff.mp H
  obtain ⟨t553, A240, H⟩ := H
  replace H : (if t553 = true then (if (t548 != t550) = true then (laws_FnTriangleForms.j0 k t532 t533 t540 t541 t549 true) else (laws_FnTriangleForms.j0 k t532 t533 t540 t541 t549 (t549 != t551))) else (laws_FnTriangleForms.j0 k t532 t533 t540 t541 t549 true)) = some r := H
  have A24 := aM A240
  clear A240
  by_cases c25 : t553 = true
  rotate_left
  ·replace c25 := Bool.eq_false_iff.mpr c25
   subst c25
   have H1 : (laws_FnTriangleForms.j0 k t532 t533 t540 t541 t549 true) = some r := by rw [if_neg (show ¬ (false = true) by decide)] at H; exact H
   clear H
   have H := H1
   clear H1
   have H' := aM H
   clear H
   obtain ⟨Ao35, co35, eo35⟩ := Kd.R_slice HO535.out
   subst eo35
   obtain ⟨Ao36, co36, eo36⟩ := Kd.R_slice HO539.out
   subst eo36
   go_wp2_with (first | (go_at_call 15; (with_reducible refine (laws_likeCells.calls k _ _ t532 _ _ t536 true _ ?side1 ?side2 ?side3 ?side4 A21.out).mono ?_); (case side1 => exact zc HO535.out); (case side2 => exact (Kd.R_reads' HO535.out).2.1); (case side3 => exact zc HO539.out); (case side4 => exact (Kd.R_reads' HO539.out).2.1); rintro e w' ⟨rfl, ⟨nd, rfl⟩⟩; obtain ⟨Ao37, co37, eo37⟩ := Kd.R_slice HO543.out; subst eo37; obtain ⟨Ao38, co38, eo38⟩ := Kd.R_slice HO547.out; subst eo38) | (go_at_call 15; (with_reducible refine (laws_likeCells.calls k _ _ t540 _ _ t544 false _ ?side1 ?side2 ?side3 ?side4 A24.out).mono ?_); (case side1 => exact zc HO543.out); (case side2 => exact (Kd.R_reads' HO543.out).2.1); (case side3 => exact zc HO547.out); (case side4 => exact (Kd.R_reads' HO547.out).2.1); rintro e w' ⟨rfl, ⟨nd, rfl⟩⟩))
   go_meet
   case rel => exact ⟨_, (true), zr, H', ⟨by first | omega | exact Nat.le_refl _⟩, ⟨zd5 HO535.out⟩, ⟨zd6 HO543.out⟩, ⟨zb⟩⟩
  subst c25
  have H1 : (if (t548 != t550) = true then (laws_FnTriangleForms.j0 k t532 t533 t540 t541 t549 true) else (laws_FnTriangleForms.j0 k t532 t533 t540 t541 t549 (t549 != t551))) = some r := by rw [if_pos rfl] at H; exact H
  clear H
  have H := H1
  clear H1
  by_cases c26 : (t548 != t550) = true
  rotate_left
  ·rw [if_neg c26] at H
   have c26b0 : (t548 != t550) = false := by simpa using c26
   (try (have c26b1 : decide (t548 = t550) = true := by simpa using c26))
   (try (have c26b2 : (t548 == t550) = true := by simpa using c26))
   clear c26
   have H' := aM H
   clear H
   obtain ⟨Ao31, co31, eo31⟩ := Kd.R_slice HO535.out
   subst eo31
   obtain ⟨Ao32, co32, eo32⟩ := Kd.R_slice HO539.out
   subst eo32
   go_wp2_with (first | (go_at_call 15; (with_reducible refine (laws_likeCells.calls k _ _ t532 _ _ t536 true _ ?side1 ?side2 ?side3 ?side4 A21.out).mono ?_); (case side1 => exact zc HO535.out); (case side2 => exact (Kd.R_reads' HO535.out).2.1); (case side3 => exact zc HO539.out); (case side4 => exact (Kd.R_reads' HO539.out).2.1); rintro e w' ⟨rfl, ⟨nd, rfl⟩⟩; obtain ⟨Ao33, co33, eo33⟩ := Kd.R_slice HO543.out; subst eo33; obtain ⟨Ao34, co34, eo34⟩ := Kd.R_slice HO547.out; subst eo34) | (go_at_call 15; (with_reducible refine (laws_likeCells.calls k _ _ t540 _ _ t544 true _ ?side1 ?side2 ?side3 ?side4 A24.out).mono ?_); (case side1 => exact zc HO543.out); (case side2 => exact (Kd.R_reads' HO543.out).2.1); (case side3 => exact zc HO547.out); (case side4 => exact (Kd.R_reads' HO547.out).2.1); rintro e w' ⟨rfl, ⟨nd, rfl⟩⟩))
   go_meet
   case rel => exact ⟨_, ((t549 != t551)), zr, H', ⟨by first | omega | exact Nat.le_refl _⟩, ⟨zd5 HO535.out⟩, ⟨zd6 HO543.out⟩, ⟨zb⟩⟩
  rw [if_pos c26] at H
  have c26b0 : (t548 != t550) = true := c26
  (try (have c26b1 : decide (t548 = t550) = false := by simpa using c26))
  (try (have c26b2 : (t548 == t550) = false := by simpa using c26))
  (try (have c26b3 : ¬ (t548 = t550) := by simpa using c26))
  clear c26
  have H' := aM H
  clear H
  obtain ⟨Ao27, co27, eo27⟩ := Kd.R_slice HO535.out
  subst eo27
  obtain ⟨Ao28, co28, eo28⟩ := Kd.R_slice HO539.out
  subst eo28
  go_wp2_with (first | (go_at_call 15; (with_reducible refine (laws_likeCells.calls k _ _ t532 _ _ t536 true _ ?side1 ?side2 ?side3 ?side4 A21.out).mono ?_); (case side1 => exact zc HO535.out); (case side2 => exact (Kd.R_reads' HO535.out).2.1); (case side3 => exact zc HO539.out); (case side4 => exact (Kd.R_reads' HO539.out).2.1); rintro e w' ⟨rfl, ⟨nd, rfl⟩⟩; obtain ⟨Ao29, co29, eo29⟩ := Kd.R_slice HO543.out; subst eo29; obtain ⟨Ao30, co30, eo30⟩ := Kd.R_slice HO547.out; subst eo30) | (go_at_call 15; (with_reducible refine (laws_likeCells.calls k _ _ t540 _ _ t544 true _ ?side1 ?side2 ?side3 ?side4 A24.out).mono ?_); (case side1 => exact zc HO543.out); (case side2 => exact (Kd.R_reads' HO543.out).2.1); (case side3 => exact zc HO547.out); (case side4 => exact (Kd.R_reads' HO547.out).2.1); rintro e w' ⟨rfl, ⟨nd, rfl⟩⟩))
  go_meet
  case rel => exact ⟨_, (true), zr, H', ⟨by first | omega | exact Nat.le_refl _⟩, ⟨zd5 HO535.out⟩, ⟨zd6 HO543.out⟩, ⟨zb⟩⟩
 case rest =>
  clear HC11
  try clear c1
  try clear c2
  try clear p2
  try clear c3
  try clear c7
  try clear c8
  try clear c9
  try clear c10
  try clear c11
  try clear c12
  try clear c13
  try clear c14
  try clear c20
  try clear c20b0
  try clear c20b1
  try clear c22
  try clear c23
  try clear c23b0
  try clear c23b1
  try clear c25
  try clear c26
  try clear c26b0
  try clear c26b1
  try clear c26b2
  obtain ⟨kq, x89_10, rfl, HA, HJ10, HO_5, HO_9, HB⟩ := hcut
  cases kq with
  | zero => exact absurd HA.out (by simp [laws_FnTriangleForms.j0])
  | succ kj10 =>
   have H := HA.out
   clear HA
   simp only [laws_FnTriangleForms.j0] at H
   by_cases c43 : x89_10 = true
   ·subst c43
    have H1 : (some false) = some r := by rw [if_pos rfl] at H; exact H
    clear H
    have H := H1
    clear H1
    obtain rfl := Option.some.inj H
    go_wp2
    go_ret
    exact ⟨zw, zb⟩
   replace c43 := Bool.eq_false_iff.mpr c43
   subst c43
   have H1 : (if t533 = 0 then (laws_FnTriangleForms.j1 kj10 t532 t540 t549 (t541 != 0)) else (laws_FnTriangleForms.j1 kj10 t532 t540 t549 true)) = some r := by rw [if_neg (show ¬ (false = true) by decide)] at H; exact H
   clear H
   have H := H1
   clear H1
   have HC44 := aM H
   clear H
   go_upto_region 12 with (fail)
   go_cut [95] (fun v95 wc => ∃ (kq : Nat) (x95_43 : Bool), v95 = .bool x95_43 ∧ Aside0 (laws_FnTriangleForms.j1 kq t532 t540 t549 x95_43 = some r) ∧ Aside0 (kq ≤ kj10) ∧ Aside0 (Kd.R k59 59 wc w.heap.size (fun k_ => some k_ ≠ (v542 : Value).ownBlock) v534 t532) ∧ Aside0 (Kd.R k59 59 wc w.heap.size (fun k_ => some k_ ≠ (v534 : Value).ownBlock) v542 t540) ∧ Aside0 (Below w.heap.size w wc))
   case first =>
    have H := HC44.out
    clear HC44
    by_cases c45 : t533 = 0
    rotate_left
    ·rw [if_neg c45] at H
     have c45b0 : (t533 == 0) = false := beq_eq_false_iff_ne.mpr c45
     have c45b1 : (t533 != 0) = true := bne_iff_ne.mpr c45
     (first | rw [c45b0] | (simp only [i64_w, i32_w]; rw [c45b0]) | skip)
     have H' := aM H
     clear H
     go_wp2
     go_meet
     case rel => exact ⟨_, (true), zr, H', ⟨by have := HJ10.out; first | omega | exact Nat.le_refl _⟩, ⟨mR_ HO_5.out⟩, ⟨mR_ HO_9.out⟩, ⟨zb⟩⟩
    rw [if_pos c45] at H
    have c45b0 : (t533 == 0) = true := beq_iff_eq.mpr c45
    have c45b1 : (t533 != 0) = false := bne_eq_false_iff_eq.mpr c45
    clear c45
    (first | rw [c45b0] | (simp only [i64_w, i32_w]; rw [c45b0]) | skip)
    have H' := aM H
    clear H
    go_wp2
    go_meet
    case rel => exact ⟨_, ((t541 != 0)), zr, H', ⟨by have := HJ10.out; first | omega | exact Nat.le_refl _⟩, ⟨mR_ HO_5.out⟩, ⟨mR_ HO_9.out⟩, ⟨zb⟩⟩
   case rest =>
    clear HC44
    try clear c1
    try clear c2
    try clear p2
    try clear c3
    try clear c4
    try clear c7
    try clear c8
    try clear c9
    try clear c10
    try clear c11
    try clear c12
    try clear c13
    try clear c14
    try clear c20
    try clear c20b0
    try clear c20b1
    try clear c22
    try clear c23
    try clear c23b0
    try clear c23b1
    try clear c25
    try clear c26
    try clear c26b0
    try clear c26b1
    try clear c26b2
    try clear c43
    try clear c45
    try clear c45b0
    try clear c45b1
    try clear p2
    obtain ⟨kq, x95_43, rfl, HA, HJ43, HO_5, HO_9, HB⟩ := hcut
    cases kq with
    | zero => exact absurd HA.out (by simp [laws_FnTriangleForms.j1])
    | succ kj43 =>
     have H := HA.out
     clear HA
     simp only [laws_FnTriangleForms.j1] at H
     by_cases c46 : x95_43 = true
     ·subst c46
      have H1 : (some true) = some r := by rw [if_pos rfl] at H; exact H
      clear H
      have H := H1
      clear H1
      obtain rfl := Option.some.inj H
      go_wp2
      go_ret
      exact ⟨zw, zb⟩
     replace c46 := Bool.eq_false_iff.mpr c46
     subst c46
     have H1 : ((impl_IsTriangleShape.f kj43 t532).bind fun bt554 => ((impl_TriangleFree.f kj43 t532).bind fun bt556 => (if bt554.1 = true then (if (bt554.2 == t549) = true then (if bt556.2 = 0 then ((laws_likeCells.f kj43 bt556.1 t540).bind fun t560 => (if t560 = true then ((impl_CompareShapes.f kj43 t540 t532).bind fun t561 => (some (decide (t561 ≤ 0)))) else (some false))) else (some false)) else (some false)) else (some false)))) = some r := by rw [if_neg (show ¬ (false = true) by decide)] at H; exact H
     clear H
     have H := H1
     clear H1
     replace H := Option.bind_eq_some_iff.mp H
     obtain ⟨⟨t554, t555⟩, A470, H⟩ := H
     replace H : ((impl_TriangleFree.f kj43 t532).bind fun bt556 => (if t554 = true then (if (t555 == t549) = true then (if bt556.2 = 0 then ((laws_likeCells.f kj43 bt556.1 t540).bind fun t560 => (if t560 = true then ((impl_CompareShapes.f kj43 t540 t532).bind fun t561 => (some (decide (t561 ≤ 0)))) else (some false))) else (some false)) else (some false)) else (some false))) = some r := H
     have A47 := aM A470
     clear A470
     replace H := Option.bind_eq_some_iff.mp H
     obtain ⟨⟨t556, t557⟩, A480, H⟩ := H
     replace H : (if t554 = true then (if (t555 == t549) = true then (if t557 = 0 then ((laws_likeCells.f kj43 t556 t540).bind fun t560 => (if t560 = true then ((impl_CompareShapes.f kj43 t540 t532).bind fun t561 => (some (decide (t561 ≤ 0)))) else (some false))) else (some false)) else (some false)) else (some false)) = some r := H
     have A48 := aM A480
     clear A480
     by_cases c49 : t554 = true
     rotate_left
     ·replace c49 := Bool.eq_false_iff.mpr c49
      subst c49
      have H1 : (some false) = some r := by rw [if_neg (show ¬ (false = true) by decide)] at H; exact H
      clear H
      have H := H1
      clear H1
      obtain rfl := Option.some.inj H
      obtain ⟨Ao72, co72, eo72⟩ := Kd.R_slice HO_5.out
      subst eo72
      go_wp2_with (first | ((with_reducible refine gate_callee (f := 13) rfl ?_); refine goesL_ (some 98) rfl rfl Try.func13 (by kernel_rfl) rfl #[.slice Ao72 t532.length co72] rfl zm ?_; (with_reducible refine (impl_IsTriangleShape.calls kj43 _ _ t532 false t555 _ ?side1 ?side2 A47.out).mono ?_); (case side1 => exact zc HO_5.out); (case side2 => exact (Kd.R_reads' HO_5.out).2.1); rintro e w73 ⟨rfl, hb⟩; refine ⟨_, rfl, ?_⟩; have n0_ := aM (Kd.R_below (mR_ HO_5.out) hb); have n1_ := aM (Kd.R_below (mR_ HO_9.out) hb); have n2_ := aM (below_step zb hb); clear HO_5 HO_9 HB; have HO_5 := n0_; have HO_9 := n1_; have HB := n2_; clear n0_ n1_ n2_; (try clear hb); (try clear hb2); (try clear hk); (try clear hi)) | ((with_reducible refine gate_callee (f := 11) rfl ?_); refine goesL_ (some 103) rfl rfl Try.func11 (by kernel_rfl) rfl #[.slice Ao72 t532.length co72] rfl zm ?_; (with_reducible refine (impl_TriangleFree.calls kj43 _ _ t532 t556 t557 _ ?side1 ?side2 A48.out).mono ?_); (case side1 => exact zc HO_5.out); (case side2 => exact (Kd.R_reads' HO_5.out).2.1); rintro e w74 ⟨v558, rfl, ho0, hb⟩; refine ⟨_, rfl, ?_⟩; have n0_ := aM (Kd.R_elder' (mR_ HO_5.out) (Kd.R_base ho0) hb); have n1_ := aM (Kd.R_elder' (mR_ HO_9.out) (Kd.R_base ho0) hb); have n2_ := aM (Kd.R_lower (Kd.R_new' (Kd.R_new' ho0 (Kd.R_lt (mR_ HO_5.out))) (Kd.R_lt (mR_ HO_9.out))) (below_size zb)); have n3_ := aM (below_step zb hb); clear HO_5 HO_9 HB; have HO_5 := n0_; have HO_9 := n1_; have HO559 := n2_; have HB := n3_; clear n0_ n1_ n2_ n3_; (try clear hb); (try clear hb2); (try clear hk); (try clear hi); (try clear ho0)))
      go_ret
      exact ⟨zw, zb⟩
     subst c49
     have H1 : (if (t555 == t549) = true then (if t557 = 0 then ((laws_likeCells.f kj43 t556 t540).bind fun t560 => (if t560 = true then ((impl_CompareShapes.f kj43 t540 t532).bind fun t561 => (some (decide (t561 ≤ 0)))) else (some false))) else (some false)) else (some false)) = some r := by rw [if_pos rfl] at H; exact H
     clear H
     have H := H1
     clear H1
     by_cases c50 : (t555 == t549) = true
     rotate_left
     ·rw [if_neg c50] at H
      have c50b0 : (t555 == t549) = false := by simpa using c50
      (try (have c50b1 : decide (t555 = t549) = false := by simpa using c50))
      (try (have c50b2 : (t555 == t549) = false := by simpa using c50))
      (try (have c50b3 : ¬ (t555 = t549) := by simpa using c50))
      clear c50
      obtain rfl := Option.some.inj H
      obtain ⟨Ao69, co69, eo69⟩ := Kd.R_slice HO_5.out
      subst eo69
      go_wp2_with (first | ((with_reducible refine gate_callee (f := 13) rfl ?_); refine goesL_ (some 98) rfl rfl Try.func13 (by kernel_rfl) rfl #[.slice Ao69 t532.length co69] rfl zm ?_; (with_reducible refine (impl_IsTriangleShape.calls kj43 _ _ t532 true t555 _ ?side1 ?side2 A47.out).mono ?_); (case side1 => exact zc HO_5.out); (case side2 => exact (Kd.R_reads' HO_5.out).2.1); rintro e w70 ⟨rfl, hb⟩; refine ⟨_, rfl, ?_⟩; have n0_ := aM (Kd.R_below (mR_ HO_5.out) hb); have n1_ := aM (Kd.R_below (mR_ HO_9.out) hb); have n2_ := aM (below_step zb hb); clear HO_5 HO_9 HB; have HO_5 := n0_; have HO_9 := n1_; have HB := n2_; clear n0_ n1_ n2_; (try clear hb); (try clear hb2); (try clear hk); (try clear hi)) | ((with_reducible refine gate_callee (f := 11) rfl ?_); refine goesL_ (some 103) rfl rfl Try.func11 (by kernel_rfl) rfl #[.slice Ao69 t532.length co69] rfl zm ?_; (with_reducible refine (impl_TriangleFree.calls kj43 _ _ t532 t556 t557 _ ?side1 ?side2 A48.out).mono ?_); (case side1 => exact zc HO_5.out); (case side2 => exact (Kd.R_reads' HO_5.out).2.1); rintro e w71 ⟨v558, rfl, ho0, hb⟩; refine ⟨_, rfl, ?_⟩; have n0_ := aM (Kd.R_elder' (mR_ HO_5.out) (Kd.R_base ho0) hb); have n1_ := aM (Kd.R_elder' (mR_ HO_9.out) (Kd.R_base ho0) hb); have n2_ := aM (Kd.R_lower (Kd.R_new' (Kd.R_new' ho0 (Kd.R_lt (mR_ HO_5.out))) (Kd.R_lt (mR_ HO_9.out))) (below_size zb)); have n3_ := aM (below_step zb hb); clear HO_5 HO_9 HB; have HO_5 := n0_; have HO_9 := n1_; have HO559 := n2_; have HB := n3_; clear n0_ n1_ n2_ n3_; (try clear hb); (try clear hb2); (try clear hk); (try clear hi); (try clear ho0)))
      go_ret
      exact ⟨zw, zb⟩
     rw [if_pos c50] at H
     have c50b0 : (t555 == t549) = true := c50
     (try (have c50b1 : decide (t555 = t549) = true := by simpa using c50))
     (try (have c50b2 : (t555 == t549) = true := by simpa using c50))
     clear c50
     by_cases c51 : t557 = 0
     rotate_left
     ·rw [if_neg c51] at H
      have c51b0 : (t557 == 0) = false := beq_eq_false_iff_ne.mpr c51
      have c51b1 : (t557 != 0) = true := bne_iff_ne.mpr c51
      obtain rfl := Option.some.inj H
      obtain ⟨Ao66, co66, eo66⟩ := Kd.R_slice HO_5.out
      subst eo66
      go_wp2_with (first | ((with_reducible refine gate_callee (f := 13) rfl ?_); refine goesL_ (some 98) rfl rfl Try.func13 (by kernel_rfl) rfl #[.slice Ao66 t532.length co66] rfl zm ?_; (with_reducible refine (impl_IsTriangleShape.calls kj43 _ _ t532 true t555 _ ?side1 ?side2 A47.out).mono ?_); (case side1 => exact zc HO_5.out); (case side2 => exact (Kd.R_reads' HO_5.out).2.1); rintro e w67 ⟨rfl, hb⟩; refine ⟨_, rfl, ?_⟩; have n0_ := aM (Kd.R_below (mR_ HO_5.out) hb); have n1_ := aM (Kd.R_below (mR_ HO_9.out) hb); have n2_ := aM (below_step zb hb); clear HO_5 HO_9 HB; have HO_5 := n0_; have HO_9 := n1_; have HB := n2_; clear n0_ n1_ n2_; (try clear hb); (try clear hb2); (try clear hk); (try clear hi)) | ((with_reducible refine gate_callee (f := 11) rfl ?_); refine goesL_ (some 103) rfl rfl Try.func11 (by kernel_rfl) rfl #[.slice Ao66 t532.length co66] rfl zm ?_; (with_reducible refine (impl_TriangleFree.calls kj43 _ _ t532 t556 t557 _ ?side1 ?side2 A48.out).mono ?_); (case side1 => exact zc HO_5.out); (case side2 => exact (Kd.R_reads' HO_5.out).2.1); rintro e w68 ⟨v558, rfl, ho0, hb⟩; refine ⟨_, rfl, ?_⟩; have n0_ := aM (Kd.R_elder' (mR_ HO_5.out) (Kd.R_base ho0) hb); have n1_ := aM (Kd.R_elder' (mR_ HO_9.out) (Kd.R_base ho0) hb); have n2_ := aM (Kd.R_lower (Kd.R_new' (Kd.R_new' ho0 (Kd.R_lt (mR_ HO_5.out))) (Kd.R_lt (mR_ HO_9.out))) (below_size zb)); have n3_ := aM (below_step zb hb); clear HO_5 HO_9 HB; have HO_5 := n0_; have HO_9 := n1_; have HO559 := n2_; have HB := n3_; clear n0_ n1_ n2_ n3_; (try clear hb); (try clear hb2); (try clear hk); (try clear hi); (try clear ho0)))
      go_ret
      exact ⟨zw, zb⟩
     rw [if_pos c51] at H
     have c51b0 : (t557 == 0) = true := beq_iff_eq.mpr c51
     have c51b1 : (t557 != 0) = false := bne_eq_false_iff_eq.mpr c51
     clear c51
     replace H := Option.bind_eq_some_iff.mp H
     obtain ⟨t560, A520, H⟩ := H
     replace H : (if t560 = true then ((impl_CompareShapes.f kj43 t540 t532).bind fun t561 => (some (decide (t561 ≤ 0)))) else (some false)) = some r := H
     have A52 := aM A520
     clear A520
     by_cases c53 : t560 = true
     rotate_left
     ·replace c53 := Bool.eq_false_iff.mpr c53
      subst c53
      have H1 : (some false) = some r := by rw [if_neg (show ¬ (false = true) by decide)] at H; exact H
      clear H
      have H := H1
      clear H1
      obtain rfl := Option.some.inj H
      obtain ⟨Ao61, co61, eo61⟩ := Kd.R_slice HO_5.out
      subst eo61
      go_wp2_with (first | ((with_reducible refine gate_callee (f := 13) rfl ?_); refine goesL_ (some 98) rfl rfl Try.func13 (by kernel_rfl) rfl #[.slice Ao61 t532.length co61] rfl zm ?_; (with_reducible refine (impl_IsTriangleShape.calls kj43 _ _ t532 true t555 _ ?side1 ?side2 A47.out).mono ?_); (case side1 => exact zc HO_5.out); (case side2 => exact (Kd.R_reads' HO_5.out).2.1); rintro e w62 ⟨rfl, hb⟩; refine ⟨_, rfl, ?_⟩; have n0_ := aM (Kd.R_below (mR_ HO_5.out) hb); have n1_ := aM (Kd.R_below (mR_ HO_9.out) hb); have n2_ := aM (below_step zb hb); clear HO_5 HO_9 HB; have HO_5 := n0_; have HO_9 := n1_; have HB := n2_; clear n0_ n1_ n2_; (try clear hb); (try clear hb2); (try clear hk); (try clear hi)) | ((with_reducible refine gate_callee (f := 11) rfl ?_); refine goesL_ (some 103) rfl rfl Try.func11 (by kernel_rfl) rfl #[.slice Ao61 t532.length co61] rfl zm ?_; (with_reducible refine (impl_TriangleFree.calls kj43 _ _ t532 t556 t557 _ ?side1 ?side2 A48.out).mono ?_); (case side1 => exact zc HO_5.out); (case side2 => exact (Kd.R_reads' HO_5.out).2.1); rintro e w63 ⟨v558, rfl, ho0, hb⟩; refine ⟨_, rfl, ?_⟩; have n0_ := aM (Kd.R_elder' (mR_ HO_5.out) (Kd.R_base ho0) hb); have n1_ := aM (Kd.R_elder' (mR_ HO_9.out) (Kd.R_base ho0) hb); have n2_ := aM (Kd.R_lower (Kd.R_new' (Kd.R_new' ho0 (Kd.R_lt (mR_ HO_5.out))) (Kd.R_lt (mR_ HO_9.out))) (below_size zb)); have n3_ := aM (below_step zb hb); clear HO_5 HO_9 HB; have HO_5 := n0_; have HO_9 := n1_; have HO559 := n2_; have HB := n3_; clear n0_ n1_ n2_ n3_; (try clear hb); (try clear hb2); (try clear hk); (try clear hi); (try clear ho0); obtain ⟨Ao64, co64, eo64⟩ := Kd.R_slice HO559.out; subst eo64; obtain ⟨Ao65, co65, eo65⟩ := Kd.R_slice HO_9.out; subst eo65) | (go_at_call 15; (with_reducible refine (laws_likeCells.calls kj43 _ _ t556 _ _ t540 false _ ?side1 ?side2 ?side3 ?side4 A52.out).mono ?_); (case side1 => exact zc HO559.out); (case side2 => exact (Kd.R_reads' HO559.out).2.1); (case side3 => exact zc HO_9.out); (case side4 => exact (Kd.R_reads' HO_9.out).2.1); rintro e w' ⟨rfl, ⟨nd, rfl⟩⟩))
      go_ret
      exact ⟨zw, zb⟩
     subst c53
     have H1 : ((impl_CompareShapes.f kj43 t540 t532).bind fun t561 => (some (decide (t561 ≤ 0)))) = some r := by rw [if_pos rfl] at H; exact H
     clear H
     have H := H1
     clear H1
     replace H := Option.bind_eq_some_iff.mp H
     obtain ⟨t561, A540, H⟩ := H
     replace H : (some (decide (t561 ≤ 0))) = some r := H
     have A54 := aM A540
     clear A540
     obtain rfl := Option.some.inj H
     obtain ⟨Ao55, co55, eo55⟩ := Kd.R_slice HO_5.out
     subst eo55
     go_wp2_with (first | ((with_reducible refine gate_callee (f := 13) rfl ?_); refine goesL_ (some 98) rfl rfl Try.func13 (by kernel_rfl) rfl #[.slice Ao55 t532.length co55] rfl zm ?_; (with_reducible refine (impl_IsTriangleShape.calls kj43 _ _ t532 true t555 _ ?side1 ?side2 A47.out).mono ?_); (case side1 => exact zc HO_5.out); (case side2 => exact (Kd.R_reads' HO_5.out).2.1); rintro e w56 ⟨rfl, hb⟩; refine ⟨_, rfl, ?_⟩; have n0_ := aM (Kd.R_below (mR_ HO_5.out) hb); have n1_ := aM (Kd.R_below (mR_ HO_9.out) hb); have n2_ := aM (below_step zb hb); clear HO_5 HO_9 HB; have HO_5 := n0_; have HO_9 := n1_; have HB := n2_; clear n0_ n1_ n2_; (try clear hb); (try clear hb2); (try clear hk); (try clear hi)) | ((with_reducible refine gate_callee (f := 11) rfl ?_); refine goesL_ (some 103) rfl rfl Try.func11 (by kernel_rfl) rfl #[.slice Ao55 t532.length co55] rfl zm ?_; (with_reducible refine (impl_TriangleFree.calls kj43 _ _ t532 t556 t557 _ ?side1 ?side2 A48.out).mono ?_); (case side1 => exact zc HO_5.out); (case side2 => exact (Kd.R_reads' HO_5.out).2.1); rintro e w57 ⟨v558, rfl, ho0, hb⟩; refine ⟨_, rfl, ?_⟩; have n0_ := aM (Kd.R_elder' (mR_ HO_5.out) (Kd.R_base ho0) hb); have n1_ := aM (Kd.R_elder' (mR_ HO_9.out) (Kd.R_base ho0) hb); have n2_ := aM (Kd.R_lower (Kd.R_new' (Kd.R_new' ho0 (Kd.R_lt (mR_ HO_5.out))) (Kd.R_lt (mR_ HO_9.out))) (below_size zb)); have n3_ := aM (below_step zb hb); clear HO_5 HO_9 HB; have HO_5 := n0_; have HO_9 := n1_; have HO559 := n2_; have HB := n3_; clear n0_ n1_ n2_ n3_; (try clear hb); (try clear hb2); (try clear hk); (try clear hi); (try clear ho0); obtain ⟨Ao58, co58, eo58⟩ := Kd.R_slice HO559.out; subst eo58; obtain ⟨Ao59, co59, eo59⟩ := Kd.R_slice HO_9.out; subst eo59) | (go_at_call 15; (with_reducible refine (laws_likeCells.calls kj43 _ _ t556 _ _ t540 true _ ?side1 ?side2 ?side3 ?side4 A52.out).mono ?_); (case side1 => exact zc HO559.out); (case side2 => exact (Kd.R_reads' HO559.out).2.1); (case side3 => exact zc HO_9.out); (case side4 => exact (Kd.R_reads' HO_9.out).2.1); rintro e w' ⟨rfl, ⟨nd, rfl⟩⟩) | (go_at_call 16; (with_reducible refine (impl_CompareShapes.calls kj43 _ _ t540 _ _ t532 t561 _ ?side1 ?side2 ?side3 ?side4 A54.out).mono ?_); (case side1 => exact zc HO_9.out); (case side2 => exact (Kd.R_reads' HO_9.out).2.1); (case side3 => exact zc HO_5.out); (case side4 => exact (Kd.R_reads' HO_5.out).2.1); rintro e w60 ⟨rfl, hb⟩; have n0_ := aM (Kd.R_below (mR_ HO_5.out) hb); have n1_ := aM (Kd.R_below (mR_ HO_9.out) hb); have n2_ := aM (Kd.R_below (mR_ HO559.out) hb); have n3_ := aM (below_step zb hb); clear HO_5 HO_9 HO559 HB; have HO_5 := n0_; have HO_9 := n1_; have HO559 := n2_; have HB := n3_; clear n0_ n1_ n2_ n3_; (try clear hb); (try clear hb2); (try clear hk); (try clear hi)))
     go_ret
     exact ⟨zw, zb⟩
end Go.Proofs.Ytlnliahadgmbcaa.F
end
section
namespace Go.Proofs.Ytlnliahadgmbcaa.Open
open Go.ChangeShapes Go.WideShapes Go.Deep Go.RowKit Go.Proofs.YtlnliahadgmbcaaW.PrintWords
def Opens {α : Type} (P : Program) (d : Kd α) (t : TypeId) (V : α → Prop) : Prop :=
  ∀ (H : Type) (enc : TypeId × Value → H) (w : World) (base : Nat) (spare : Nat → Bool) (held : Bool) (fuel : Nat) (cs : List Value) (x : DataW H × List MemPlace),
    DataW.trod enc P w base spare held fuel t cs = some x → ∃ a : α, d.K w a cs ∧ V a
theorem Opens.int {P : Program} {t : TypeId} {k : IntKind} (ht : P.underlying t = some (.int k)) : Opens P (Kd.int k) t (fun a => (Lit.int k a).wf = true) := by
  intro H enc w base spare held fuel cs x h
  obtain ⟨n, hcs, _, hw⟩ := DataW.trod_int ht h
  exact ⟨n, hcs, hw⟩
theorem Opens.bool {P : Program} {t : TypeId} (ht : P.underlying t = some .bool) : Opens P Kd.bool t (fun _ => True) := by
  intro H enc w base spare held fuel cs x h
  obtain ⟨b, hcs, _⟩ := DataW.trod_bool ht h
  exact ⟨b, hcs, trivial⟩
theorem Opens.slice {α : Type} [Inhabited α] {P : Program} {t e : TypeId} {d : Kd α} {V : α → Prop} (ht : P.underlying t = some (.slice e)) (hsz : P.cellsOf e = d.sz) (ho : Opens P d e V) :
    Opens P (Kd.slice e d) t (fun l => l.length ≤ 9223372036854775807 ∧ ∀ a ∈ l, V a) := by
  intro H enc w base spare held fuel cs x h
  rcases open_slice ht h with ⟨rfl, _⟩ | ⟨a, len, cap, m, n, D, Pl, rfl, hb, hl, hm, hmm, _, hi⟩
  · exact ⟨[], ⟨none, 0, rfl, Nat.le_refl _, rfl, by simp, fun hp => absurd hp (by simp)⟩, by simp, by simp⟩
  · have hlm : len ≤ m := by rw [hmm]; split <;> omega
    have hx : ∀ i, i < len → ∃ y : α, V y ∧ ∃ c : List Value, c.length = d.sz ∧ d.K w y c ∧ ∀ j u, c[j]? = some u → w.cell? (a.add (i * d.sz + j)) = some u := by
      intro i hil
      obtain ⟨cs', hc, ht'⟩ := hi i (by omega)
      obtain ⟨y, hk, hv⟩ := ho H enc w base spare held n cs' _ ht'
      obtain ⟨_, hcl, hat⟩ := World.cells?_some hc
      refine ⟨y, hv, cs', d.K_len hk, hk, fun j u hj => ?_⟩
      have hjl : j < cs'.length := (List.getElem?_eq_some_iff.1 hj).1
      have := hat j (by rw [hsz, ← d.K_len hk]; exact hjl)
      rw [Go.Deep.add_add, hsz] at this
      rw [this, hj]
    obtain ⟨f, hf⟩ := choose_lt hx
    have hlen : ((List.range len).map f).length = len := by simp
    refine ⟨(List.range len).map f, ⟨some a, cap, by rw [hlen], by rw [hlen]; exact hl, rfl, ?_, fun _ => ⟨a, rfl, fun j p hj => ?_⟩⟩, ?_⟩
    · rw [hlen]; unfold maxLen at hm; omega
    · have hjl : j < len := by
        have := (List.getElem?_eq_some_iff.1 hj).1
        rwa [hlen] at this
      have hp : f j = p := by
        rw [List.getElem?_map, List.getElem?_range hjl] at hj
        simpa using hj
      obtain ⟨_, c, h1, h2, h3⟩ := hf j hjl
      rw [hp] at h2
      exact ⟨c, h1, h2, h3⟩
    · refine ⟨by rw [hlen]; unfold maxLen at hm; omega, fun y hy => ?_⟩
      obtain ⟨i, hi', rfl⟩ := List.mem_map.1 hy
      exact (hf i (List.mem_range.1 hi')).1
theorem arg_open {α : Type} {P : Program} {t : TypeId} {d : Kd α} {V : α → Prop} (ho : Opens P d t V) {H : Type} {enc : TypeId × Value → H} {w : World} {base : Nat} {spare : Nat → Bool} {held : Bool} {v : Value} {x : DataW H} {p : List MemPlace}
    (h : DataW.Trod enc P w base spare held t v x p) : ∃ a : α, d.K w a v.cells.toList ∧ V a := by
  obtain ⟨fuel, hf⟩ := h
  exact ho _ _ _ _ _ _ _ _ _ hf
theorem slice_arg {α : Type} {d : Kd α} {e : Nat} {w : World} {l : List α} {a : Option Addr} {len cap : Nat} (h : (Kd.slice e d).K w l (Value.slice a len cap).cells.toList) : l.length = len ∧ l.length ≤ cap ∧ d.C w a l.length l := by
  obtain ⟨A, c, hcs, hl, hr⟩ := h
  simp [Value.cells] at hcs
  obtain ⟨rfl, rfl, rfl⟩ := hcs
  exact ⟨rfl, hl, hr⟩
end Go.Proofs.Ytlnliahadgmbcaa.Open
end
section
namespace Go.Proofs.Ytlnliahadgmbcaa.L
open Go.RowKit Go.Proofs.YtlnliahadgmbcaaW.PrintWords
theorem Ev.pos {α : Type} {c : Prop} [Decidable c] {f g : Nat → Option α} {r : α} (h : c) (e : Ev f r) : Ev (fun k => if c then f k else g k) r := by
  obtain ⟨K, e⟩ := e
  exact ⟨K, fun k hk => (if_pos h).trans (e k hk)⟩
theorem Ev.neg {α : Type} {c : Prop} [Decidable c] {f g : Nat → Option α} {r : α} (h : ¬ c) (e : Ev g r) : Ev (fun k => if c then f k else g k) r := by
  obtain ⟨K, e⟩ := e
  exact ⟨K, fun k hk => (if_neg h).trans (e k hk)⟩
theorem Ev.if_ {α : Type} {c : Prop} [Decidable c] {f g : Nat → Option α} {r s : α} (h : c → Ev f r) (h' : ¬ c → Ev g s) : Ev (fun k => if c then f k else g k) (if c then r else s) := by
  by_cases hc : c
  · rw [if_pos hc]; exact Ev.pos hc (h hc)
  · rw [if_neg hc]; exact Ev.neg hc (h' hc)
theorem Ev.of_eq {α : Type} {g : Nat → Option α} {r s : α} (h : Ev g r) (e : r = s) : Ev g s := e ▸ h
theorem Ev.bind0 {α β : Type} {o : Option α} {f : Nat → α → Option β} {a : α} {r : β} (h : o = some a) (k : Ev (fun n => f n a) r) : Ev (fun n => o.bind (f n)) r := by
  subst h
  exact k
theorem Ev.succ {α : Type} {g : Nat → Option α} {r : α} (h : Ev (fun k => g (k + 1)) r) : Ev g r := by
  obtain ⟨K, h⟩ := h
  refine ⟨K + 1, fun n hn => ?_⟩
  obtain ⟨m, rfl⟩ : ∃ m, n = m + 1 := ⟨n - 1, by omega⟩
  exact h m (by omega)
theorem w64 {n : Int} (h : -9223372036854775808 ≤ n) (h' : n ≤ 9223372036854775807) : wrap64 n = n := by
  unfold wrap64
  omega
theorem tmod_bd (a : Int) {m : Int} (hm : 0 < m) : -m < Int.tmod a m ∧ Int.tmod a m < m :=
  ⟨Int.neg_lt_of_neg_lt (by have := Int.tmod_lt_of_pos (-a) hm; rwa [Int.neg_tmod] at this), Int.tmod_lt_of_pos a hm⟩
theorem tmod_emod (a : Int) (m : Int) : Int.tmod a m % m = a % m := by
  have := Int.mul_tdiv_add_tmod a m
  rw [← this, Int.mul_add_emod_self_left] 
  rw [this]
theorem mod_eq (a m : Int) (h0 : 0 < m) (h1 : m ≤ 4611686018427387904) : Int.tmod (wrap64 (Int.tmod a m + m)) m = a % m := by
  have hb := tmod_bd a h0
  rw [w64 (by omega) (by omega), Int.tmod_eq_emod_of_nonneg (by omega), Int.add_emod_right, tmod_emod]
theorem getD_at {α : Type} (pre suf : List α) (c d : α) : (pre ++ c :: suf).getD (pre.length : Int).toNat d = c := by
  simp [List.getD]
end Go.Proofs.Ytlnliahadgmbcaa.L
namespace Go.Proofs.Ytlnliahadgmbcaa.L
open Go.RowKit Go.Proofs.YtlnliahadgmbcaaW.PrintWords
theorem loop_list {α σ ρ : Type} (xs : List α) (l : Nat → Int → σ → Option ρ) (g : List α → List α → σ → ρ) (Inv : List α → σ → Prop)
    (hn : ∀ s, Inv xs s → Ev (fun k => l (k + 1) (xs.length : Int) s) (g xs [] s))
    (hs : ∀ (pre : List α) (c : α) (suf : List α) (s : σ), xs = pre ++ c :: suf → Inv pre s → (∀ s', Inv (pre ++ [c]) s' → Ev (fun k => l k ((pre.length : Int) + 1) s') (g (pre ++ [c]) suf s')) → Ev (fun k => l (k + 1) (pre.length : Int) s) (g pre (c :: suf) s)) :
    ∀ s, Inv [] s → Ev (fun k => l k 0 s) (g [] xs s) := by
  have key : ∀ (suf pre : List α), xs = pre ++ suf → ∀ s, Inv pre s → Ev (fun k => l k (pre.length : Int) s) (g pre suf s) := by
    intro suf
    induction suf with
    | nil =>
      intro pre hx s hi
      rw [List.append_nil] at hx
      subst hx
      exact Ev.succ (hn s hi)
    | cons c suf ih =>
      intro pre hx s hi
      refine Ev.succ (hs pre c suf s hx hi fun s' hi' => ?_)
      have := ih (pre ++ [c]) (by rw [hx]; simp) s' hi'
      rw [List.length_append] at this
      exact this
  intro s hi
  exact key xs [] rfl s hi
end Go.Proofs.Ytlnliahadgmbcaa.L
end
section
namespace Go.Proofs.Ytlnliahadgmbcaa.L
set_option linter.unusedVariables false
abbrev V2 := Int × Int
abbrev M2 := V2 × V2
def add2 (p q : V2) : V2 := (p.1 + q.1, p.2 + q.2)
def app2 (A : M2) (p : V2) : V2 := (A.1.1 * p.1 + A.2.1 * p.2, A.1.2 * p.1 + A.2.2 * p.2)
def mul2 (A B : M2) : M2 := (app2 A B.1, app2 A B.2)
def one2 : M2 := ((1, 0), (0, 1))
theorem app_mul2 (A B : M2) (p : V2) : app2 (mul2 A B) p = app2 A (app2 B p) := by
  obtain ⟨⟨a, b⟩, ⟨d, e⟩⟩ := A
  obtain ⟨⟨a', b'⟩, ⟨d', e'⟩⟩ := B
  obtain ⟨x, y⟩ := p
  simp only [app2, mul2, Prod.mk.injEq, Int.add_mul, Int.mul_add, Int.mul_assoc]
  omega
theorem mul_assoc2 (A B C : M2) : mul2 (mul2 A B) C = mul2 A (mul2 B C) := by
  show (app2 (mul2 A B) C.1, app2 (mul2 A B) C.2) = _
  rw [app_mul2, app_mul2]; rfl
theorem app_one2 (p : V2) : app2 one2 p = p := by
  obtain ⟨x, y⟩ := p
  simp only [app2, one2, Prod.mk.injEq]
  omega
theorem mul_one2 (A : M2) : mul2 A one2 = A := by
  obtain ⟨⟨a, b⟩, ⟨d, e⟩⟩ := A
  simp only [app2, mul2, one2, Prod.mk.injEq]
  omega
theorem app_add2 (A : M2) (p q : V2) : app2 A (add2 p q) = add2 (app2 A p) (app2 A q) := by
  simp only [app2, add2, Prod.mk.injEq, Int.mul_add]
  omega
def mR : M2 := ((0, 1), (-1, 1))
def mS : M2 := ((0, 1), (1, 0))
def pow2 (A : M2) : Nat → M2
  | 0 => one2
  | n + 1 => mul2 (pow2 A n) A
def mat2 (t : Nat) : M2 := mul2 (pow2 mR (t % 6)) (if t ≥ 6 then mS else one2)
def mats2 : List M2 := (List.range 12).map mat2
theorem mat2_mem {t : Nat} (h : t < 12) : mat2 t ∈ mats2 := List.mem_map.2 ⟨t, List.mem_range.2 h, rfl⟩
theorem mats2_at {A : M2} (h : A ∈ mats2) : ∃ t, t < 12 ∧ mat2 t = A := by
  obtain ⟨t, ht, e⟩ := List.mem_map.1 h
  exact ⟨t, List.mem_range.1 ht, e⟩
theorem mats2_mul : ∀ A ∈ mats2, ∀ B ∈ mats2, mul2 A B ∈ mats2 := by decide +kernel
theorem mats2_inv : ∀ A ∈ mats2, ∃ B ∈ mats2, mul2 B A = one2 := by decide +kernel
theorem mats2_div {A C : M2} (ha : A ∈ mats2) (hc : C ∈ mats2) : ∃ B ∈ mats2, mul2 B A = C := by
  obtain ⟨B, hb, e⟩ := mats2_inv A ha
  exact ⟨mul2 C B, mats2_mul C hc B hb, by rw [mul_assoc2, e, mul_one2]⟩
theorem mats2_inj {A : M2} (h : A ∈ mats2) {p q : V2} (e : app2 A p = app2 A q) : p = q := by
  obtain ⟨B, _, eb⟩ := mats2_inv A h
  have := congrArg (app2 B) e
  rw [← app_mul2, ← app_mul2, eb, app_one2, app_one2] at this
  exact this
def isTri (p : V2) : Prop := p.1 % 3 = p.2 % 3 ∧ p.1 % 3 ≠ 0
def adjT (p q : V2) : Prop :=
  (p.1 % 3 = 2 ∧ (q.1 = p.1 - 1 ∧ q.2 = p.2 - 1 ∨ q.1 = p.1 + 2 ∧ q.2 = p.2 - 1 ∨ q.1 = p.1 - 1 ∧ q.2 = p.2 + 2)) ∨
  (p.1 % 3 ≠ 2 ∧ (q.1 = p.1 + 1 ∧ q.2 = p.2 + 1 ∨ q.1 = p.1 - 2 ∧ q.2 = p.2 + 1 ∨ q.1 = p.1 + 1 ∧ q.2 = p.2 - 2))
theorem triR_keep {p q : V2} (hp : isTri p) : isTri (-p.2, p.1 + p.2) ∧ (adjT p q → adjT (-p.2, p.1 + p.2) (-q.2, q.1 + q.2)) := by
  obtain ⟨x, y⟩ := p
  obtain ⟨u, v⟩ := q
  unfold isTri at *
  simp only at *
  refine ⟨by omega, fun h => ?_⟩
  unfold adjT at *
  simp only at *
  rcases h with ⟨h2, h | h | h⟩ | ⟨h2, h | h | h⟩
  · exact .inr ⟨by omega, .inr (.inr (by omega))⟩
  · exact .inr ⟨by omega, .inl (by omega)⟩
  · exact .inr ⟨by omega, .inr (.inl (by omega))⟩
  · exact .inl ⟨by omega, .inr (.inr (by omega))⟩
  · exact .inl ⟨by omega, .inl (by omega)⟩
  · exact .inl ⟨by omega, .inr (.inl (by omega))⟩
theorem triS_keep {p q : V2} (hp : isTri p) : isTri (p.2, p.1) ∧ (adjT p q → adjT (p.2, p.1) (q.2, q.1)) := by
  obtain ⟨x, y⟩ := p
  obtain ⟨u, v⟩ := q
  unfold isTri at *
  simp only at *
  refine ⟨by omega, fun h => ?_⟩
  unfold adjT at *
  simp only at *
  rcases h with ⟨h2, h | h | h⟩ | ⟨h2, h | h | h⟩
  · exact .inl ⟨by omega, .inl (by omega)⟩
  · exact .inl ⟨by omega, .inr (.inr (by omega))⟩
  · exact .inl ⟨by omega, .inr (.inl (by omega))⟩
  · exact .inr ⟨by omega, .inl (by omega)⟩
  · exact .inr ⟨by omega, .inr (.inr (by omega))⟩
  · exact .inr ⟨by omega, .inr (.inl (by omega))⟩
theorem app_mR (p : V2) : app2 mR p = (-p.2, p.1 + p.2) := by
  simp only [app2, mR, Prod.mk.injEq]
  omega
theorem app_mS (p : V2) : app2 mS p = (p.2, p.1) := by
  simp only [app2, mS, Prod.mk.injEq]
  omega
theorem pow_tri : ∀ (n : Nat) {p q : V2}, isTri p → isTri (app2 (pow2 mR n) p) ∧ (adjT p q → adjT (app2 (pow2 mR n) p) (app2 (pow2 mR n) q))
  | 0, p, q, h => by
    unfold pow2
    rw [app_one2, app_one2]
    exact ⟨h, fun h => h⟩
  | n + 1, p, q, h => by
    unfold pow2
    rw [app_mul2, app_mul2, app_mR, app_mR]
    obtain ⟨h1, h2⟩ := triR_keep (q := q) h
    obtain ⟨h3, h4⟩ := pow_tri n (q := (-q.2, q.1 + q.2)) h1
    exact ⟨h3, fun h => h4 (h2 h)⟩
theorem mat_tri (t : Nat) {p q : V2} (h : isTri p) : isTri (app2 (mat2 t) p) ∧ (adjT p q → adjT (app2 (mat2 t) p) (app2 (mat2 t) q)) := by
  unfold mat2
  rw [app_mul2, app_mul2]
  by_cases h6 : t ≥ 6
  · rw [if_pos h6, app_mS, app_mS]
    obtain ⟨h1, h2⟩ := triS_keep (q := q) h
    obtain ⟨h3, h4⟩ := pow_tri (t % 6) (q := (q.2, q.1)) h1
    exact ⟨h3, fun h => h4 (h2 h)⟩
  · rw [if_neg h6, app_one2, app_one2]
    exact pow_tri (t % 6) h
theorem mats2_adjT {A : M2} (h : A ∈ mats2) {p q : V2} (hp : isTri p) : isTri (app2 A p) ∧ (adjT p q ↔ adjT (app2 A p) (app2 A q)) := by
  obtain ⟨t, ht, rfl⟩ := mats2_at h
  obtain ⟨h1, h2⟩ := mat_tri t (q := q) hp
  refine ⟨h1, h2, fun h3 => ?_⟩
  obtain ⟨B, hb, eb⟩ := mats2_inv _ h
  obtain ⟨s, hs, rfl⟩ := mats2_at hb
  have := (mat_tri s (q := app2 (mat2 t) q) h1).2 h3
  rw [← app_mul2, ← app_mul2, eb, app_one2, app_one2] at this
  exact this
theorem adjT_shift {p q v : V2} (h1 : v.1 % 3 = 0) (h2 : v.2 % 3 = 0) : (isTri p ↔ isTri (add2 p v)) ∧ (adjT p q ↔ adjT (add2 p v) (add2 q v)) := by
  unfold isTri adjT add2
  simp only
  constructor
  · omega
  · have e : (p.1 + v.1) % 3 = p.1 % 3 := by omega
    rw [e]
    refine or_congr (and_congr Iff.rfl (or_congr ?_ (or_congr ?_ ?_))) (and_congr Iff.rfl (or_congr ?_ (or_congr ?_ ?_))) <;> omega
end Go.Proofs.Ytlnliahadgmbcaa.L
end
section
namespace Go.Proofs.Ytlnliahadgmbcaa.L
set_option linter.unusedVariables false
section
variable {α β : Type} {nb : α → List α} {l : List α} {a b c d : α}
def Rch (nb : α → List α) (l : List α) (a b : α) : Prop := ∀ S : α → Prop, S a → (∀ c d, S c → d ∈ nb c → d ∈ l → S d) → S b
theorem Rch.refl : Rch nb l a a := fun S h _ => h
theorem Rch.step (h : Rch nb l a b) (hd : d ∈ nb b) (hl : d ∈ l) : Rch nb l a d := fun S h0 h1 => h1 b d (h S h0 h1) hd hl
theorem Rch.trans (h : Rch nb l a b) (h' : Rch nb l b c) : Rch nb l a c := fun S h0 h1 => h' S (h S h0 h1) h1
theorem Rch.back (hs : ∀ c ∈ l, ∀ d ∈ l, d ∈ nb c → c ∈ nb d) (ha : a ∈ l) (h : Rch nb l a b) : b ∈ l ∧ Rch nb l b a :=
  h (fun b => b ∈ l ∧ Rch nb l b a) ⟨ha, Rch.refl⟩ fun c d ⟨hc, hca⟩ hd hl => ⟨hl, (Rch.step Rch.refl (hs c hc d hl hd) hc).trans hca⟩
def Conn (nb : α → List α) (l : List α) : Prop := ∀ a ∈ l, ∀ b ∈ l, Rch nb l a b
theorem conn_from (hs : ∀ c ∈ l, ∀ d ∈ l, d ∈ nb c → c ∈ nb d) (ha : a ∈ l) : Conn nb l ↔ ∀ b ∈ l, Rch nb l a b :=
  ⟨fun h b hb => h a ha b hb, fun h b hb c hc => (Rch.back hs ha (h b hb)).2.trans (h c hc)⟩
theorem rch_map {nb' : β → List β} {l' : List β} {φ : α → β} (hadj : ∀ c ∈ l, ∀ d ∈ l, d ∈ nb c → φ d ∈ nb' (φ c)) (hx : ∀ c ∈ l, φ c ∈ l') (ha : a ∈ l) (h : Rch nb l a b) : b ∈ l ∧ Rch nb' l' (φ a) (φ b) :=
  h (fun b => b ∈ l ∧ Rch nb' l' (φ a) (φ b)) ⟨ha, Rch.refl⟩ fun c d ⟨hc, hca⟩ hd hl => ⟨hl, hca.step (hadj c hc d hl hd) (hx d hl)⟩
theorem conn_map {nb' : β → List β} {l' : List β} {φ : α → β} (hi : ∀ c ∈ l, ∀ d ∈ l, φ c = φ d → c = d) (hadj : ∀ c ∈ l, ∀ d ∈ l, (d ∈ nb c ↔ φ d ∈ nb' (φ c))) (hx : ∀ y, y ∈ l' ↔ ∃ c ∈ l, φ c = y) : Conn nb l ↔ Conn nb' l' := by
  constructor
  · intro h a ha b hb
    obtain ⟨c, hc, rfl⟩ := (hx a).1 ha
    obtain ⟨d, hd, rfl⟩ := (hx b).1 hb
    exact (rch_map (fun c hc d hd h => (hadj c hc d hd).1 h) (fun c hc => (hx _).2 ⟨c, hc, rfl⟩) hc (h c hc d hd)).2
  · intro h a ha b hb
    have := h (φ a) ((hx _).2 ⟨a, ha, rfl⟩) (φ b) ((hx _).2 ⟨b, hb, rfl⟩)
    obtain ⟨c, hc, e, hr⟩ := this (fun y => ∃ c ∈ l, φ c = y ∧ Rch nb l a c) ⟨a, ha, rfl, Rch.refl⟩ (by
      rintro y z ⟨c, hc, rfl, hr⟩ hz hzl
      obtain ⟨d, hd, rfl⟩ := (hx z).1 hzl
      exact ⟨d, hd, rfl, hr.step ((hadj c hc d hd).2 hz) hd⟩)
    exact hi c hc b hb e ▸ hr
end
end Go.Proofs.Ytlnliahadgmbcaa.L
end
section
namespace Go.Proofs.Ytlnliahadgmbcaa.L
open Go.RowKit Go.Proofs.YtlnliahadgmbcaaW.PrintWords Go.Proofs.YtlnliahadgmbcaaW.PrintLast Go.Proofs.YtlnliahadgmbcaaW.PrintMore Go.Proofs.Ytlnliahadgmbcaa.F
set_option linter.unusedVariables false
set_option linter.unusedSimpArgs false
abbrev Cell := S59
theorem in_eq (a b c : Int) : spec_l01In.f a b c = some (decide (b ≤ a ∧ a ≤ c)) := by
  unfold spec_l01In.f
  by_cases h : a ≥ b
  · rw [if_pos h]; simp [show b ≤ a from h]
  · rw [if_neg h]; simp [show ¬ b ≤ a from h]
theorem within_eq (a b c : Int) : impl_within.f a b c = some (decide (b ≤ a ∧ a ≤ c)) := by
  unfold impl_within.f
  by_cases h : a ≥ b
  · rw [if_pos h]; simp [show b ≤ a from h]
  · rw [if_neg h]; simp [show ¬ b ≤ a from h]
def ok1 (n : Int) : Prop := -100 ≤ n ∧ n ≤ 100
instance (n : Int) : Decidable (ok1 n) := by unfold ok1; infer_instance
def okC (c : Cell) : Prop := ok1 c.f0 ∧ ok1 c.f1
instance (c : Cell) : Decidable (okC c) := by unfold okC; infer_instance
def ltC (a b : Cell) : Prop := a.f1 < b.f1 ∨ a.f1 = b.f1 ∧ a.f0 < b.f0
instance (a b : Cell) : Decidable (ltC a b) := by unfold ltC; infer_instance
theorem isCoordinate_eq (n : Int) : impl_isCoordinate.f n = some (decide (ok1 n)) := by
  unfold impl_isCoordinate.f
  rw [within_eq]
  rfl
theorem l02Cell_eq (x y : Int) : spec_l02Cell.f x y = some (decide (ok1 x ∧ ok1 y)) := by
  unfold spec_l02Cell.f
  rw [in_eq, in_eq]
  simp only [Option.bind_some]
  by_cases h : -100 ≤ x ∧ x ≤ 100
  · have h' : ok1 x := h
    simp only [h, and_self, decide_true, if_true, true_and, h', ok1]
  · have h' : ¬ ok1 x := h
    simp [h, h']
def small {α : Type} (l : List α) : Prop := l.length ≤ 4611686018427387904
theorem pre_lt {α : Type} {xs pre suf : List α} {c : α} (h : xs = pre ++ c :: suf) : ((pre.length : Int) < (xs.length : Int)) = True := by
  subst h; simp; omega
theorem pre_w {α : Type} {xs pre suf : List α} {c : α} (h : xs = pre ++ c :: suf) (hs : small xs) : wrap64 ((pre.length : Int) + 1) = (pre.length : Int) + 1 := by
  subst h
  unfold small at hs
  rw [List.length_append, List.length_cons] at hs
  exact w64 (by omega) (by omega)
theorem pre_0 {α : Type} (pre : List α) : (0 ≤ (pre.length : Int)) = True := by simp
theorem len_lt {α : Type} (xs : List α) : ((xs.length : Int) < (xs.length : Int)) = False := by simp
theorem at_pre {xs pre suf : List Cell} {c : Cell} (h : xs = pre ++ c :: suf) : rd_T59 xs (pre.length : Int) = c := by
  subst h; exact getD_at pre suf c _
theorem pre_len {α : Type} {xs pre suf : List α} {c : α} (h : xs = pre ++ c :: suf) : pre.length < xs.length := by
  subst h; simp
theorem at_preI {xs pre suf : List Int} {c : Int} (h : xs = pre ++ c :: suf) : rd xs (pre.length : Int) = c := by
  subst h; exact getD_at pre suf c _
def cmpI (a b : Int) : Int := if a < b then -1 else if a > b then 1 else 0
theorem compare_eq (a b : Int) : cmp_Compare_int64.f a b = some (cmpI a b) := by
  unfold cmp_Compare_int64.f cmp_isNaN_int64.f cmpI
  simp only [bne_self_eq_false, Option.bind_some, Bool.false_eq_true, if_false]
  split
  · rfl
  · split <;> rfl
end Go.Proofs.Ytlnliahadgmbcaa.L
end
section
namespace Go.Proofs.Ytlnliahadgmbcaa.L
open Go.RowKit Go.Proofs.YtlnliahadgmbcaaW.PrintWords Go.Proofs.YtlnliahadgmbcaaW.PrintLast Go.Proofs.YtlnliahadgmbcaaW.PrintMore Go.Proofs.Ytlnliahadgmbcaa.F
set_option linter.unusedVariables false
set_option linter.unusedSimpArgs false
theorem l02Less_eq (a b c d : Int) : spec_l02Less.f a b c d = some (decide (b < d ∨ b = d ∧ a < c)) := by
  unfold spec_l02Less.f
  by_cases h : b < d
  · simp [h]
  · by_cases h' : b = d <;> simp [h, h']
    
def cmpC (a b : Cell) : Int := if cmpI a.f1 b.f1 = 0 then cmpI a.f0 b.f0 else cmpI a.f1 b.f1
theorem compareCells_eq (a b : Cell) : impl_compareCells.f a.f0 a.f1 b.f0 b.f1 = some (cmpC a b) := by
  unfold impl_compareCells.f cmpC
  simp only [compare_eq, Option.bind_some]
  split <;> rfl
theorem cmpC_lt {a b : Cell} : cmpC a b < 0 ↔ ltC a b := by
  unfold cmpC cmpI ltC
  repeat' split
  all_goals constructor <;> intro h <;> omega
theorem cmpC_ge {a b : Cell} : cmpC a b ≥ 0 ↔ ¬ ltC a b := by
  rw [← cmpC_lt]; omega
def goodFrom : Option Cell → List Cell → Bool
  | _, [] => true
  | p, c :: r => decide (okC c) && (match p with | none => true | some q => decide (ltC q c)) && goodFrom (some c) r
def shapeB (l : List Cell) : Bool := goodFrom none l && decide (1 ≤ (l.length : Int) ∧ (l.length : Int) ≤ 40)
theorem specIsShape_ev (l : List Cell) (hs : small l) : Ev (fun k => spec_IsShape.f k l) (shapeB l) := by
  unfold spec_IsShape.f
  refine loop_list l (fun k i (_ : Unit) => spec_IsShape.l0 k l i) (fun pre suf _ => goodFrom pre.getLast? suf && decide (1 ≤ (l.length : Int) ∧ (l.length : Int) ≤ 40)) (fun _ _ => True) ?_ ?_ () trivial
  · intro _ _
    simp only [spec_IsShape.l0, len_lt, if_false, in_eq, Option.bind_some]
    refine Ev.of_eq (Ev.now _) ?_
    simp [goodFrom]
  · intro pre c suf _ hx _ ih
    simp only [spec_IsShape.l0, pre_lt hx, pre_0, if_true, at_pre hx, l02Cell_eq, Option.bind_some, pre_w hx hs]
    by_cases hc : okC c
    · have hc' : ok1 c.f0 ∧ ok1 c.f1 := hc
      simp only [hc', and_self, decide_true, if_true]
      rcases List.eq_nil_or_concat pre with rfl | ⟨L, b, rfl⟩
      · refine Ev.neg (by simp) (Ev.of_eq (ih () trivial) ?_)
        simp [goodFrom, hc]
      · rw [List.concat_eq_append] at hx ih ⊢
        have hx2 : l = L ++ b :: (c :: suf) := by rw [hx]; simp
        have e1 : wrap64 (((L ++ [b]).length : Int) - 1) = (L.length : Int) := by
          unfold small at hs
          rw [hx2] at hs
          simp only [List.length_append, List.length_cons, List.length_nil] at hs ⊢
          rw [w64 (by omega) (by omega)]; omega
        refine Ev.pos (by simp <;> omega) ?_
        simp only [e1, pre_0, if_true, pre_lt hx2, at_pre hx2, l02Less_eq, Option.bind_some]
        by_cases hl : ltC b c
        · have hl' : b.f1 < c.f1 ∨ b.f1 = c.f1 ∧ b.f0 < c.f0 := hl
          refine Ev.pos (by simpa using hl') (Ev.of_eq (ih () trivial) ?_)
          simp [goodFrom, hc, hl]
        · have hl' : ¬ (b.f1 < c.f1 ∨ b.f1 = c.f1 ∧ b.f0 < c.f0) := hl
          refine Ev.neg (by simpa using hl') (Ev.of_eq (Ev.now _) ?_)
          simp [goodFrom, hc, hl]
    · have hc' : ¬ (ok1 c.f0 ∧ ok1 c.f1) := hc
      simp only [hc', decide_false, Bool.false_eq_true, if_false]
      refine Ev.of_eq (Ev.now _) ?_
      simp [goodFrom, hc]
theorem implIsShape_ev (l : List Cell) (hs : small l) : Ev (fun k => impl_IsShape.f k l) (shapeB l) := by
  unfold impl_IsShape.f
  refine loop_list l (fun k i (_ : Unit) => impl_IsShape.l0 k l l (l.length : Int) i) (fun pre suf _ => goodFrom pre.getLast? suf && decide (1 ≤ (l.length : Int) ∧ (l.length : Int) ≤ 40)) (fun _ _ => True) ?_ ?_ () trivial
  · intro _ _
    simp only [impl_IsShape.l0, len_lt, if_false]
    refine Ev.of_eq (Ev.if_ (fun _ => Ev.now _) (fun _ => Ev.now _)) ?_
    by_cases h : (l.length : Int) ≥ 1
    · rw [if_pos h]; simp [goodFrom, show 1 ≤ (l.length : Int) from h]
    · rw [if_neg h]; simp [goodFrom, show ¬ 1 ≤ (l.length : Int) from h]
  · intro pre c suf _ hx _ ih
    simp only [impl_IsShape.l0, pre_lt hx, pre_0, if_true, at_pre hx, isCoordinate_eq, Option.bind_some, pre_w hx hs]
    by_cases hc : okC c
    · have hc' : ok1 c.f0 ∧ ok1 c.f1 := hc
      simp only [hc'.1, hc'.2, decide_true, if_true]
      rcases List.eq_nil_or_concat pre with rfl | ⟨L, b, rfl⟩
      · refine Ev.neg (by simp) (Ev.of_eq (ih () trivial) ?_)
        simp [goodFrom, hc]
      · rw [List.concat_eq_append] at hx ih ⊢
        have hx2 : l = L ++ b :: (c :: suf) := by rw [hx]; simp
        have e1 : wrap64 (((L ++ [b]).length : Int) - 1) = (L.length : Int) := by
          unfold small at hs
          rw [hx2] at hs
          simp only [List.length_append, List.length_cons, List.length_nil] at hs ⊢
          rw [w64 (by omega) (by omega)]; omega
        refine Ev.pos (by simp <;> omega) ?_
        simp only [e1, pre_0, if_true, pre_lt hx2, at_pre hx2, compareCells_eq, Option.bind_some]
        by_cases hl : ltC b c
        · refine Ev.neg (fun h => cmpC_ge.1 h hl) (Ev.of_eq (ih () trivial) ?_)
          simp [goodFrom, hc, hl]
        · refine Ev.pos (cmpC_ge.2 hl) (Ev.of_eq (Ev.now _) ?_)
          simp [goodFrom, hc, hl]
    · by_cases h0 : ok1 c.f0
      · have h1 : ¬ ok1 c.f1 := fun h => hc ⟨h0, h⟩
        simp only [h0, h1, decide_true, if_true, decide_false, Bool.false_eq_true, if_false]
        refine Ev.of_eq (Ev.now _) ?_
        simp [goodFrom, hc]
      · simp only [h0, decide_false, Bool.false_eq_true, if_false]
        refine Ev.of_eq (Ev.now _) ?_
        simp [goodFrom, hc]
theorem goodFrom_ok : ∀ (l : List Cell) (p : Option Cell), goodFrom p l = true → ∀ c ∈ l, okC c
  | [], _, _, c, h => by simp at h
  | a :: r, p, hg, c, h => by
    simp only [goodFrom, Bool.and_eq_true, decide_eq_true_eq] at hg
    rcases List.mem_cons.1 h with rfl | h
    · exact hg.1.1
    · exact goodFrom_ok r _ hg.2 c h
theorem ltC_trans {a b c : Cell} (h : ltC a b) (h' : ltC b c) : ltC a c := by unfold ltC at *; omega
theorem goodFrom_lt : ∀ (l : List Cell) (p : Option Cell), goodFrom p l = true → (∀ q, p = some q → ∀ c ∈ l, ltC q c) ∧ l.Pairwise ltC
  | [], _, _ => ⟨fun _ _ c h => by simp at h, List.Pairwise.nil⟩
  | a :: r, p, hg => by
    simp only [goodFrom, Bool.and_eq_true, decide_eq_true_eq] at hg
    obtain ⟨h1, h2⟩ := goodFrom_lt r (some a) hg.2
    have h3 := h1 a rfl
    refine ⟨fun q hq c hc => ?_, List.pairwise_cons.2 ⟨h3, h2⟩⟩
    subst hq
    have h4 : ltC q a := by simpa using hg.1.2
    rcases List.mem_cons.1 hc with rfl | hc
    · exact h4
    · exact ltC_trans h4 (h3 c hc)
theorem goodFrom_of : ∀ (l : List Cell) (p : Option Cell), (∀ c ∈ l, okC c) → (∀ q, p = some q → ∀ c ∈ l, ltC q c) → l.Pairwise ltC → goodFrom p l = true
  | [], _, _, _, _ => rfl
  | a :: r, p, h0, h1, h2 => by
    obtain ⟨h3, h4⟩ := List.pairwise_cons.1 h2
    simp only [goodFrom, Bool.and_eq_true, decide_eq_true_eq]
    refine ⟨⟨h0 a List.mem_cons_self, ?_⟩, goodFrom_of r (some a) (fun c hc => h0 c (List.mem_cons_of_mem _ hc)) (fun q hq c hc => by injection hq with hq; subst hq; exact h3 c hc) h4⟩
    cases p with
    | none => rfl
    | some q => simpa using h1 q rfl a List.mem_cons_self
theorem shapeB_iff {l : List Cell} : shapeB l = true ↔ (∀ c ∈ l, okC c) ∧ l.Pairwise ltC ∧ 1 ≤ l.length ∧ l.length ≤ 40 := by
  unfold shapeB
  rw [Bool.and_eq_true, decide_eq_true_eq]
  constructor
  · rintro ⟨h, h'⟩
    exact ⟨goodFrom_ok l _ h, (goodFrom_lt l _ h).2, by omega, by omega⟩
  · rintro ⟨h1, h2, h3, h4⟩
    exact ⟨goodFrom_of l none h1 (fun _ h => by cases h) h2, by omega, by omega⟩
def minX : Int → List Cell → Int := fun z l => l.foldl (fun m c => mn m c.f0) z
def minY : Int → List Cell → Int := fun z l => l.foldl (fun m c => mn m c.f1) z
def leastOf (l : List Cell) : Int × Int := match l with | [] => (0, 0) | c :: r => (minX c.f0 r, minY c.f1 r)
theorem implCorner_ev (l : List Cell) (hs : small l) (h0 : 0 < l.length) : Ev (fun k => impl_corner.f k l) (leastOf l) := by
  unfold impl_corner.f
  obtain ⟨c, r, rfl⟩ : ∃ c r, l = c :: r := by cases l with | nil => simp at h0 | cons c r => exact ⟨c, r, rfl⟩
  refine Ev.pos (by simp <;> omega) ?_
  have h1 : rd_T59 (c :: r) 0 = c := rfl
  rw [h1]
  have := loop_list (c :: r) (fun k i (s : Int × Int) => impl_corner.l0 k (c :: r) ((c :: r).length : Int) i s.1 s.2) (fun _ suf s => (minX s.1 suf, minY s.2 suf)) (fun _ _ => True) ?_ ?_ (c.f0, c.f1) trivial
  · refine Ev.of_eq this ?_
    simp [leastOf, minX, minY, mn]
  · rintro s _
    simp only [impl_corner.l0, len_lt, if_false]
    exact Ev.now _
  · rintro pre d suf s hx _ ih
    simp only [impl_corner.l0, pre_lt hx, pre_0, if_true, at_pre hx, pre_w hx hs]
    exact ih (mn s.1 d.f0, mn s.2 d.f1) trivial
theorem loop_tail {α σ ρ : Type} (c : α) (r : List α) (l : Nat → Int → σ → Option ρ) (g : List α → List α → σ → ρ) (Inv : List α → σ → Prop)
    (hn : ∀ s, Inv (c :: r) s → Ev (fun k => l (k + 1) ((c :: r).length : Int) s) (g (c :: r) [] s))
    (hs : ∀ (pre : List α) (d : α) (suf : List α) (s : σ), c :: r = pre ++ d :: suf → pre ≠ [] → Inv pre s → (∀ s', Inv (pre ++ [d]) s' → Ev (fun k => l k ((pre.length : Int) + 1) s') (g (pre ++ [d]) suf s')) → Ev (fun k => l (k + 1) (pre.length : Int) s) (g pre (d :: suf) s)) :
    ∀ s, Inv [c] s → Ev (fun k => l k 1 s) (g [c] r s) := by
  have key : ∀ (suf pre : List α), c :: r = pre ++ suf → pre ≠ [] → ∀ s, Inv pre s → Ev (fun k => l k (pre.length : Int) s) (g pre suf s) := by
    intro suf
    induction suf with
    | nil =>
      intro pre hx _ s hi
      rw [List.append_nil] at hx
      subst hx
      exact Ev.succ (hn s hi)
    | cons d suf ih =>
      intro pre hx hp s hi
      refine Ev.succ (hs pre d suf s hx hp hi fun s' hi' => ?_)
      have := ih (pre ++ [d]) (by rw [hx]; simp) (by simp) s' hi'
      rw [List.length_append] at this
      exact this
  intro s hi
  exact key r [c] rfl (by simp) s hi
theorem specLeast_ev (l : List Cell) (hs : small l) (h0 : 0 < l.length) : Ev (fun k => spec_l02Least.f k l) (leastOf l) := by
  unfold spec_l02Least.f
  obtain ⟨c, r, rfl⟩ : ∃ c r, l = c :: r := by cases l with | nil => simp at h0 | cons c r => exact ⟨c, r, rfl⟩
  refine Ev.pos (by simp <;> omega) ?_
  have h1 : rd_T59 (c :: r) 0 = c := rfl
  rw [h1]
  refine loop_tail c r (fun k i (s : Int × Int) => spec_l02Least.l0 k (c :: r) s.1 s.2 i) (fun _ suf s => (minX s.1 suf, minY s.2 suf)) (fun _ _ => True) ?_ ?_ (c.f0, c.f1) trivial
  · rintro s _
    simp only [spec_l02Least.l0, len_lt, if_false]
    exact Ev.now _
  · rintro pre d suf s hx _ _ ih
    simp only [spec_l02Least.l0, pre_lt hx, pre_0, if_true, at_pre hx, pre_w hx hs]
    exact ih (mn s.1 d.f0, mn s.2 d.f1) trivial
end Go.Proofs.Ytlnliahadgmbcaa.L
end
