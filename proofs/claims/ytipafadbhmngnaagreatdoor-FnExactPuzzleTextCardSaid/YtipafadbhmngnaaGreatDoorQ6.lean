/- The row of FnExactPuzzleText, with what it needs: text 7 of 11. -/
import Derived.Test.YtipafadbhmngnaaGreatDoorQ5
set_option maxHeartbeats 8000000
set_option maxRecDepth 100000
section
namespace Go.Proofs.YtipafadbhmngnaaGreatDoor.F
open Go.RowKit Go.Proofs.YtipafadbhmngnaaGreatDoorW.PrintWords Go.Proofs.YtipafadbhmngnaaGreatDoorW.PrintLast Go.Proofs.YtipafadbhmngnaaGreatDoorW.PrintMore
attribute [local go_sem] max2_int min2_int max_two min_two max_three min_three max_four min_four
set_option linter.unusedVariables false
set_option linter.unusedSimpArgs false
mutual
def impl_parts__impl_around.l0 : Nat → List (S82) → List Int → List (S82) → Int → Int → Option (List Int)
 | 0, _, _, _, _, _ => none
 | k + 1, x0, x6, x20, x21, x22 => if x22 < x21 then (if 0 ≤ x22 then (if x22 < (x20.length : Int) then (if x22 < (x6.length : Int) then (impl_parts__impl_around.l0 k x0 (x6.set (x22 : Int).toNat (-1)) x20 x21 (wrap64 (x22 + 1))) else (none)) else (none)) else (none)) else (impl_parts__impl_around.l1 k x0 x6 (x0.length : Int) 0)
def impl_parts__impl_around.l1 : Nat → List (S82) → List Int → Int → Int → Option (List Int)
 | 0, _, _, _, _ => none
 | k + 1, x0, x6, x35, x36 => if x36 < x35 then (if 0 ≤ x36 then (if x36 < (x6.length : Int) then (if (rd x6 x36) ≥ 0 then (impl_parts__impl_around.l1 k x0 x6 x35 (wrap64 (x36 + 1))) else (impl_parts__impl_around.l2 k x0 (x6.set (x36 : Int).toNat x36) x36 (([x36] : List Int)) 0 x35 x36)) else (none)) else (none)) else (some x6)
def impl_parts__impl_around.l2 : Nat → List (S82) → List Int → Int → List Int → Int → Int → Int → Option (List Int)
 | 0, _, _, _, _, _, _, _ => none
 | k + 1, x0, x6, x9, x10, x11, x35, x36 => if x11 < (x10.length : Int) then (if 0 ≤ x11 then (if 0 ≤ (rd x10 x11) then (if (rd x10 x11) < (x0.length : Int) then ((impl_around.f ((rd_T82 x0 (rd x10 x11)).f0) ((rd_T82 x0 (rd x10 x11)).f1)).bind fun t419 => (impl_parts__impl_around.l3 k x0 x6 x9 x10 x11 x35 x36 t419 (t419.length : Int) 0)) else (none)) else (none)) else (none)) else (impl_parts__impl_around.l1 k x0 x6 x35 (wrap64 (x36 + 1)))
def impl_parts__impl_around.l3 : Nat → List (S82) → List Int → Int → List Int → Int → Int → Int → List (S82) → Int → Int → Option (List Int)
 | 0, _, _, _, _, _, _, _, _, _, _ => none
 | k + 1, x0, x6, x9, x10, x11, x35, x36, x64, x65, x66 => if x66 < x65 then (if 0 ≤ x66 then (if x66 < (x64.length : Int) then ((impl_partsLook.f x0 ((rd_T82 x64 x66).f0) ((rd_T82 x64 x66).f1)).bind fun bt424 => (if bt424.2 = true then (if 0 ≤ bt424.1 then (if bt424.1 < (x6.length : Int) then (if (rd x6 bt424.1) < 0 then (if x10.length < 17592186044416 then (impl_parts__impl_around.l3 k x0 (x6.set (bt424.1 : Int).toNat x9) x9 (x10 ++ [bt424.1]) x11 x35 x36 x64 x65 (wrap64 (x66 + 1))) else (none)) else (impl_parts__impl_around.l3 k x0 x6 x9 x10 x11 x35 x36 x64 x65 (wrap64 (x66 + 1)))) else (none)) else (none)) else (impl_parts__impl_around.l3 k x0 x6 x9 x10 x11 x35 x36 x64 x65 (wrap64 (x66 + 1))))) else (none)) else (none)) else (impl_parts__impl_around.l2 k x0 x6 x9 x10 (wrap64 (x11 + 1)) x35 x36)
end
def impl_parts__impl_around.f (k : Nat) (l0 : List (S82)) : Option (List Int) := if l0.all wfC = true then (if 0 ≤ (l0.length : Int) then (if ((l0.length : Int) : Int).toNat ≤ 35184372088832 then (impl_parts__impl_around.l0 k l0 (List.replicate ((l0.length : Int) : Int).toNat 0) l0 (l0.length : Int) 0) else (none)) else (none)) else none
theorem impl_parts__impl_around.calls (k : Nat) (A0 : Option Addr) (c0 : Nat) (l0 : List (S82))  (r : List Int) (w : World) (hr0 : Kd.C k82 w A0 l0.length l0) (hc0 : l0.length ≤ c0) (h : impl_parts__impl_around.f k l0 = some r) :
  Calls Tryz.prog 111 #[.slice A0 l0.length c0, .func (.func 76) #[] #[]] w fun e w' => ∃ v0_ : Value, e = .returned (v0_) ∧ Kd.R (Kd.int .i64) 2 w' w.heap.size (fun _ => True) v0_ r ∧ Below w.heap.size w w' := by
 have hu82 := Tryz.underlying82
 have HR0 := aM hr0
 have HC0 := aM hc0
 clear hr0 hc0
 have HB := aM (Below.refl w.heap.size w)
 have Hwf : l0.all wfC = true := by
  by_cases hh : l0.all wfC = true
  ·exact hh
  unfold impl_parts__impl_around.f at h; rw [if_neg hh] at h; cases h
 have H : (if 0 ≤ (l0.length : Int) then (if ((l0.length : Int) : Int).toNat ≤ 35184372088832 then (impl_parts__impl_around.l0 k l0 (List.replicate ((l0.length : Int) : Int).toNat 0) l0 (l0.length : Int) 0) else (none)) else (none)) = some r := by unfold impl_parts__impl_around.f at h; rw [if_pos Hwf] at h; exact h
 clear h
 by_cases c3 : 0 ≤ (l0.length : Int)
 rotate_left
 ·rw [if_neg c3] at H
  exact absurd H (by simp)
 rw [if_pos c3] at H
 have c3b0 := eq_true c3
 have c3b1 : decide (0 ≤ (l0.length : Int)) = true := decide_eq_true c3
 clear c3
 by_cases c4 : ((l0.length : Int) : Int).toNat ≤ 35184372088832
 rotate_left
 ·rw [if_neg c4] at H
  exact absurd H (by simp)
 rw [if_pos c4] at H
 have c4b0 := eq_true c4
 have c4b1 : decide (((l0.length : Int) : Int).toNat ≤ 35184372088832) = true := decide_eq_true c4
 have HLN : Aside0 (l0.length ≤ 35184372088832) := ⟨by have := of_decide_eq_true c4b1; omega⟩
 clear c4
 obtain ⟨y406, hy406⟩ : ∃ y_ : List Int, y_ = (List.replicate ((l0.length : Int) : Int).toNat 0) := ⟨_, rfl⟩
 replace H : (impl_parts__impl_around.l0 k l0 y406 l0 (l0.length : Int) 0) = some r := zy H hy406
 have Ny406 := aM hy406
 clear hy406
 have H' := aM H
 clear H
 go_enter Tryz.func111, Tryz.ntmps111
 go_wp2_with (first | ((with_reducible refine gate_dst (N := 16) rfl ?_); refine pm_make rfl rfl ?_; intro bm w40_ hb hlt_ hM_; have HM := aM hM_; have HMB := aM (Nat.le_trans (below_size zb) hlt_); have n1_ := aM (below_step zb hb); clear HB; have HB := n1_; clear n1_ hM_ hb hlt_) | ((with_reducible refine gate_dst (N := 19) rfl ?_); refine Kd.R_make (Kd.int .i64) _ 2 rfl (N := 19) rfl 120 _ _ rfl (l0.length : Int) rfl rfl Tryz.underlying120 (.int .i64 0) 8 info2 rfl (by decide) (by omega) 0 (ok := fun _ => True) (okp := fun _ => True) rfl (fun _ hk => hk) trivial (of_decide_eq_true za) (Nat.le_trans (Nat.mul_le_mul_right _ (of_decide_eq_true za : (l0.length : Int).toNat ≤ 35184372088832)) (by omega)) (Below.refl _ _) (Nat.le_refl _) ?_; intro v407 w5 ho6 hb hg_ hnew_; clear hg_ hnew_; have m0_ := aM (pm_step (by (with_reducible repeat (first | apply pm_alloc | apply pm_drewN | apply pm_drew | refine pm_farN ?_ (by assumption) _)); exact HM.out) hb); clear HM; have HM := m0_; clear m0_; (first | rw [← Ny406.out] at ho6 | (simp only [Int.reduceToNat] at ho6; rw [← Ny406.out] at ho6)); have _ := aM (Kd.R_lower ho6 (below_size zb)); have _ := aM (below_step zb hb); clear HB; rename_i HO408 HB; clear hb ho6))
 go_loopg [22] k (fun kq v22 w' => ∃ (x6_1 : List Int) (x22_1 : Int), v22 = .int .i64 x22_1 ∧ Aside0 (impl_parts__impl_around.l0 kq l0 x6_1 l0 (l0.length : Int) x22_1 = some r) ∧ Aside0 (kq ≤ k) ∧ Aside0 (Kd.R (Kd.int .i64) 2 w' w.heap.size (fun _ => True) v407 x6_1) ∧ Aside0 (Below w.heap.size w w') ∧ Aside0 (0 ≤ x22_1) ∧ Aside0 (PM w' bm (l0.take x22_1.toNat)))
 case atStart => exact ⟨(y406), (0), zr, H', ⟨Nat.le_refl _⟩, ⟨mR_ HO408.out⟩, ⟨zb⟩, ⟨Int.le_refl _⟩, ⟨(by (with_reducible repeat (first | apply pm_alloc | apply pm_drewN | apply pm_drew | refine pm_farN ?_ (by assumption) _)); exact HM.out)⟩⟩
 case round =>
  clear H'
  try clear p2
  try clear c3
  try clear c3b0
  try clear c3b1
  try clear c4
  try clear c4b0
  try clear c4b1
  obtain ⟨x6_1, x22_1, rfl, HA, HK1, HO_6, HB, HI, HM⟩ := hrel
  cases gk with
  | zero => exact absurd HA.out (by simp [impl_parts__impl_around.l0])
  | succ k1 =>
   have H := HA.out
   clear HA
   simp only [impl_parts__impl_around.l0] at H
   by_cases c7 : x22_1 < (l0.length : Int)
   ·rw [if_pos c7] at H
    have c7b0 : decide (x22_1 < (l0.length : Int)) = true := decide_eq_true c7
    clear c7
    by_cases c8 : 0 ≤ x22_1
    rotate_left
    ·rw [if_neg c8] at H
     exact absurd H (by simp)
    rw [if_pos c8] at H
    have c8b0 : decide (0 ≤ x22_1) = true := decide_eq_true c8
    clear c8
    by_cases c9 : x22_1 < (l0.length : Int)
    rotate_left
    ·rw [if_neg c9] at H
     exact absurd H (by simp)
    rw [if_pos c9] at H
    have c9b0 : decide (x22_1 < (l0.length : Int)) = true := decide_eq_true c9
    clear c9
    by_cases c10 : x22_1 < (x6_1.length : Int)
    rotate_left
    ·rw [if_neg c10] at H
     exact absurd H (by simp)
    rw [if_pos c10] at H
    have c10b0 : decide (x22_1 < (x6_1.length : Int)) = true := decide_eq_true c10
    clear c10
    obtain ⟨y411, hy411⟩ : ∃ y_ : List Int, y_ = (x6_1.set (x22_1 : Int).toNat (-1)) := ⟨_, rfl⟩
    replace H : (impl_parts__impl_around.l0 k1 l0 y411 l0 (l0.length : Int) (wrap64 (x22_1 + 1))) = some r := zy H hy411
    have Ny411 := aM hy411
    clear hy411
    have H' := aM H
    clear H
    have p409 : 0 ≤ (x22_1 : Int) := of_decide_eq_true za
    have q409 : x22_1 < (l0.length : Int) := of_decide_eq_true za
    obtain ⟨ad409, e409, hx409_0, hx409_1⟩ := at_T82 HR0.out x22_1 p409 q409
    cases e409
    replace hx409_0 := zk HB.out hx409_0
    replace hx409_1 := zk HB.out hx409_1
    replace p409 := eq_true p409
    replace q409 := eq_true q409
    go_wp2_with (first | ((with_reducible refine gate_dst (N := 8) rfl ?_); refine zx 8 #[.int .i64 0, .int .i64 0] 82 ?_; intro gb410 hg w12 hbox hb; have hne410 : bm ≠ gb410 := (by rw [hg]; exact Nat.ne_of_lt (pm_lt (by (with_reducible repeat (first | apply pm_alloc | apply pm_drewN | apply pm_drew | refine pm_farN ?_ (by assumption) _)); exact HM.out))); have m0_ := aM (pm_step (by (with_reducible repeat (first | apply pm_alloc | apply pm_drewN | apply pm_drew | refine pm_farN ?_ (by assumption) _)); exact HM.out) hb); clear HM; have HM := m0_; clear m0_; have _ := aM (Kd.R_below (mR_ HO_6.out) hb); have _ := aM (below_step zb hb); have _ := aM (hbox); have _ := aM ((ze : w.heap.size ≤ gb410)); have _ := aM ((ze : w.heap.size ≤ gb410)); clear HO_6 HB; rename_i HO_6 HB BK410 GW410 GE410; clear hb hbox hg; obtain ⟨hcz13_0, hcz13_1, hfz13_0, hfz13_1⟩ := zQ2 BK410.out) | ((with_reducible refine gate_store (t := 82) (p := 8) rfl ?_); refine store_event (t := 82) (p := 8) (v := ?vo_w14) (w1 := ((w12.setCell ⟨gb410, 0, none⟩ (.int .i64 ((rd_T82 l0 x22_1).f0))).setCell ⟨gb410, 1, none⟩ (.int .i64 ((rd_T82 l0 x22_1).f1)))) ?hg ?ho ?hn ?hr ?_; (case ho => rfl); (case hg => rfl); (case hn => rfl); (case hr => first | (go_simp; done) | (go_simp; rfl)); intro w14 hw; have m0_ : Aside0 (PM w14 bm (l0.take x22_1.toNat)) := ⟨(by rw [hw]; exact (by (with_reducible repeat (first | apply pm_alloc | apply pm_drewN | apply pm_drew | refine pm_farN ?_ (by assumption) _)); exact HM.out))⟩; clear HM; have HM := m0_; clear m0_; have _ : Aside0 (Kd.R (Kd.int .i64) 2 w14 w.heap.size (fun _ => True) v407 x6_1) := ⟨(by rw [hw]; exact (by (with_reducible repeat (first | apply Kd.R_alloc | apply Kd.R_drewN | apply Kd.R_drew)); exact Kd.R_mono (Kd.R_far (p := ⟨gb410, 1, none⟩) (Kd.R_far (p := ⟨gb410, 0, none⟩) (Kd.R_types HO_6.out BK410.out (by decide)) (fun _ hk => hk.2) (.int .i64 ((rd_T82 l0 x22_1).f0))) (fun _ hk => hk.2) (.int .i64 ((rd_T82 l0 x22_1).f1))) (fun _ hk => trivial)))⟩; have _ : Aside0 (w14.heap[gb410]? = some (.cells #[.int .i64 ((rd_T82 l0 x22_1).f0), .int .i64 ((rd_T82 l0 x22_1).f1)] 82 (0, 0))) := ⟨(by rw [hw]; exact (by (with_reducible repeat (first | refine blk_drewN ?_ _ | refine blk_drew ?_ | refine blk_alloc ?_ _)); refine blk_put (cs := #[.int .i64 ((rd_T82 l0 x22_1).f0), .int .i64 0]) ?_ 1 _ rfl; (with_reducible repeat (first | refine blk_drewN ?_ _ | refine blk_drew ?_ | refine blk_alloc ?_ _)); refine blk_put (cs := #[.int .i64 0, .int .i64 0]) ?_ 0 _ rfl; (with_reducible repeat (first | refine blk_drewN ?_ _ | refine blk_drew ?_ | refine blk_alloc ?_ _)); exact BK410.out))⟩; have _ : Aside0 (Below w.heap.size w w14) := ⟨(by rw [hw]; exact (zs GE410.out))⟩; clear hw HO_6 BK410 HB; rename_i HO_6 BK410 HB; obtain ⟨hcz15_0, hcz15_1, hfz15_0, hfz15_1⟩ := zQ2 BK410.out) | ((with_reducible refine gate_map (t := 160) (m := .tmp 27) (x := .tmp 28) (v := .tmp 29) rfl ?_); refine pm_putAt rfl _ _ _ rfl rfl x22_1 ?hM HI.out ?h1 HLN.out Hwf rfl rfl ?_; (case hM => exact (by (with_reducible repeat (first | apply pm_alloc | apply pm_drewN | apply pm_drew | refine pm_farN ?_ (by assumption) _)); exact HM.out)); (case h1 => exact of_decide_eq_true za); intro w14 hg hi_ m0h_; have _ := aM (R_map (mR_ HO_6.out) (by (with_reducible repeat (first | apply pm_alloc | apply pm_drewN | apply pm_drew | refine pm_farN ?_ (by assumption) _)); exact HM.out) hg); have _ := aM (blk_grown (g := gb410) (o := .cells #[.int .i64 ((rd_T82 l0 x22_1).f0), .int .i64 ((rd_T82 l0 x22_1).f1)] 82 (0, 0)) (mB_ BK410.out) hg (by simpa using Ne.symm (hne410))); have _ := aM (pw_below_grown zb (some bm) (below_size zb) hg (fun _ hk_ => by injection hk_ with hk_; subst hk_; exact HMB.out)); clear HM HO_6 BK410 HB HI; have HM := aM m0h_; have HI := aM hi_; rename_i HO_6 BK410 HB; clear hg m0h_ hi_; have p11 : 0 ≤ (x22_1 : Int) := of_decide_eq_true za; have q11 : (x22_1 : Int) < ((x6_1.length : Int) : Int) := of_decide_eq_true za; obtain ⟨go11, co11, eo11, gb11, gl11, cl11, HG11⟩ := Kd.R_form HO_6.out (by omega); (first | cases eo11 | (injection eo11 with ea_ en_ ec_; (first | subst ea_ | (injection ea_ with ea_; subst ea_)); subst ec_; clear en_)); have GB11 := aM gb11; have GG11 := aM HG11; clear gb11 gl11 HG11; obtain ⟨hx11_0, hf11_0⟩ := Kd.R_celln 0 HO_6.out (x22_1 : Int) p11 q11; replace p11 := eq_true p11; replace q11 := eq_true q11; obtain ⟨hy16_, hz16_⟩ := Kd.R_celln 0 HO_6.out (x22_1 : Int) (of_decide_eq_true za) (of_decide_eq_true za); have HP16 := Kd.R_putg HO_6.out (x22_1 : Int) (-1)) | ((with_reducible refine gate_store (t := 2) (p := 32) rfl ?_); refine store_event (t := 2) (p := 32) (v := ?vo_w17) (w1 := (w14.setCell ⟨go11, (x22_1 : Int).toNat, none⟩ (.int .i64 (-1)))) ?hg ?ho ?hn ?hr ?_; (case ho => rfl); (case hg => rfl); (case hn => rfl); (case hr => first | (go_simp; done) | (go_simp; rfl)); intro w17 hw; have hg : w14.grownBy w17 (some go11) := (by rw [hw]; exact HP16.2); have m0_ := aM (pm_kept (row := some go11) HM.out hg (pm_row HM.out HO_6.out)); clear HM; have HM := m0_; clear m0_; have hp_ : Kd.R (Kd.int .i64) 2 w17 w.heap.size (fun _ => True) (.slice (some ⟨go11, 0, none⟩) x6_1.length co11) y411 := (by rw [hw, Ny411.out]; exact HP16.1); clear HP16; have _ := aM (hp_); have _ := aM (blk_grown (g := gb410) (o := .cells #[.int .i64 ((rd_T82 l0 x22_1).f0), .int .i64 ((rd_T82 l0 x22_1).f1)] 82 (0, 0)) (mB_ BK410.out) hg (Kd.R_ne HO_6.out BK410.out (by decide))); have _ := aM ((by rw [hw]; exact below_set (HB.out) GB11.out : Below w.heap.size w w17)); clear HO_6 BK410 HB; rename_i HO_6 BK410 HB; clear hg hw hp_))
    go_roundg k1
    case measure => have := HK1.out; omega
    case rel => exact ⟨(y411), (wrap64 (x22_1 + 1)), zr, H', ⟨by have := HK1.out; omega⟩, ⟨mR_ HO_6.out⟩, ⟨zs GE410.out⟩, ⟨HI.out⟩, ⟨(by (with_reducible repeat (first | apply pm_alloc | apply pm_drewN | apply pm_drew | refine pm_farN ?_ (by assumption) _)); exact HM.out)⟩⟩
   rw [if_neg c7] at H
   have c7b0 : decide (x22_1 < (l0.length : Int)) = false := decide_eq_false c7
   replace HM : Aside0 (PM _ bm l0) := ⟨pm_all HM.out (of_decide_eq_false c7b0)⟩
   clear c7
   have H' := aM H
   clear H
   go_wp2
   go_loopg [36] k1 (fun kq v36 w' => ∃ (x6_2 : List Int) (x36_2 : Int), v36 = .int .i64 x36_2 ∧ Aside0 (impl_parts__impl_around.l1 kq l0 x6_2 (l0.length : Int) x36_2 = some r) ∧ Aside0 (kq ≤ k1) ∧ Aside0 (Kd.R (Kd.int .i64) 2 w' w.heap.size (fun _ => True) v407 x6_2) ∧ Aside0 (Below w.heap.size w w') ∧ Aside0 (PM w' bm l0))
   case atStart => exact ⟨(x6_1), (0), zr, H', ⟨Nat.le_refl _⟩, ⟨mR_ HO_6.out⟩, ⟨zb⟩, ⟨(by (with_reducible repeat (first | apply pm_alloc | apply pm_drewN | apply pm_drew | refine pm_farN ?_ (by assumption) _)); exact HM.out)⟩⟩
   case round =>
    clear H'
    try clear c1
    try clear p1
    try clear q1
    try clear hx1
    try clear p2
    try clear c3
    try clear c3b0
    try clear c3b1
    try clear c4
    try clear c4b0
    try clear c4b1
    try clear p4
    try clear q4
    try clear hx4
    try clear p6
    try clear c7
    try clear c7b0
    try clear c8
    try clear c8b0
    try clear c9
    try clear c9b0
    try clear c10
    try clear c10b0
    try clear p11
    try clear q11
    try clear hx11
    try clear hf11
    try clear hcz13_0
    try clear hcz13_1
    try clear hcz15_0
    try clear hcz15_1
    try clear hfz13_0
    try clear hfz13_1
    try clear hfz15_0
    try clear hfz15_1
    try clear hx11_0
    try clear hx409_0
    try clear hx409_1
    try clear p11
    try clear p2
    try clear p409
    try clear q11
    try clear q409
    obtain ⟨x6_2, x36_2, rfl, HA, HK2, HO_6, HB, HM⟩ := hrel
    cases gk with
    | zero => exact absurd HA.out (by simp [impl_parts__impl_around.l1])
    | succ k2 =>
     have H := HA.out
     clear HA
     simp only [impl_parts__impl_around.l1] at H
     by_cases c18 : x36_2 < (l0.length : Int)
     rotate_left
     ·rw [if_neg c18] at H
      have c18b0 : decide (x36_2 < (l0.length : Int)) = false := decide_eq_false c18
      clear c18
      obtain rfl := Option.some.inj H
      go_wp2
      go_ret
      exact ⟨_, zw, mR_ HO_6.out, zb⟩
     rw [if_pos c18] at H
     have c18b0 : decide (x36_2 < (l0.length : Int)) = true := decide_eq_true c18
     clear c18
     by_cases c19 : 0 ≤ x36_2
     rotate_left
     ·rw [if_neg c19] at H
      exact absurd H (by simp)
     rw [if_pos c19] at H
     have c19b0 : decide (0 ≤ x36_2) = true := decide_eq_true c19
     clear c19
     by_cases c20 : x36_2 < (x6_2.length : Int)
     rotate_left
     ·rw [if_neg c20] at H
      exact absurd H (by simp)
     rw [if_pos c20] at H
     have c20b0 : decide (x36_2 < (x6_2.length : Int)) = true := decide_eq_true c20
     clear c20
     by_cases c21 : (rd x6_2 x36_2) ≥ 0
     ·rw [if_pos c21] at H
      have c21b0 : decide (0 ≤ (rd x6_2 x36_2)) = true := decide_eq_true c21
      clear c21
      have H' := aM H
      clear H
      obtain ⟨Ao22, co22, eo22⟩ := Kd.R_slice HO_6.out
      subst eo22
      have p412 : 0 ≤ (x36_2 : Int) := of_decide_eq_true za
      have q412 : x36_2 < (x6_2.length : Int) := of_decide_eq_true za
      obtain ⟨ad412, e412, hx412_0⟩ := Kd.at_int (Kd.R_reads' HO_6.out).2.2 x36_2 p412 q412
      cases e412
      replace p412 := eq_true p412
      replace q412 := eq_true q412
      go_wp2
      go_roundg k2
      case measure => have := HK1.out; have := HK2.out; omega
      case rel => exact ⟨(x6_2), (wrap64 (x36_2 + 1)), zr, H', ⟨by have := HK1.out; have := HK2.out; omega⟩, ⟨mR_ HO_6.out⟩, ⟨zb⟩, ⟨(by (with_reducible repeat (first | apply pm_alloc | apply pm_drewN | apply pm_drew | refine pm_farN ?_ (by assumption) _)); exact HM.out)⟩⟩
     rw [if_neg c21] at H
     have c21b0 : decide (0 ≤ (rd x6_2 x36_2)) = false := decide_eq_false c21
     clear c21
     obtain ⟨y413, hy413⟩ : ∃ y_ : List Int, y_ = (x6_2.set (x36_2 : Int).toNat x36_2) := ⟨_, rfl⟩
     replace H : (impl_parts__impl_around.l2 k2 l0 y413 x36_2 (([x36_2] : List Int)) 0 (l0.length : Int) x36_2) = some r := zy H hy413
     have Ny413 := aM hy413
     clear hy413
     obtain ⟨y414, hy414⟩ : ∃ y_ : List Int, y_ = (([x36_2] : List Int)) := ⟨_, rfl⟩
     replace H : (impl_parts__impl_around.l2 k2 l0 y413 x36_2 y414 0 (l0.length : Int) x36_2) = some r := zy H hy414
     have Ny414 := aM hy414
     clear hy414
     have H' := aM H
     clear H
     obtain ⟨Ao24, co24, eo24⟩ := Kd.R_slice HO_6.out
     subst eo24
     have p412 : 0 ≤ (x36_2 : Int) := of_decide_eq_true za
     have q412 : x36_2 < (x6_2.length : Int) := of_decide_eq_true za
     obtain ⟨ad412, e412, hx412_0⟩ := Kd.at_int (Kd.R_reads' HO_6.out).2.2 x36_2 p412 q412
     cases e412
     replace p412 := eq_true p412
     replace q412 := eq_true q412
     have p23 : 0 ≤ (x36_2 : Int) := of_decide_eq_true za
     have q23 : (x36_2 : Int) < ((x6_2.length : Int) : Int) := of_decide_eq_true za
     obtain ⟨go23, co23, eo23, gb23, gl23, cl23, HG23⟩ := Kd.R_form HO_6.out (by omega)
     (first | cases eo23 | (injection eo23 with ea_ en_ ec_; (first | subst ea_ | (injection ea_ with ea_; subst ea_)); subst ec_; clear en_))
     have GB23 := aM gb23
     have GG23 := aM HG23
     clear gb23 gl23 HG23
     (first | simp only [add_plain] at hx412_0 | skip)
     obtain ⟨hx23_0, hf23_0⟩ := Kd.R_celln 0 HO_6.out (x36_2 : Int) p23 q23
     replace p23 := eq_true p23
     replace q23 := eq_true q23
     have HP25 := Kd.R_putg HO_6.out (x36_2 : Int) x36_2
     go_wp2_with (first | ((with_reducible refine gate_store (t := 2) (p := 47) rfl ?_); refine store_event (t := 2) (p := 47) (v := ?vo_w26) (w1 := (wr.setCell ⟨go23, (x36_2 : Int).toNat, none⟩ (.int .i64 x36_2))) ?hg ?ho ?hn ?hr ?_; (case ho => rfl); (case hg => rfl); (case hn => rfl); (case hr => first | (go_simp; done) | (go_simp; rfl)); intro w26 hw; have hg : wr.grownBy w26 (some go23) := (by rw [hw]; exact HP25.2); have m0_ := aM (pm_kept (row := some go23) HM.out hg (pm_row HM.out HO_6.out)); clear HM; have HM := m0_; clear m0_; have hp_ : Kd.R (Kd.int .i64) 2 w26 w.heap.size (fun _ => True) (.slice (some ⟨go23, 0, none⟩) x6_2.length co24) y413 := (by rw [hw, Ny413.out]; exact HP25.1); clear HP25; have _ := aM (hp_); have _ := aM ((by rw [hw]; exact below_set (HB.out) GB23.out : Below w.heap.size w w26)); clear HO_6 HB; rename_i HO_6 HB; clear hg hw hp_) | ((with_reducible refine gate_dst (N := 49) rfl ?_); refine Kd.R_lit (Kd.int .i64) _ 3 ?hg (N := 49) ?hd (xs := ([x36_2] : List Int)) (inner := [.int .i64 x36_2]) (ok := fun _ => True) (okp := fun _ => True) ?hr ?hp (fun _ hk => hk) trivial (Below.refl _ _) (Nat.le_refl _) (by simp) ?_; (case hd => rfl); (case hg => rfl); (case hr => first | (go_simp; done) | (go_simp; rfl)); (case hp => exact (Reps.one (show Kd.M (Kd.int .i64) _ _ _ x36_2 [.int .i64 x36_2] from rfl) (Reps.none _ _))); intro v415 w27 ho28 hb hg_ hnew_; clear hg_ hnew_; have m0_ := aM (pm_step (by (with_reducible repeat (first | apply pm_alloc | apply pm_drewN | apply pm_drew | refine pm_farN ?_ (by assumption) _)); exact HM.out) hb); clear HM; have HM := m0_; clear m0_; (first | rw [← Ny414.out] at ho28 | (simp only [Int.reduceToNat] at ho28; rw [← Ny414.out] at ho28)); have _ := aM (Kd.R_below (mR_ HO_6.out) hb); have _ := aM (Kd.R_lower ho28 (below_size zb)); have _ := aM (below_step zb hb); clear HO_6 HB; rename_i HO_6 HO416 HB; clear hb ho28))
     go_loopg [10, 11] k2 (fun kq v10 v11 w' => ∃ (x6_3 : List Int) (x10_3 : List Int) (x11_3 : Int), v11 = .int .i64 x11_3 ∧ Aside0 (impl_parts__impl_around.l2 kq l0 x6_3 x36_2 x10_3 x11_3 (l0.length : Int) x36_2 = some r) ∧ Aside0 (kq ≤ k2) ∧ Aside0 (Kd.R (Kd.int .i64) 2 w' w.heap.size (fun _ => True) (.slice (some ⟨go23, 0, none⟩) x6_2.length co24) x6_3) ∧ Aside0 (Kd.R (Kd.int .i64) 3 w' w.heap.size (fun _ => True) v10 x10_3) ∧ Aside0 (Below w.heap.size w w') ∧ Aside0 (PM w' bm l0))
     case atStart => exact ⟨(y413), (y414), (0), zr, H', ⟨Nat.le_refl _⟩, ⟨mR_ HO_6.out⟩, ⟨mR_ HO416.out⟩, ⟨zb⟩, ⟨(by (with_reducible repeat (first | apply pm_alloc | apply pm_drewN | apply pm_drew | refine pm_farN ?_ (by assumption) _)); exact HM.out)⟩⟩
     case round =>
      clear H'
      try clear c1
      try clear p1
      try clear q1
      try clear hx1
      try clear c2
      try clear p2
      try clear q2
      try clear hx2
      try clear hf2
      try clear c3
      try clear c3b0
      try clear c3b1
      try clear c4
      try clear c4b0
      try clear c4b1
      try clear p4
      try clear q4
      try clear hx4
      try clear p6
      try clear c7
      try clear c7b0
      try clear c8
      try clear c8b0
      try clear c9
      try clear c9b0
      try clear c10
      try clear c10b0
      try clear p11
      try clear q11
      try clear hx11
      try clear hf11
      try clear c18
      try clear c18b0
      try clear c19
      try clear c19b0
      try clear c20
      try clear c20b0
      try clear c21
      try clear c21b0
      try clear p23
      try clear q23
      try clear hx23
      try clear hf23
      try clear hcz13_0
      try clear hcz13_1
      try clear hcz15_0
      try clear hcz15_1
      try clear hfz13_0
      try clear hfz13_1
      try clear hfz15_0
      try clear hfz15_1
      try clear hx11_0
      try clear hx23_0
      try clear hx409_0
      try clear hx409_1
      try clear hx412_0
      try clear p1
      try clear p11
      try clear p2
      try clear p23
      try clear p4
      try clear p409
      try clear p412
      try clear p6
      try clear q1
      try clear q11
      try clear q23
      try clear q4
      try clear q409
      try clear q412
      obtain ⟨x6_3, x10_3, x11_3, rfl, HA, HK3, HO_6, HO_10, HB, HM⟩ := hrel
      have hl6_3 := (Kd.R_reads' HO_6.out).1
      rw [hl6_3] at HO_6
      (try simp only [hl6_3])
      (try simp only [hl6_3] at HO_10)
      cases gk with
      | zero => exact absurd HA.out (by simp [impl_parts__impl_around.l2])
      | succ k3 =>
       have H := HA.out
       clear HA
       simp only [impl_parts__impl_around.l2] at H
       by_cases c29 : x11_3 < (x10_3.length : Int)
       rotate_left
       ·rw [if_neg c29] at H
        have c29b0 : decide (x11_3 < (x10_3.length : Int)) = false := decide_eq_false c29
        clear c29
        have H' := aM H
        clear H
        obtain ⟨Ao59, co59, eo59⟩ := Kd.R_slice HO_10.out
        subst eo59
        go_wp2
        (try simp only [← hl6_3])
        go_roundg k3
        case measure => have := HK1.out; have := HK2.out; have := HK3.out; omega
        case rel => exact ⟨(x6_3), (wrap64 (x36_2 + 1)), zr, H', ⟨by have := HK1.out; have := HK2.out; have := HK3.out; omega⟩, ⟨by (try simp only [hl6_3]); (with_reducible repeat (first | apply Kd.R_alloc | apply Kd.R_drewN | apply Kd.R_drew)); exact HO_6.out⟩, ⟨zb⟩, ⟨(by (with_reducible repeat (first | apply pm_alloc | apply pm_drewN | apply pm_drew | refine pm_farN ?_ (by assumption) _)); exact HM.out)⟩⟩
       rw [if_pos c29] at H
       have c29b0 : decide (x11_3 < (x10_3.length : Int)) = true := decide_eq_true c29
       clear c29
       by_cases c30 : 0 ≤ x11_3
       rotate_left
       ·rw [if_neg c30] at H
        exact absurd H (by simp)
       rw [if_pos c30] at H
       have c30b0 : decide (0 ≤ x11_3) = true := decide_eq_true c30
       clear c30
       by_cases c31 : 0 ≤ (rd x10_3 x11_3)
       rotate_left
       ·rw [if_neg c31] at H
        exact absurd H (by simp)
       rw [if_pos c31] at H
       have c31b0 : decide (0 ≤ (rd x10_3 x11_3)) = true := decide_eq_true c31
       clear c31
       by_cases c32 : (rd x10_3 x11_3) < (l0.length : Int)
       rotate_left
       ·rw [if_neg c32] at H
        exact absurd H (by simp)
       rw [if_pos c32] at H
       have c32b0 : decide ((rd x10_3 x11_3) < (l0.length : Int)) = true := decide_eq_true c32
       clear c32
       replace H := Option.bind_eq_some_iff.mp H
       obtain ⟨t419, A330, H⟩ := H
       replace H : (impl_parts__impl_around.l3 k3 l0 x6_3 x36_2 x10_3 x11_3 (l0.length : Int) x36_2 t419 (t419.length : Int) 0) = some r := H
       have A33 := aM A330
       clear A330
       have H' := aM H
       clear H
       obtain ⟨Ao34, co34, eo34⟩ := Kd.R_slice HO_10.out
       subst eo34
       have p417 : 0 ≤ (x11_3 : Int) := of_decide_eq_true za
       have q417 : x11_3 < (x10_3.length : Int) := of_decide_eq_true za
       obtain ⟨ad417, e417, hx417_0⟩ := Kd.at_int (Kd.R_reads' HO_10.out).2.2 x11_3 p417 q417
       cases e417
       replace p417 := eq_true p417
       replace q417 := eq_true q417
       have p418 : 0 ≤ ((rd x10_3 x11_3) : Int) := of_decide_eq_true za
       have q418 : (rd x10_3 x11_3) < (l0.length : Int) := of_decide_eq_true za
       obtain ⟨ad418, e418, hx418_0, hx418_1⟩ := at_T82 HR0.out (rd x10_3 x11_3) p418 q418
       cases e418
       replace hx418_0 := zk HB.out hx418_0
       replace hx418_1 := zk HB.out hx418_1
       replace p418 := eq_true p418
       replace q418 := eq_true q418
       go_wp2_with (first | (go_at_call 76; (with_reducible refine (impl_around.calls ((rd_T82 l0 (rd x10_3 x11_3)).f0) ((rd_T82 l0 (rd x10_3 x11_3)).f1) t419 _ A33.out).mono ?_); rintro e w35 ⟨v420, rfl, ho0, hb⟩; have m0_ := aM (pm_step (by (with_reducible repeat (first | apply pm_alloc | apply pm_drewN | apply pm_drew | refine pm_farN ?_ (by assumption) _)); exact HM.out) hb); clear HM; have HM := m0_; clear m0_; have _ := aM (Kd.R_below (mR_ HO_6.out) hb); have _ := aM (Kd.R_below (mR_ HO_10.out) hb); have _ := aM (Kd.R_lower ho0 (below_size zb)); have _ := aM (below_step zb hb); clear HO_6 HO_10 HB; rename_i HO_6 HO_10 HO421 HB; (try clear hb); (try clear hb2); (try clear hk); (try clear hi); (try clear ho0); obtain ⟨Ao36, co36, eo36⟩ := Kd.R_slice HO421.out; subst eo36))
       go_loopg [10, 66] k3 (fun kq v10 v66 w' => ∃ (x6_4 : List Int) (x10_4 : List Int) (x66_4 : Int), v66 = .int .i64 x66_4 ∧ Aside0 (impl_parts__impl_around.l3 kq l0 x6_4 x36_2 x10_4 x11_3 (l0.length : Int) x36_2 t419 (t419.length : Int) x66_4 = some r) ∧ Aside0 (kq ≤ k3) ∧ Aside0 (Kd.R (Kd.int .i64) 2 w' w.heap.size (fun _ => True) (.slice (some ⟨go23, 0, none⟩) x6_3.length co24) x6_4) ∧ Aside0 (Kd.R (Kd.int .i64) 3 w' w.heap.size (fun _ => True) v10 x10_4) ∧ Aside0 (Kd.R k82 82 w' w.heap.size (fun _ => True) (.slice Ao36 t419.length co36) t419) ∧ Aside0 (Below w.heap.size w w') ∧ Aside0 (PM w' bm l0))
       case atStart => exact ⟨(x6_3), (x10_3), (0), zr, H', ⟨Nat.le_refl _⟩, ⟨by (try simp only [hl6_3]); (with_reducible repeat (first | apply Kd.R_alloc | apply Kd.R_drewN | apply Kd.R_drew)); exact HO_6.out⟩, ⟨by (try simp only [hl6_3]); (with_reducible repeat (first | apply Kd.R_alloc | apply Kd.R_drewN | apply Kd.R_drew)); exact HO_10.out⟩, ⟨by (try simp only [hl6_3]); (with_reducible repeat (first | apply Kd.R_alloc | apply Kd.R_drewN | apply Kd.R_drew)); exact HO421.out⟩, ⟨zb⟩, ⟨(by (with_reducible repeat (first | apply pm_alloc | apply pm_drewN | apply pm_drew | refine pm_farN ?_ (by assumption) _)); exact HM.out)⟩⟩
       case round =>
        clear H'
        try clear c1
        try clear p1
        try clear q1
        try clear hx1
        try clear c2
        try clear p2
        try clear q2
        try clear hx2
        try clear hf2
        try clear c3
        try clear c3b0
        try clear c3b1
        try clear c4
        try clear c4b0
        try clear c4b1
        try clear p4
        try clear q4
        try clear hx4
        try clear p6
        try clear c7
        try clear c7b0
        try clear c8
        try clear c8b0
        try clear c9
        try clear c9b0
        try clear c10
        try clear c10b0
        try clear p11
        try clear q11
        try clear hx11
        try clear hf11
        try clear c18
        try clear c18b0
        try clear c19
        try clear c19b0
        try clear c20
        try clear c20b0
        try clear c21
        try clear c21b0
        try clear p23
        try clear q23
        try clear hx23
        try clear hf23
        try clear c29
        try clear c29b0
        try clear c30
        try clear c30b0
        try clear c31
        try clear c31b0
        try clear c32
        try clear c32b0
        try clear hcz13_0
        try clear hcz13_1
        try clear hcz15_0
        try clear hcz15_1
        try clear hfz13_0
        try clear hfz13_1
        try clear hfz15_0
        try clear hfz15_1
        try clear hx11_0
        try clear hx23_0
        try clear hx409_0
        try clear hx409_1
        try clear hx412_0
        try clear hx417_0
        try clear hx418_0
        try clear hx418_1
        try clear p1
        try clear p11
        try clear p2
        try clear p23
        try clear p4
        try clear p409
        try clear p412
        try clear p417
        try clear p418
        try clear p6
        try clear q1
        try clear q11
        try clear q2
        try clear q23
        try clear q4
        try clear q409
        try clear q412
        try clear q417
        try clear q418
        obtain ⟨x6_4, x10_4, x66_4, rfl, HA, HK4, HO_6, HO_10, HO_64, HB, HM⟩ := hrel
        have hl6_4 := (Kd.R_reads' HO_6.out).1
        rw [hl6_4] at HO_6
        (try simp only [hl6_4])
        (try simp only [hl6_4] at HO_10)
        (try simp only [hl6_4] at HO_64)
        cases gk with
        | zero => exact absurd HA.out (by simp [impl_parts__impl_around.l3])
        | succ k4 =>
         have H := HA.out
         clear HA
         simp only [impl_parts__impl_around.l3] at H
         by_cases c37 : x66_4 < (t419.length : Int)
         rotate_left
         ·rw [if_neg c37] at H
          have c37b0 : decide (x66_4 < (t419.length : Int)) = false := decide_eq_false c37
          clear c37
          have H' := aM H
          clear H
          go_wp2
          (try simp only [← hl6_3, ← hl6_4])
          go_roundg k4
          case measure => have := HK1.out; have := HK2.out; have := HK3.out; have := HK4.out; omega
          case rel => exact ⟨(x6_4), (x10_4), (wrap64 (x11_3 + 1)), zr, H', ⟨by have := HK1.out; have := HK2.out; have := HK3.out; have := HK4.out; omega⟩, ⟨by (try simp only [hl6_3]); (try simp only [hl6_4]); (with_reducible repeat (first | apply Kd.R_alloc | apply Kd.R_drewN | apply Kd.R_drew)); exact HO_6.out⟩, ⟨by (try simp only [hl6_3]); (try simp only [hl6_4]); (with_reducible repeat (first | apply Kd.R_alloc | apply Kd.R_drewN | apply Kd.R_drew)); exact HO_10.out⟩, ⟨zb⟩, ⟨(by (with_reducible repeat (first | apply pm_alloc | apply pm_drewN | apply pm_drew | refine pm_farN ?_ (by assumption) _)); exact HM.out)⟩⟩
         rw [if_pos c37] at H
         have c37b0 : decide (x66_4 < (t419.length : Int)) = true := decide_eq_true c37
         clear c37
         by_cases c38 : 0 ≤ x66_4
         rotate_left
         ·rw [if_neg c38] at H
          exact absurd H (by simp)
         rw [if_pos c38] at H
         have c38b0 : decide (0 ≤ x66_4) = true := decide_eq_true c38
         clear c38
         by_cases c39 : x66_4 < (t419.length : Int)
         rotate_left
         ·rw [if_neg c39] at H
          exact absurd H (by simp)
         rw [if_pos c39] at H
         have c39b0 : decide (x66_4 < (t419.length : Int)) = true := decide_eq_true c39
         clear c39
         replace H := Option.bind_eq_some_iff.mp H
         obtain ⟨⟨t424, t425⟩, A400, H⟩ := H
         replace H : (if t425 = true then (if 0 ≤ t424 then (if t424 < (x6_4.length : Int) then (if (rd x6_4 t424) < 0 then (if x10_4.length < 17592186044416 then (impl_parts__impl_around.l3 k4 l0 (x6_4.set (t424 : Int).toNat x36_2) x36_2 (x10_4 ++ [t424]) x11_3 (l0.length : Int) x36_2 t419 (t419.length : Int) (wrap64 (x66_4 + 1))) else (none)) else (impl_parts__impl_around.l3 k4 l0 x6_4 x36_2 x10_4 x11_3 (l0.length : Int) x36_2 t419 (t419.length : Int) (wrap64 (x66_4 + 1)))) else (none)) else (none)) else (impl_parts__impl_around.l3 k4 l0 x6_4 x36_2 x10_4 x11_3 (l0.length : Int) x36_2 t419 (t419.length : Int) (wrap64 (x66_4 + 1)))) = some r := H
         have A40 := aM A400
         clear A400
         by_cases c41 : t425 = true
         rotate_left
         ·replace c41 := Bool.eq_false_iff.mpr c41
          subst c41
          have H1 : (impl_parts__impl_around.l3 k4 l0 x6_4 x36_2 x10_4 x11_3 (l0.length : Int) x36_2 t419 (t419.length : Int) (wrap64 (x66_4 + 1))) = some r := by rw [if_neg (show ¬ (false = true) by decide)] at H; exact H
          clear H
          have H := H1
          clear H1
          have H' := aM H
          clear H
          have p422 : 0 ≤ (x66_4 : Int) := of_decide_eq_true za
          have q422 : x66_4 < (t419.length : Int) := of_decide_eq_true za
          obtain ⟨ad422, e422, hx422_0, hx422_1⟩ := at_T82 (Kd.R_reads' HO_64.out).2.2 x66_4 p422 q422
          cases e422
          replace p422 := eq_true p422
          replace q422 := eq_true q422
          go_wp2_with (first | ((with_reducible refine gate_dst (N := 13) rfl ?_); refine zx 13 #[.int .i64 0, .int .i64 0] 82 ?_; intro gb423 hg w56 hbox hb; have hne423 : bm ≠ gb423 := (by rw [hg]; exact Nat.ne_of_lt (pm_lt (by (with_reducible repeat (first | apply pm_alloc | apply pm_drewN | apply pm_drew | refine pm_farN ?_ (by assumption) _)); exact HM.out))); have m0_ := aM (pm_step (by (with_reducible repeat (first | apply pm_alloc | apply pm_drewN | apply pm_drew | refine pm_farN ?_ (by assumption) _)); exact HM.out) hb); clear HM; have HM := m0_; clear m0_; have _ := aM (Kd.R_below (mR_ HO_6.out) hb); have _ := aM (Kd.R_below (mR_ HO_10.out) hb); have _ := aM (Kd.R_below (Kd.R_elderB (mR_ HO_64.out) gb423 (Nat.le_of_eq hg.symm)) hb); have _ := aM (below_step zb hb); have _ := aM (hbox); have _ := aM ((ze : w.heap.size ≤ gb423)); have _ := aM ((ze : w.heap.size ≤ gb423)); clear HO_6 HO_10 HO_64 HB; rename_i HO_6 HO_10 HO_64 HB BK423 GW423 GE423; clear hb hbox hg; obtain ⟨hcz57_0, hcz57_1, hfz57_0, hfz57_1⟩ := zQ2 BK423.out) | ((with_reducible refine gate_dst (N := 73) rfl ?_); refine pm_look rfl _ _ rfl rfl ?hM _ _ rfl A40.out ?_; (case hM => exact (by (with_reducible repeat (first | apply pm_alloc | apply pm_drewN | apply pm_drew | refine pm_farN ?_ (by assumption) _)); exact HM.out)); intro w58 hb m0h_; clear HM; have HM := aM m0h_; clear m0h_; have _ := aM (Kd.R_below (by (with_reducible repeat (first | apply Kd.R_alloc | apply Kd.R_drewN | apply Kd.R_drew)); exact (Kd.R_mono (Kd.R_far (p := ⟨gb423, 1, none⟩) (Kd.R_far (p := ⟨gb423, 0, none⟩) (Kd.R_types HO_6.out BK423.out (by decide)) (fun _ hk => hk.2) (.int .i64 ((rd_T82 t419 x66_4).f0))) (fun _ hk => hk.2) (.int .i64 ((rd_T82 t419 x66_4).f1))) (fun _ h_ => h_.1))) hb); have _ := aM (Kd.R_below (by (with_reducible repeat (first | apply Kd.R_alloc | apply Kd.R_drewN | apply Kd.R_drew)); exact (Kd.R_mono (Kd.R_far (p := ⟨gb423, 1, none⟩) (Kd.R_far (p := ⟨gb423, 0, none⟩) (Kd.R_types HO_10.out BK423.out (by decide)) (fun _ hk => hk.2) (.int .i64 ((rd_T82 t419 x66_4).f0))) (fun _ hk => hk.2) (.int .i64 ((rd_T82 t419 x66_4).f1))) (fun _ h_ => h_.1))) hb); have _ := aM (Kd.R_below (by (with_reducible repeat (first | apply Kd.R_alloc | apply Kd.R_drewN | apply Kd.R_drew)); exact (Kd.R_mono (Kd.R_far (p := ⟨gb423, 1, none⟩) (Kd.R_far (p := ⟨gb423, 0, none⟩) (Kd.R_mono HO_64.out (fun k_ hk => (⟨hk, hk.2⟩ : _ ∧ k_ ≠ gb423))) (fun _ hk => hk.2) (.int .i64 ((rd_T82 t419 x66_4).f0))) (fun _ hk => hk.2) (.int .i64 ((rd_T82 t419 x66_4).f1))) (fun _ h_ => h_.1))) hb); have _ := aM (blk_below (g := gb423) (o := .cells #[.int .i64 ((rd_T82 t419 x66_4).f0), .int .i64 ((rd_T82 t419 x66_4).f1)] 82 (0, 0)) (by (with_reducible repeat (first | refine blk_drewN ?_ _ | refine blk_drew ?_ | refine blk_alloc ?_ _)); refine blk_put (cs := #[.int .i64 ((rd_T82 t419 x66_4).f0), .int .i64 0]) ?_ 1 _ rfl; (with_reducible repeat (first | refine blk_drewN ?_ _ | refine blk_drew ?_ | refine blk_alloc ?_ _)); refine blk_put (cs := #[.int .i64 0, .int .i64 0]) ?_ 0 _ rfl; (with_reducible repeat (first | refine blk_drewN ?_ _ | refine blk_drew ?_ | refine blk_alloc ?_ _)); exact BK423.out) hb); have _ := aM (below_step (zs GE423.out) hb); clear HO_6 HO_10 HO_64 BK423 HB; rename_i HO_6 HO_10 HO_64 BK423 HB; (try clear hb); (try clear hb2); (try clear hk); (try clear hi)))
          (try simp only [← hl6_4])
          go_roundg k4
          case measure => have := HK1.out; have := HK2.out; have := HK3.out; have := HK4.out; omega
          case rel => exact ⟨(x6_4), (x10_4), (wrap64 (x66_4 + 1)), zr, H', ⟨by have := HK1.out; have := HK2.out; have := HK3.out; have := HK4.out; omega⟩, ⟨by (try simp only [hl6_3]); (try simp only [hl6_4]); (with_reducible repeat (first | apply Kd.R_alloc | apply Kd.R_drewN | apply Kd.R_drew)); exact HO_6.out⟩, ⟨by (try simp only [hl6_3]); (try simp only [hl6_4]); (with_reducible repeat (first | apply Kd.R_alloc | apply Kd.R_drewN | apply Kd.R_drew)); exact HO_10.out⟩, ⟨by (try simp only [hl6_3]); (try simp only [hl6_4]); (with_reducible repeat (first | apply Kd.R_alloc | apply Kd.R_drewN | apply Kd.R_drew)); exact Kd.R_mono HO_64.out (fun _ hk => trivial)⟩, ⟨zs GE423.out⟩, ⟨(by (with_reducible repeat (first | apply pm_alloc | apply pm_drewN | apply pm_drew | refine pm_farN ?_ (by assumption) _)); exact HM.out)⟩⟩
         subst c41
         have H1 : (if 0 ≤ t424 then (if t424 < (x6_4.length : Int) then (if (rd x6_4 t424) < 0 then (if x10_4.length < 17592186044416 then (impl_parts__impl_around.l3 k4 l0 (x6_4.set (t424 : Int).toNat x36_2) x36_2 (x10_4 ++ [t424]) x11_3 (l0.length : Int) x36_2 t419 (t419.length : Int) (wrap64 (x66_4 + 1))) else (none)) else (impl_parts__impl_around.l3 k4 l0 x6_4 x36_2 x10_4 x11_3 (l0.length : Int) x36_2 t419 (t419.length : Int) (wrap64 (x66_4 + 1)))) else (none)) else (none)) = some r := by rw [if_pos rfl] at H; exact H
         clear H
         have H := H1
         clear H1
         by_cases c42 : 0 ≤ t424
         rotate_left
         ·rw [if_neg c42] at H
          exact absurd H (by simp)
         rw [if_pos c42] at H
         have c42b0 : decide (0 ≤ t424) = true := decide_eq_true c42
         clear c42
         by_cases c43 : t424 < (x6_4.length : Int)
         rotate_left
         ·rw [if_neg c43] at H
          exact absurd H (by simp)
         rw [if_pos c43] at H
         have c43b0 : decide (t424 < (x6_4.length : Int)) = true := decide_eq_true c43
         clear c43
         by_cases c44 : (rd x6_4 t424) < 0
         rotate_left
         ·rw [if_neg c44] at H
          have c44b0 : decide ((rd x6_4 t424) < 0) = false := decide_eq_false c44
          clear c44
          have H' := aM H
          clear H
          have p422 : 0 ≤ (x66_4 : Int) := of_decide_eq_true za
          have q422 : x66_4 < (t419.length : Int) := of_decide_eq_true za
          obtain ⟨ad422, e422, hx422_0, hx422_1⟩ := at_T82 (Kd.R_reads' HO_64.out).2.2 x66_4 p422 q422
          cases e422
          replace p422 := eq_true p422
          replace q422 := eq_true q422
          go_wp2_with (first | ((with_reducible refine gate_dst (N := 13) rfl ?_); refine zx 13 #[.int .i64 0, .int .i64 0] 82 ?_; intro gb423 hg w53 hbox hb; have hne423 : bm ≠ gb423 := (by rw [hg]; exact Nat.ne_of_lt (pm_lt (by (with_reducible repeat (first | apply pm_alloc | apply pm_drewN | apply pm_drew | refine pm_farN ?_ (by assumption) _)); exact HM.out))); have m0_ := aM (pm_step (by (with_reducible repeat (first | apply pm_alloc | apply pm_drewN | apply pm_drew | refine pm_farN ?_ (by assumption) _)); exact HM.out) hb); clear HM; have HM := m0_; clear m0_; have _ := aM (Kd.R_below (mR_ HO_6.out) hb); have _ := aM (Kd.R_below (mR_ HO_10.out) hb); have _ := aM (Kd.R_below (Kd.R_elderB (mR_ HO_64.out) gb423 (Nat.le_of_eq hg.symm)) hb); have _ := aM (below_step zb hb); have _ := aM (hbox); have _ := aM ((ze : w.heap.size ≤ gb423)); have _ := aM ((ze : w.heap.size ≤ gb423)); clear HO_6 HO_10 HO_64 HB; rename_i HO_6 HO_10 HO_64 HB BK423 GW423 GE423; clear hb hbox hg; obtain ⟨hcz54_0, hcz54_1, hfz54_0, hfz54_1⟩ := zQ2 BK423.out) | ((with_reducible refine gate_dst (N := 73) rfl ?_); refine pm_look rfl _ _ rfl rfl ?hM _ _ rfl A40.out ?_; (case hM => exact (by (with_reducible repeat (first | apply pm_alloc | apply pm_drewN | apply pm_drew | refine pm_farN ?_ (by assumption) _)); exact HM.out)); intro w55 hb m0h_; clear HM; have HM := aM m0h_; clear m0h_; have _ := aM (Kd.R_below (by (with_reducible repeat (first | apply Kd.R_alloc | apply Kd.R_drewN | apply Kd.R_drew)); exact (Kd.R_mono (Kd.R_far (p := ⟨gb423, 1, none⟩) (Kd.R_far (p := ⟨gb423, 0, none⟩) (Kd.R_types HO_6.out BK423.out (by decide)) (fun _ hk => hk.2) (.int .i64 ((rd_T82 t419 x66_4).f0))) (fun _ hk => hk.2) (.int .i64 ((rd_T82 t419 x66_4).f1))) (fun _ h_ => h_.1))) hb); have _ := aM (Kd.R_below (by (with_reducible repeat (first | apply Kd.R_alloc | apply Kd.R_drewN | apply Kd.R_drew)); exact (Kd.R_mono (Kd.R_far (p := ⟨gb423, 1, none⟩) (Kd.R_far (p := ⟨gb423, 0, none⟩) (Kd.R_types HO_10.out BK423.out (by decide)) (fun _ hk => hk.2) (.int .i64 ((rd_T82 t419 x66_4).f0))) (fun _ hk => hk.2) (.int .i64 ((rd_T82 t419 x66_4).f1))) (fun _ h_ => h_.1))) hb); have _ := aM (Kd.R_below (by (with_reducible repeat (first | apply Kd.R_alloc | apply Kd.R_drewN | apply Kd.R_drew)); exact (Kd.R_mono (Kd.R_far (p := ⟨gb423, 1, none⟩) (Kd.R_far (p := ⟨gb423, 0, none⟩) (Kd.R_mono HO_64.out (fun k_ hk => (⟨hk, hk.2⟩ : _ ∧ k_ ≠ gb423))) (fun _ hk => hk.2) (.int .i64 ((rd_T82 t419 x66_4).f0))) (fun _ hk => hk.2) (.int .i64 ((rd_T82 t419 x66_4).f1))) (fun _ h_ => h_.1))) hb); have _ := aM (blk_below (g := gb423) (o := .cells #[.int .i64 ((rd_T82 t419 x66_4).f0), .int .i64 ((rd_T82 t419 x66_4).f1)] 82 (0, 0)) (by (with_reducible repeat (first | refine blk_drewN ?_ _ | refine blk_drew ?_ | refine blk_alloc ?_ _)); refine blk_put (cs := #[.int .i64 ((rd_T82 t419 x66_4).f0), .int .i64 0]) ?_ 1 _ rfl; (with_reducible repeat (first | refine blk_drewN ?_ _ | refine blk_drew ?_ | refine blk_alloc ?_ _)); refine blk_put (cs := #[.int .i64 0, .int .i64 0]) ?_ 0 _ rfl; (with_reducible repeat (first | refine blk_drewN ?_ _ | refine blk_drew ?_ | refine blk_alloc ?_ _)); exact BK423.out) hb); have _ := aM (below_step (zs GE423.out) hb); clear HO_6 HO_10 HO_64 BK423 HB; rename_i HO_6 HO_10 HO_64 BK423 HB; (try clear hb); (try clear hb2); (try clear hk); (try clear hi); have p426 : 0 ≤ (t424 : Int) := of_decide_eq_true za; have q426 : t424 < (x6_4.length : Int) := of_decide_eq_true za; obtain ⟨ad426, e426, hx426_0⟩ := Kd.at_int (Kd.R_reads' HO_6.out).2.2 t424 p426 q426; obtain rfl : (⟨go23, 0, none⟩ : Addr) = ad426 := (by injection e426); (first | simp only [add_plain] at hx426_0 | simp only [add_at] at hx426_0 | simp only [Addr.add, Nat.zero_add] at hx426_0 | skip); replace p426 := eq_true p426; replace q426 := eq_true q426))
          (try simp only [← hl6_4])
          go_roundg k4
          case measure => have := HK1.out; have := HK2.out; have := HK3.out; have := HK4.out; omega
          case rel => exact ⟨(x6_4), (x10_4), (wrap64 (x66_4 + 1)), zr, H', ⟨by have := HK1.out; have := HK2.out; have := HK3.out; have := HK4.out; omega⟩, ⟨by (try simp only [hl6_3]); (try simp only [hl6_4]); (with_reducible repeat (first | apply Kd.R_alloc | apply Kd.R_drewN | apply Kd.R_drew)); exact HO_6.out⟩, ⟨by (try simp only [hl6_3]); (try simp only [hl6_4]); (with_reducible repeat (first | apply Kd.R_alloc | apply Kd.R_drewN | apply Kd.R_drew)); exact HO_10.out⟩, ⟨by (try simp only [hl6_3]); (try simp only [hl6_4]); (with_reducible repeat (first | apply Kd.R_alloc | apply Kd.R_drewN | apply Kd.R_drew)); exact Kd.R_mono HO_64.out (fun _ hk => trivial)⟩, ⟨zs GE423.out⟩, ⟨(by (with_reducible repeat (first | apply pm_alloc | apply pm_drewN | apply pm_drew | refine pm_farN ?_ (by assumption) _)); exact HM.out)⟩⟩
         rw [if_pos c44] at H
         have c44b0 : decide ((rd x6_4 t424) < 0) = true := decide_eq_true c44
         clear c44
         obtain ⟨y427, hy427⟩ : ∃ y_ : List Int, y_ = (x6_4.set (t424 : Int).toNat x36_2) := ⟨_, rfl⟩
         replace H : (if x10_4.length < 17592186044416 then (impl_parts__impl_around.l3 k4 l0 y427 x36_2 (x10_4 ++ [t424]) x11_3 (l0.length : Int) x36_2 t419 (t419.length : Int) (wrap64 (x66_4 + 1))) else (none)) = some r := zy H hy427
         have Ny427 := aM hy427
         clear hy427
         by_cases c46 : x10_4.length < 17592186044416
         rotate_left
         ·rw [if_neg c46] at H
          exact absurd H (by simp)
         rw [if_pos c46] at H
         have LMc46 := aM c46
         clear c46
         obtain ⟨y428, hy428⟩ : ∃ y_ : List Int, y_ = (x10_4 ++ [t424]) := ⟨_, rfl⟩
         replace H : (impl_parts__impl_around.l3 k4 l0 y427 x36_2 y428 x11_3 (l0.length : Int) x36_2 t419 (t419.length : Int) (wrap64 (x66_4 + 1))) = some r := zy H hy428
         have Ny428 := aM hy428
         clear hy428
         have H' := aM H
         clear H
         have p422 : 0 ≤ (x66_4 : Int) := of_decide_eq_true za
         have q422 : x66_4 < (t419.length : Int) := of_decide_eq_true za
         obtain ⟨ad422, e422, hx422_0, hx422_1⟩ := at_T82 (Kd.R_reads' HO_64.out).2.2 x66_4 p422 q422
         cases e422
         replace p422 := eq_true p422
         replace q422 := eq_true q422
         go_wp2_with (first | ((with_reducible refine gate_dst (N := 13) rfl ?_); refine zx 13 #[.int .i64 0, .int .i64 0] 82 ?_; intro gb423 hg w47 hbox hb; have hne423 : bm ≠ gb423 := (by rw [hg]; exact Nat.ne_of_lt (pm_lt (by (with_reducible repeat (first | apply pm_alloc | apply pm_drewN | apply pm_drew | refine pm_farN ?_ (by assumption) _)); exact HM.out))); have m0_ := aM (pm_step (by (with_reducible repeat (first | apply pm_alloc | apply pm_drewN | apply pm_drew | refine pm_farN ?_ (by assumption) _)); exact HM.out) hb); clear HM; have HM := m0_; clear m0_; have _ := aM (Kd.R_below (mR_ HO_6.out) hb); have _ := aM (Kd.R_below (mR_ HO_10.out) hb); have _ := aM (Kd.R_below (Kd.R_elderB (mR_ HO_64.out) gb423 (Nat.le_of_eq hg.symm)) hb); have _ := aM (below_step zb hb); have _ := aM (hbox); have _ := aM ((ze : w.heap.size ≤ gb423)); have _ := aM ((ze : w.heap.size ≤ gb423)); clear HO_6 HO_10 HO_64 HB; rename_i HO_6 HO_10 HO_64 HB BK423 GW423 GE423; clear hb hbox hg; obtain ⟨hcz48_0, hcz48_1, hfz48_0, hfz48_1⟩ := zQ2 BK423.out) | ((with_reducible refine gate_dst (N := 73) rfl ?_); refine pm_look rfl _ _ rfl rfl ?hM _ _ rfl A40.out ?_; (case hM => exact (by (with_reducible repeat (first | apply pm_alloc | apply pm_drewN | apply pm_drew | refine pm_farN ?_ (by assumption) _)); exact HM.out)); intro w49 hb m0h_; clear HM; have HM := aM m0h_; clear m0h_; have _ := aM (Kd.R_below (by (with_reducible repeat (first | apply Kd.R_alloc | apply Kd.R_drewN | apply Kd.R_drew)); exact (Kd.R_mono (Kd.R_far (p := ⟨gb423, 1, none⟩) (Kd.R_far (p := ⟨gb423, 0, none⟩) (Kd.R_types HO_6.out BK423.out (by decide)) (fun _ hk => hk.2) (.int .i64 ((rd_T82 t419 x66_4).f0))) (fun _ hk => hk.2) (.int .i64 ((rd_T82 t419 x66_4).f1))) (fun _ h_ => h_.1))) hb); have _ := aM (Kd.R_below (by (with_reducible repeat (first | apply Kd.R_alloc | apply Kd.R_drewN | apply Kd.R_drew)); exact (Kd.R_mono (Kd.R_far (p := ⟨gb423, 1, none⟩) (Kd.R_far (p := ⟨gb423, 0, none⟩) (Kd.R_types HO_10.out BK423.out (by decide)) (fun _ hk => hk.2) (.int .i64 ((rd_T82 t419 x66_4).f0))) (fun _ hk => hk.2) (.int .i64 ((rd_T82 t419 x66_4).f1))) (fun _ h_ => h_.1))) hb); have _ := aM (Kd.R_below (by (with_reducible repeat (first | apply Kd.R_alloc | apply Kd.R_drewN | apply Kd.R_drew)); exact (Kd.R_mono (Kd.R_far (p := ⟨gb423, 1, none⟩) (Kd.R_far (p := ⟨gb423, 0, none⟩) (Kd.R_mono HO_64.out (fun k_ hk => (⟨hk, hk.2⟩ : _ ∧ k_ ≠ gb423))) (fun _ hk => hk.2) (.int .i64 ((rd_T82 t419 x66_4).f0))) (fun _ hk => hk.2) (.int .i64 ((rd_T82 t419 x66_4).f1))) (fun _ h_ => h_.1))) hb); have _ := aM (blk_below (g := gb423) (o := .cells #[.int .i64 ((rd_T82 t419 x66_4).f0), .int .i64 ((rd_T82 t419 x66_4).f1)] 82 (0, 0)) (by (with_reducible repeat (first | refine blk_drewN ?_ _ | refine blk_drew ?_ | refine blk_alloc ?_ _)); refine blk_put (cs := #[.int .i64 ((rd_T82 t419 x66_4).f0), .int .i64 0]) ?_ 1 _ rfl; (with_reducible repeat (first | refine blk_drewN ?_ _ | refine blk_drew ?_ | refine blk_alloc ?_ _)); refine blk_put (cs := #[.int .i64 0, .int .i64 0]) ?_ 0 _ rfl; (with_reducible repeat (first | refine blk_drewN ?_ _ | refine blk_drew ?_ | refine blk_alloc ?_ _)); exact BK423.out) hb); have _ := aM (below_step (zs GE423.out) hb); clear HO_6 HO_10 HO_64 BK423 HB; rename_i HO_6 HO_10 HO_64 BK423 HB; (try clear hb); (try clear hb2); (try clear hk); (try clear hi); have p426 : 0 ≤ (t424 : Int) := of_decide_eq_true za; have q426 : t424 < (x6_4.length : Int) := of_decide_eq_true za; obtain ⟨ad426, e426, hx426_0⟩ := Kd.at_int (Kd.R_reads' HO_6.out).2.2 t424 p426 q426; obtain rfl : (⟨go23, 0, none⟩ : Addr) = ad426 := (by injection e426); (first | simp only [add_plain] at hx426_0 | simp only [add_at] at hx426_0 | simp only [Addr.add, Nat.zero_add] at hx426_0 | skip); replace p426 := eq_true p426; replace q426 := eq_true q426; have p45 : 0 ≤ (t424 : Int) := of_decide_eq_true za; have q45 : (t424 : Int) < ((x6_4.length : Int) : Int) := of_decide_eq_true za; obtain ⟨hx45_0, hf45_0⟩ := Kd.R_celln 0 HO_6.out (t424 : Int) p45 q45; replace p45 := eq_true p45; replace q45 := eq_true q45; obtain ⟨hy50_, hz50_⟩ := Kd.R_celln 0 HO_6.out (t424 : Int) (of_decide_eq_true za) (of_decide_eq_true za); have HP50 := Kd.R_putg HO_6.out (t424 : Int) x36_2) | ((with_reducible refine gate_store (t := 2) (p := 87) rfl ?_); refine store_event (t := 2) (p := 87) (v := ?vo_w51) (w1 := (w49.setCell ⟨go23, (t424 : Int).toNat, none⟩ (.int .i64 x36_2))) ?hg ?ho ?hn ?hr ?_; (case ho => rfl); (case hg => rfl); (case hn => rfl); (case hr => first | (go_simp; done) | (go_simp; rfl)); intro w51 hw; have hg : w49.grownBy w51 (some go23) := (by rw [hw]; exact HP50.2); have m0_ := aM (pm_kept (row := some go23) HM.out hg (pm_row HM.out HO_6.out)); clear HM; have HM := m0_; clear m0_; have hp_ : Kd.R (Kd.int .i64) 2 w51 w.heap.size (fun _ => True) (.slice (some ⟨go23, 0, none⟩) x6_4.length co24) y427 := (by rw [hw, Ny427.out]; exact HP50.1); clear HP50; have _ := aM (hp_); have _ := aM (Kd.R_over' (v := (.slice (some ⟨go23, 0, none⟩) x6_4.length co24)) (mR_ HO_10.out) (Kd.R_typed HO_6.out) (by decide) hg); have _ := aM (Kd.R_over' (v := (.slice (some ⟨go23, 0, none⟩) x6_4.length co24)) (mR_ HO_64.out) (Kd.R_typed HO_6.out) (by decide) hg); have _ := aM (blk_grown (g := gb423) (o := .cells #[.int .i64 ((rd_T82 t419 x66_4).f0), .int .i64 ((rd_T82 t419 x66_4).f1)] 82 (0, 0)) (mB_ BK423.out) hg (Kd.R_ne HO_6.out BK423.out (by decide))); have _ := aM ((by rw [hw]; exact below_set (HB.out) GB23.out : Below w.heap.size w w51)); clear HO_6 HO_10 HO_64 BK423 HB; rename_i HO_6 HO_10 HO_64 BK423 HB; clear hg hw hp_) | ((with_reducible refine gate_builtin (b := .append) (xs := #[.tmp 88, .tmp 90]) rfl ?_); at_builtin; refine Kd.R_append (Kd.int .i64) (w0 := w) w.heap.size rfl (.tmp 88) (.tmp 90) 161 3 (.int .i64 0) 8 rfl Tryz.underlying161 info3 rfl (by decide) (by omega) u10 x10_4 t424 [.int .i64 t424] (fun _ => True) (fun _ => False) rfl rfl ?aP (fun _ hk => hk.elim) ?aF ?aO ?aB ?aS ?aL ?_; (case aP => exact rfl); (case aB => exact (zs GE423.out)); (case aF => exact (fun _ _ => trivial)); (case aO => exact (mR_ HO_10.out)); (case aS => exact (below_size (zs GE423.out))); (case aL => have := LMc46.out; omega); intro v429 w52 ho hb hg hat; have m0_ := aM (pm_append (by (with_reducible repeat (first | apply pm_alloc | apply pm_drewN | apply pm_drew | refine pm_farN ?_ (by assumption) _)); exact HM.out) (mR_ HO_10.out) hg); clear HM; have HM := m0_; clear m0_; rw [← Ny428.out] at ho; have _ := aM (Kd.R_over' (mR_ HO_6.out) (Kd.R_typed (mR_ HO_10.out)) (by decide) hg); have _ := aM (Kd.R_over' (mR_ HO_64.out) (Kd.R_typed (mR_ HO_10.out)) (by decide) hg); have _ := aM (blk_grown (g := gb423) (o := .cells #[.int .i64 ((rd_T82 t419 x66_4).f0), .int .i64 ((rd_T82 t419 x66_4).f1)] 82 (0, 0)) (mB_ BK423.out) hg (Kd.R_ne HO_10.out BK423.out (by decide))); have _ := aM (hb); have _ := aM (ho); clear HO_6 HO_64 BK423 HB HO_10; rename_i HO_6 HO_64 BK423 HB HO430; clear ho hb hg hat))
         (try simp only [← hl6_4])
         go_roundg k4
         case measure => have := HK1.out; have := HK2.out; have := HK3.out; have := HK4.out; omega
         case rel => exact ⟨(y427), (y428), (wrap64 (x66_4 + 1)), zr, H', ⟨by have := HK1.out; have := HK2.out; have := HK3.out; have := HK4.out; omega⟩, ⟨by (try simp only [hl6_3]); (try simp only [hl6_4]); (with_reducible repeat (first | apply Kd.R_alloc | apply Kd.R_drewN | apply Kd.R_drew)); exact HO_6.out⟩, ⟨by (try simp only [hl6_3]); (try simp only [hl6_4]); (with_reducible repeat (first | apply Kd.R_alloc | apply Kd.R_drewN | apply Kd.R_drew)); exact HO430.out⟩, ⟨by (try simp only [hl6_3]); (try simp only [hl6_4]); (with_reducible repeat (first | apply Kd.R_alloc | apply Kd.R_drewN | apply Kd.R_drew)); exact Kd.R_mono HO_64.out (fun _ hk => trivial)⟩, ⟨zs GE423.out⟩, ⟨(by (with_reducible repeat (first | apply pm_alloc | apply pm_drewN | apply pm_drew | refine pm_farN ?_ (by assumption) _)); exact HM.out)⟩⟩
def impl_connected__impl_around.f (k : Nat) (l0 : List (S82))  : Option (Bool) := (impl_parts__impl_around.f k l0).bind fun t431 => ((slices_Max_int64_int64.f k t431).bind fun t434 => (some (t434 == 0)))
theorem impl_connected__impl_around.calls (k : Nat) (A0 : Option Addr) (c0 : Nat) (l0 : List (S82))  (r : Bool) (w : World) (hr0 : Kd.C k82 w A0 l0.length l0) (hc0 : l0.length ≤ c0) (h : impl_connected__impl_around.f k l0 = some r) :
  Calls Tryz.prog 75 #[.slice A0 l0.length c0, .func (.func 76) #[] #[]] w fun e w' => e = .returned (.bool r) ∧ Below w.heap.size w w' := by
 have HR0 := aM hr0
 have HC0 := aM hc0
 clear hr0 hc0
 have HB := aM (Below.refl w.heap.size w)
 have H : ((impl_parts__impl_around.f k l0).bind fun t431 => ((slices_Max_int64_int64.f k t431).bind fun t434 => (some (t434 == 0)))) = some r := h
 clear h
 replace H := Option.bind_eq_some_iff.mp H
 obtain ⟨t431, A30, H⟩ := H
 replace H : ((slices_Max_int64_int64.f k t431).bind fun t434 => (some (t434 == 0))) = some r := H
 have A3 := aM A30
 clear A30
 replace H := Option.bind_eq_some_iff.mp H
 obtain ⟨t434, A40, H⟩ := H
 replace H : (some (t434 == 0)) = some r := H
 have A4 := aM A40
 clear A40
 obtain rfl := Option.some.inj H
 go_enter Tryz.func75, Tryz.ntmps75
 go_wp2_with (first | ((with_reducible refine gate_callee (f := 111) rfl ?_); refine goesL_ (some 7) rfl rfl Tryz.func111 (by kernel_rfl) rfl #[.slice A0 l0.length c0, .func (.func 76) #[] #[]] rfl zm ?_; (with_reducible refine (impl_parts__impl_around.calls k _ _ l0  t431 _ ?side1 ?side2 A3.out).mono ?_); (case side1 => repeat (first | exact HR0.out | (with_reducible refine Kd.C_alloc ?_ _) | (with_reducible refine Kd.C_drewN ?_ _) | (with_reducible refine Kd.C_drew ?_))); (case side2 => exact HC0.out); rintro e w5 ⟨v432, rfl, ho0, hb⟩; refine ⟨_, rfl, ?_⟩; have _ := aM (Kd.R_lower ho0 (below_size zb)); have _ := aM (below_step zb hb); clear HB; rename_i HO433 HB; (try clear hb); (try clear hb2); (try clear hk); (try clear hi); (try clear ho0); obtain ⟨Ao6, co6, eo6⟩ := Kd.R_slice HO433.out; subst eo6) | ((with_reducible refine gate_callee (f := 110) rfl ?_); refine goesL_ (some 8) rfl rfl Tryz.func110 (by kernel_rfl) rfl #[.slice Ao6 t431.length co6] rfl zm ?_; (with_reducible refine (slices_Max_int64_int64.calls k _ _ t431 t434 _ ?side1 ?side2 A4.out).mono ?_); (case side1 => exact zc HO433.out); (case side2 => exact (Kd.R_reads' HO433.out).2.1); rintro e w7 ⟨rfl, hb⟩; refine ⟨_, rfl, ?_⟩; have _ := aM (Kd.R_below (mR_ HO433.out) hb); have _ := aM (below_step zb hb); clear HO433 HB; rename_i HO433 HB; (try clear hb); (try clear hb2); (try clear hk); (try clear hi)))
 go_ret
 exact ⟨zw, zb⟩
def impl_IsPiece.f (k : Nat) (l0_0 : List (S82)) (a0_1 : Int) (a0_2 : Bool) : Option (Bool) := (impl_IsRegion.f k l0_0).bind fun t436 => (if t436 = true then ((impl_connected__impl_around.f k l0_0).bind fun t437 => (if t437 = true then ((impl_within.f a0_1 1 8).bind fun t438 => (some t438)) else (some false))) else (some false))
theorem impl_IsPiece.calls (k : Nat) (A0_0 : Option Addr) (c0_0 : Nat) (l0_0 : List (S82)) (a0_1 : Int) (a0_2 : Bool) (r : Bool) (w : World) (hr0_0 : Kd.C k82 w A0_0 l0_0.length l0_0) (hc0_0 : l0_0.length ≤ c0_0) (h : impl_IsPiece.f k l0_0 a0_1 a0_2 = some r) :
  Calls Tryz.prog 50 #[.agg #[.slice A0_0 l0_0.length c0_0, .int .i64 a0_1, .bool a0_2]] w fun e w' => e = .returned (.bool r) ∧ Below w.heap.size w w' := by
 have hu50 := Tryz.underlying50
 have HR0_0 := aM hr0_0
 have HC0_0 := aM hc0_0
 clear hr0_0 hc0_0
 have HB := aM (Below.refl w.heap.size w)
 have H : ((impl_IsRegion.f k l0_0).bind fun t436 => (if t436 = true then ((impl_connected__impl_around.f k l0_0).bind fun t437 => (if t437 = true then ((impl_within.f a0_1 1 8).bind fun t438 => (some t438)) else (some false))) else (some false))) = some r := h
 clear h
 replace H := Option.bind_eq_some_iff.mp H
 obtain ⟨t436, A20, H⟩ := H
 replace H : (if t436 = true then ((impl_connected__impl_around.f k l0_0).bind fun t437 => (if t437 = true then ((impl_within.f a0_1 1 8).bind fun t438 => (some t438)) else (some false))) else (some false)) = some r := H
 have A2 := aM A20
 clear A20
 by_cases c3 : t436 = true
 rotate_left
 ·replace c3 := Bool.eq_false_iff.mpr c3
  subst c3
  have H1 : (some false) = some r := by rw [if_neg (show ¬ (false = true) by decide)] at H; exact H
  clear H
  have H := H1
  clear H1
  obtain rfl := Option.some.inj H
  go_enter Tryz.func50, Tryz.ntmps50
  go_wp2_with (first | ((with_reducible refine gate_dst (N := 1) rfl ?_); refine zx 1 #[.slice A0_0 l0_0.length c0_0, .int .i64 a0_1, .bool a0_2] 50 ?_; intro gb435 hg w18 hbox hb; have _ := aM (below_step zb hb); have _ := aM (hbox); have _ := aM ((ze : w.heap.size ≤ gb435)); have _ := aM ((ze : w.heap.size ≤ gb435)); clear HB; rename_i HB BK435 GW435 GE435; clear hb hbox hg; obtain ⟨hcz19_0, hcz19_1, hcz19_2, hfz19_0, hfz19_1, hfz19_2⟩ := zQ3 BK435.out) | ((with_reducible refine gate_callee (f := 49) rfl ?_); refine goesL_ (some 5) rfl rfl Tryz.func49 (by kernel_rfl) rfl #[.slice A0_0 l0_0.length c0_0] rfl zm ?_; (with_reducible refine (impl_IsRegion.calls k _ _ l0_0 false _ ?side1 ?side2 A2.out).mono ?_); (case side1 => repeat (first | exact (Kd.C_below HR0_0.out HB.out) | (with_reducible refine Kd.C_alloc ?_ _) | (with_reducible refine Kd.C_drewN ?_ _) | (with_reducible refine Kd.C_drew ?_))); (case side2 => exact HC0_0.out); rintro e w20 ⟨rfl, hb⟩; refine ⟨_, rfl, ?_⟩; have _ := aM (blk_below (g := gb435) (o := .cells #[.slice A0_0 l0_0.length c0_0, .int .i64 a0_1, .bool a0_2] 50 (0, 0)) (mB_ BK435.out) hb); have _ := aM (below_step (zs GE435.out) hb); clear BK435 HB; rename_i BK435 HB; (try clear hb); (try clear hb2); (try clear hk); (try clear hi)))
  go_ret
  exact ⟨zw, zs GE435.out⟩
 subst c3
 have H1 : ((impl_connected__impl_around.f k l0_0).bind fun t437 => (if t437 = true then ((impl_within.f a0_1 1 8).bind fun t438 => (some t438)) else (some false))) = some r := by rw [if_pos rfl] at H; exact H
 clear H
 have H := H1
 clear H1
 replace H := Option.bind_eq_some_iff.mp H
 obtain ⟨t437, A40, H⟩ := H
 replace H : (if t437 = true then ((impl_within.f a0_1 1 8).bind fun t438 => (some t438)) else (some false)) = some r := H
 have A4 := aM A40
 clear A40
 by_cases c5 : t437 = true
 rotate_left
 ·replace c5 := Bool.eq_false_iff.mpr c5
  subst c5
  have H1 : (some false) = some r := by rw [if_neg (show ¬ (false = true) by decide)] at H; exact H
  clear H
  have H := H1
  clear H1
  obtain rfl := Option.some.inj H
  go_enter Tryz.func50, Tryz.ntmps50
  go_wp2_with (first | ((with_reducible refine gate_dst (N := 1) rfl ?_); refine zx 1 #[.slice A0_0 l0_0.length c0_0, .int .i64 a0_1, .bool a0_2] 50 ?_; intro gb435 hg w13 hbox hb; have _ := aM (below_step zb hb); have _ := aM (hbox); have _ := aM ((ze : w.heap.size ≤ gb435)); have _ := aM ((ze : w.heap.size ≤ gb435)); clear HB; rename_i HB BK435 GW435 GE435; clear hb hbox hg; obtain ⟨hcz14_0, hcz14_1, hcz14_2, hfz14_0, hfz14_1, hfz14_2⟩ := zQ3 BK435.out) | ((with_reducible refine gate_callee (f := 49) rfl ?_); refine goesL_ (some 5) rfl rfl Tryz.func49 (by kernel_rfl) rfl #[.slice A0_0 l0_0.length c0_0] rfl zm ?_; (with_reducible refine (impl_IsRegion.calls k _ _ l0_0 true _ ?side1 ?side2 A2.out).mono ?_); (case side1 => repeat (first | exact (Kd.C_below HR0_0.out HB.out) | (with_reducible refine Kd.C_alloc ?_ _) | (with_reducible refine Kd.C_drewN ?_ _) | (with_reducible refine Kd.C_drew ?_))); (case side2 => exact HC0_0.out); rintro e w15 ⟨rfl, hb⟩; refine ⟨_, rfl, ?_⟩; have _ := aM (blk_below (g := gb435) (o := .cells #[.slice A0_0 l0_0.length c0_0, .int .i64 a0_1, .bool a0_2] 50 (0, 0)) (mB_ BK435.out) hb); have _ := aM (below_step (zs GE435.out) hb); clear BK435 HB; rename_i BK435 HB; (try clear hb); (try clear hb2); (try clear hk); (try clear hi); obtain ⟨hcz16_0, hcz16_1, hcz16_2, hfz16_0, hfz16_1, hfz16_2⟩ := zQ3 BK435.out) | (go_at_call 75; (with_reducible refine (impl_connected__impl_around.calls k _ _ l0_0  false _ ?side1 ?side2 A4.out).mono ?_); (case side1 => repeat (first | exact (Kd.C_below HR0_0.out HB.out) | (with_reducible refine Kd.C_alloc ?_ _) | (with_reducible refine Kd.C_drewN ?_ _) | (with_reducible refine Kd.C_drew ?_))); (case side2 => exact HC0_0.out); rintro e w17 ⟨rfl, hb⟩; have _ := aM (blk_below (g := gb435) (o := .cells #[.slice A0_0 l0_0.length c0_0, .int .i64 a0_1, .bool a0_2] 50 (0, 0)) (mB_ BK435.out) hb); have _ := aM (below_step (zs GE435.out) hb); clear BK435 HB; rename_i BK435 HB; (try clear hb); (try clear hb2); (try clear hk); (try clear hi)))
  go_ret
  exact ⟨zw, zs GE435.out⟩
 subst c5
 have H1 : ((impl_within.f a0_1 1 8).bind fun t438 => (some t438)) = some r := by rw [if_pos rfl] at H; exact H
 clear H
 have H := H1
 clear H1
 replace H := Option.bind_eq_some_iff.mp H
 obtain ⟨t438, A60, H⟩ := H
 replace H : (some t438) = some r := H
 have A6 := aM A60
 clear A60
 obtain rfl := Option.some.inj H
 go_enter Tryz.func50, Tryz.ntmps50
 go_wp2_with (first | ((with_reducible refine gate_dst (N := 1) rfl ?_); refine zx 1 #[.slice A0_0 l0_0.length c0_0, .int .i64 a0_1, .bool a0_2] 50 ?_; intro gb435 hg w7 hbox hb; have _ := aM (below_step zb hb); have _ := aM (hbox); have _ := aM ((ze : w.heap.size ≤ gb435)); have _ := aM ((ze : w.heap.size ≤ gb435)); clear HB; rename_i HB BK435 GW435 GE435; clear hb hbox hg; obtain ⟨hcz8_0, hcz8_1, hcz8_2, hfz8_0, hfz8_1, hfz8_2⟩ := zQ3 BK435.out) | ((with_reducible refine gate_callee (f := 49) rfl ?_); refine goesL_ (some 5) rfl rfl Tryz.func49 (by kernel_rfl) rfl #[.slice A0_0 l0_0.length c0_0] rfl zm ?_; (with_reducible refine (impl_IsRegion.calls k _ _ l0_0 true _ ?side1 ?side2 A2.out).mono ?_); (case side1 => repeat (first | exact (Kd.C_below HR0_0.out HB.out) | (with_reducible refine Kd.C_alloc ?_ _) | (with_reducible refine Kd.C_drewN ?_ _) | (with_reducible refine Kd.C_drew ?_))); (case side2 => exact HC0_0.out); rintro e w9 ⟨rfl, hb⟩; refine ⟨_, rfl, ?_⟩; have _ := aM (blk_below (g := gb435) (o := .cells #[.slice A0_0 l0_0.length c0_0, .int .i64 a0_1, .bool a0_2] 50 (0, 0)) (mB_ BK435.out) hb); have _ := aM (below_step (zs GE435.out) hb); clear BK435 HB; rename_i BK435 HB; (try clear hb); (try clear hb2); (try clear hk); (try clear hi); obtain ⟨hcz10_0, hcz10_1, hcz10_2, hfz10_0, hfz10_1, hfz10_2⟩ := zQ3 BK435.out) | (go_at_call 75; (with_reducible refine (impl_connected__impl_around.calls k _ _ l0_0  true _ ?side1 ?side2 A4.out).mono ?_); (case side1 => repeat (first | exact (Kd.C_below HR0_0.out HB.out) | (with_reducible refine Kd.C_alloc ?_ _) | (with_reducible refine Kd.C_drewN ?_ _) | (with_reducible refine Kd.C_drew ?_))); (case side2 => exact HC0_0.out); rintro e w11 ⟨rfl, hb⟩; have _ := aM (blk_below (g := gb435) (o := .cells #[.slice A0_0 l0_0.length c0_0, .int .i64 a0_1, .bool a0_2] 50 (0, 0)) (mB_ BK435.out) hb); have _ := aM (below_step (zs GE435.out) hb); clear BK435 HB; rename_i BK435 HB; (try clear hb); (try clear hb2); (try clear hk); (try clear hi); obtain ⟨hcz12_0, hcz12_1, hcz12_2, hfz12_0, hfz12_1, hfz12_2⟩ := zQ3 BK435.out) | (go_at_call 77; (with_reducible refine (impl_within.calls a0_1 1 8 t438 _ A6.out).mono ?_); rintro e w' ⟨rfl, ⟨nd, rfl⟩⟩))
 go_ret
 exact ⟨zw, zs GE435.out⟩
def impl_Cell_165__impl_compareCells.l0 : Nat → List (S82) → List (S82) → List (S82) → Int → Int → Option (Int)
 | 0, _, _, _, _, _ => none
 | k + 1, x0, x1, x11, x12, x13 => if x13 < x12 then (if 0 ≤ x13 then (if x13 < (x11.length : Int) then (if x13 ≥ (x1.length : Int) then (some 1) else (if x13 < (x1.length : Int) then ((impl_compareCells.f ((rd_T82 x11 x13).f0) ((rd_T82 x11 x13).f1) ((rd_T82 x1 x13).f0) ((rd_T82 x1 x13).f1)).bind fun t443 => (if t443 = 0 then (impl_Cell_165__impl_compareCells.l0 k x0 x1 x11 x12 (wrap64 (x13 + 1))) else (some t443))) else (none))) else (none)) else (none)) else (if (x0.length : Int) < (x1.length : Int) then (some (-1)) else (some 0))
def impl_Cell_165__impl_compareCells.f (k : Nat) (l0 : List (S82)) (l1 : List (S82))  : Option (Int) := impl_Cell_165__impl_compareCells.l0 k l0 l1 l0 (l0.length : Int) 0
end Go.Proofs.YtipafadbhmngnaaGreatDoor.F
end
section
namespace Go.Proofs.YtipafadbhmngnaaGreatDoor.F
open Go.RowKit Go.Proofs.YtipafadbhmngnaaGreatDoorW.PrintWords Go.Proofs.YtipafadbhmngnaaGreatDoorW.PrintLast Go.Proofs.YtipafadbhmngnaaGreatDoorW.PrintMore
attribute [local go_sem] max2_int min2_int max_two min_two max_three min_three max_four min_four
set_option linter.unusedVariables false
set_option linter.unusedSimpArgs false
theorem impl_Cell_165__impl_compareCells.callsG (k : Nat) (A0 : Option Addr) (c0 : Nat) (l0 : List (S82)) (A1 : Option Addr) (c1 : Nat) (l1 : List (S82))  (r : Int) (w : World) (hr0 : Kd.C k82 w A0 l0.length l0) (hc0 : l0.length ≤ c0) (hr1 : Kd.C k82 w A1 l1.length l1) (hc1 : l1.length ≤ c1) (h : impl_Cell_165__impl_compareCells.f k l0 l1 = some r) :
  Calls Tryz.prog 165 #[.slice A0 l0.length c0, .slice A1 l1.length c1, .func (.func 98) #[] #[]] w fun e w' => e = .returned (.int .i64 r) ∧ BelG w.heap.size w w' := by
 have hu82 := Tryz.underlying82
 have HR0 := aM hr0
 have HC0 := aM hc0
 clear hr0 hc0
 have HR1 := aM hr1
 have HC1 := aM hc1
 clear hr1 hc1
 have HB := aM (BelG.refl w.heap.size w)
 have H : (impl_Cell_165__impl_compareCells.l0 k l0 l1 l0 (l0.length : Int) 0) = some r := h
 clear h
 have H' := aM H
 clear H
 go_enter Tryz.func165, Tryz.ntmps165
 go_wp2
 go_loopg [13] k (fun kq v13 w' => ∃ (x13_1 : Int), v13 = .int .i64 x13_1 ∧ Aside0 (impl_Cell_165__impl_compareCells.l0 kq l0 l1 l0 (l0.length : Int) x13_1 = some r) ∧ Aside0 (kq ≤ k) ∧ Aside0 (BelG w.heap.size w w'))
 case atStart => exact ⟨(0), zr, H', ⟨Nat.le_refl _⟩, ⟨zg⟩⟩
 case round =>
  clear H'
  try clear c1
  try clear p2
  obtain ⟨x13_1, rfl, HA, HK1, HB⟩ := hrel
  cases gk with
  | zero => exact absurd HA.out (by simp [impl_Cell_165__impl_compareCells.l0])
  | succ k1 =>
   have H := HA.out
   clear HA
   simp only [impl_Cell_165__impl_compareCells.l0] at H
   by_cases c4 : x13_1 < (l0.length : Int)
   rotate_left
   ·rw [if_neg c4] at H
    have c4b0 : decide (x13_1 < (l0.length : Int)) = false := decide_eq_false c4
    clear c4
    by_cases c27 : (l0.length : Int) < (l1.length : Int)
    ·rw [if_pos c27] at H
     have c27b0 : decide ((l0.length : Int) < (l1.length : Int)) = true := decide_eq_true c27
     have c27b1 : decide (l0.length < l1.length) = true := decide_eq_true (Int.ofNat_lt.mp c27)
     clear c27
     obtain rfl := Option.some.inj H
     go_wp2
     go_ret
     exact ⟨zw, zg⟩
    rw [if_neg c27] at H
    have c27b0 : decide ((l0.length : Int) < (l1.length : Int)) = false := decide_eq_false c27
    have c27b1 : decide (l0.length < l1.length) = false := decide_eq_false (fun h => c27 (Int.ofNat_lt.mpr h))
    clear c27
    obtain rfl := Option.some.inj H
    go_wp2
    go_ret
    exact ⟨zw, zg⟩
   rw [if_pos c4] at H
   have c4b0 : decide (x13_1 < (l0.length : Int)) = true := decide_eq_true c4
   clear c4
   by_cases c5 : 0 ≤ x13_1
   rotate_left
   ·rw [if_neg c5] at H
    exact absurd H (by simp)
   rw [if_pos c5] at H
   have c5b0 : decide (0 ≤ x13_1) = true := decide_eq_true c5
   clear c5
   by_cases c6 : x13_1 < (l0.length : Int)
   rotate_left
   ·rw [if_neg c6] at H
    exact absurd H (by simp)
   rw [if_pos c6] at H
   have c6b0 : decide (x13_1 < (l0.length : Int)) = true := decide_eq_true c6
   clear c6
   by_cases c7 : x13_1 ≥ (l1.length : Int)
   ·rw [if_pos c7] at H
    have c7b0 : decide ((l1.length : Int) ≤ x13_1) = true := decide_eq_true c7
    clear c7
    obtain rfl := Option.some.inj H
    have p439 : 0 ≤ (x13_1 : Int) := of_decide_eq_true za
    have q439 : x13_1 < (l0.length : Int) := of_decide_eq_true za
    obtain ⟨ad439, e439, hx439_0, hx439_1⟩ := at_T82 HR0.out x13_1 p439 q439
    cases e439
    replace hx439_0 := (HB.out.cell (World.block_lt_of_cell? w _ hx439_0)).trans hx439_0
    replace hx439_1 := (HB.out.cell (World.block_lt_of_cell? w _ hx439_1)).trans hx439_1
    replace p439 := eq_true p439
    replace q439 := eq_true q439
    go_wp2_with (first | ((with_reducible refine gate_dst (N := 8) rfl ?_); refine box_eventD ?hg (N := 8) ?hd (cs := #[.int .i64 0, .int .i64 0]) (t := 82) ?hr ?_; (case hd => rfl); (case hg => rfl); (case hr => first | (go_simp; done) | (go_simp; rfl)); intro gb440 hg w8 hbox hb; have _ := aM (belG_step zg hb); have _ := aM (hbox); have _ := aM ((zi : w.heap.size ≤ gb440)); have _ := aM ((zi : w.heap.size ≤ gb440)); clear HB; rename_i HB BK440 GW440 GE440; clear hb hbox hg; obtain ⟨hcz9_0, hcz9_1, hfz9_0, hfz9_1⟩ := zQ2 BK440.out))
    go_ret
    exact ⟨zw, zh GE440.out⟩
   rw [if_neg c7] at H
   have c7b0 : decide ((l1.length : Int) ≤ x13_1) = false := decide_eq_false c7
   clear c7
   by_cases c10 : x13_1 < (l1.length : Int)
   rotate_left
   ·rw [if_neg c10] at H
    exact absurd H (by simp)
   rw [if_pos c10] at H
   have c10b0 : decide (x13_1 < (l1.length : Int)) = true := decide_eq_true c10
   clear c10
   replace H := Option.bind_eq_some_iff.mp H
   obtain ⟨t443, A110, H⟩ := H
   replace H : (if t443 = 0 then (impl_Cell_165__impl_compareCells.l0 k1 l0 l1 l0 (l0.length : Int) (wrap64 (x13_1 + 1))) else (some t443)) = some r := H
   have A11 := aM A110
   clear A110
   by_cases c12 : t443 = 0
   rotate_left
   ·rw [if_neg c12] at H
    have c12b0 : (t443 == 0) = false := beq_eq_false_iff_ne.mpr c12
    have c12b1 : (t443 != 0) = true := bne_iff_ne.mpr c12
    obtain rfl := Option.some.inj H
    have p439 : 0 ≤ (x13_1 : Int) := of_decide_eq_true za
    have q439 : x13_1 < (l0.length : Int) := of_decide_eq_true za
    obtain ⟨ad439, e439, hx439_0, hx439_1⟩ := at_T82 HR0.out x13_1 p439 q439
    cases e439
    replace hx439_0 := (HB.out.cell (World.block_lt_of_cell? w _ hx439_0)).trans hx439_0
    replace hx439_1 := (HB.out.cell (World.block_lt_of_cell? w _ hx439_1)).trans hx439_1
    replace p439 := eq_true p439
    replace q439 := eq_true q439
    go_wp2_with (first | ((with_reducible refine gate_dst (N := 8) rfl ?_); refine box_eventD ?hg (N := 8) ?hd (cs := #[.int .i64 0, .int .i64 0]) (t := 82) ?hr ?_; (case hd => rfl); (case hg => rfl); (case hr => first | (go_simp; done) | (go_simp; rfl)); intro gb440 hg w20 hbox hb; have _ := aM (belG_step zg hb); have _ := aM (hbox); have _ := aM ((zi : w.heap.size ≤ gb440)); have _ := aM ((zi : w.heap.size ≤ gb440)); clear HB; rename_i HB BK440 GW440 GE440; clear hb hbox hg; obtain ⟨hcz21_0, hcz21_1, hfz21_0, hfz21_1⟩ := zQ2 BK440.out; have p441 : 0 ≤ (x13_1 : Int) := of_decide_eq_true za; have q441 : x13_1 < (l1.length : Int) := of_decide_eq_true za; obtain ⟨ad441, e441, hx441_0, hx441_1⟩ := at_T82 HR1.out x13_1 p441 q441; cases e441; have hn441_0 : ad441.block ≠ gb440 := Nat.ne_of_lt (Nat.lt_of_lt_of_le (by have := World.block_lt_of_cell? _ _ hx441_0; first | rwa [add_block] at this | exact this) GW440.out); have hn441_1 : ad441.block ≠ gb440 := Nat.ne_of_lt (Nat.lt_of_lt_of_le (by have := World.block_lt_of_cell? _ _ hx441_0; first | rwa [add_block] at this | exact this) GW440.out); replace hx441_0 := (HB.out.cell (World.block_lt_of_cell? w _ hx441_0)).trans hx441_0; replace hx441_1 := (HB.out.cell (World.block_lt_of_cell? w _ hx441_1)).trans hx441_1; replace hx441_0 := (cell_far (p := ⟨gb440, 0, none⟩) (by first | (rw [add_block]; exact hn441_0) | (show (Addr.add _ _).block ≠ _; rw [add_block]; exact hn441_0) | exact hn441_0) (.int .i64 ((rd_T82 l0 x13_1).f0))).trans hx441_0; replace hx441_1 := (cell_far (p := ⟨gb440, 0, none⟩) (by first | (rw [add_block]; exact hn441_0) | (show (Addr.add _ _).block ≠ _; rw [add_block]; exact hn441_0) | exact hn441_0) (.int .i64 ((rd_T82 l0 x13_1).f0))).trans hx441_1; replace hx441_0 := (cell_far (p := ⟨gb440, 1, none⟩) (by first | (rw [add_block]; exact hn441_1) | (show (Addr.add _ _).block ≠ _; rw [add_block]; exact hn441_1) | exact hn441_1) (.int .i64 ((rd_T82 l0 x13_1).f1))).trans hx441_0; replace hx441_1 := (cell_far (p := ⟨gb440, 1, none⟩) (by first | (rw [add_block]; exact hn441_1) | (show (Addr.add _ _).block ≠ _; rw [add_block]; exact hn441_1) | exact hn441_1) (.int .i64 ((rd_T82 l0 x13_1).f1))).trans hx441_1; clear hn441_0 hn441_1; replace p441 := eq_true p441; replace q441 := eq_true q441) | ((with_reducible refine gate_dst (N := 9) rfl ?_); refine box_eventD ?hg (N := 9) ?hd (cs := #[.int .i64 0, .int .i64 0]) (t := 82) ?hr ?_; (case hd => rfl); (case hg => rfl); (case hr => first | (go_simp; done) | (go_simp; rfl)); intro gb442 hg w22 hbox hb; have _ := aM (blk_belG (g := gb440) (o := .cells #[.int .i64 ((rd_T82 l0 x13_1).f0), .int .i64 ((rd_T82 l0 x13_1).f1)] 82 (0, 0)) (by (with_reducible repeat (first | refine blk_drewN ?_ _ | refine blk_drew ?_ | refine blk_alloc ?_ _)); refine blk_put (cs := #[.int .i64 ((rd_T82 l0 x13_1).f0), .int .i64 0]) ?_ 1 _ rfl; (with_reducible repeat (first | refine blk_drewN ?_ _ | refine blk_drew ?_ | refine blk_alloc ?_ _)); refine blk_put (cs := #[.int .i64 0, .int .i64 0]) ?_ 0 _ rfl; (with_reducible repeat (first | refine blk_drewN ?_ _ | refine blk_drew ?_ | refine blk_alloc ?_ _)); exact BK440.out) hb); have _ := aM (belG_step (zh GE440.out) hb); have _ := aM (hbox); have _ := aM ((zj GE440.out : w.heap.size ≤ gb442)); have _ := aM ((zj GE440.out : w.heap.size ≤ gb442)); have _ := aM ((by rw [hg]; exact Nat.ne_of_lt (blk_lt (g := gb440) (o := .cells #[.int .i64 ((rd_T82 l0 x13_1).f0), .int .i64 ((rd_T82 l0 x13_1).f1)] 82 (0, 0)) (by (with_reducible repeat (first | refine blk_drewN ?_ _ | refine blk_drew ?_ | refine blk_alloc ?_ _)); refine blk_put (cs := #[.int .i64 ((rd_T82 l0 x13_1).f0), .int .i64 0]) ?_ 1 _ rfl; (with_reducible repeat (first | refine blk_drewN ?_ _ | refine blk_drew ?_ | refine blk_alloc ?_ _)); refine blk_put (cs := #[.int .i64 0, .int .i64 0]) ?_ 0 _ rfl; (with_reducible repeat (first | refine blk_drewN ?_ _ | refine blk_drew ?_ | refine blk_alloc ?_ _)); exact BK440.out)) : gb440 ≠ gb442)); have _ := aM ((by rw [hg]; exact Nat.ne_of_gt (blk_lt (g := gb440) (o := .cells #[.int .i64 ((rd_T82 l0 x13_1).f0), .int .i64 ((rd_T82 l0 x13_1).f1)] 82 (0, 0)) (by (with_reducible repeat (first | refine blk_drewN ?_ _ | refine blk_drew ?_ | refine blk_alloc ?_ _)); refine blk_put (cs := #[.int .i64 ((rd_T82 l0 x13_1).f0), .int .i64 0]) ?_ 1 _ rfl; (with_reducible repeat (first | refine blk_drewN ?_ _ | refine blk_drew ?_ | refine blk_alloc ?_ _)); refine blk_put (cs := #[.int .i64 0, .int .i64 0]) ?_ 0 _ rfl; (with_reducible repeat (first | refine blk_drewN ?_ _ | refine blk_drew ?_ | refine blk_alloc ?_ _)); exact BK440.out)) : gb442 ≠ gb440)); clear BK440 HB; rename_i BK440 HB BK442 GW442 GE442 NB440_442 NB442_440; clear hb hbox hg; have hnb23 := NB442_440.out; have hnc23 := NB440_442.out; obtain ⟨hcz24_0, hcz24_1, hfz24_0, hfz24_1⟩ := zQ2 BK442.out; obtain ⟨hcz25_0, hcz25_1, hfz25_0, hfz25_1⟩ := zQ2 BK440.out) | (go_at_call 98; (with_reducible refine (impl_compareCells.callsG ((rd_T82 l0 x13_1).f0) ((rd_T82 l0 x13_1).f1) ((rd_T82 l1 x13_1).f0) ((rd_T82 l1 x13_1).f1) t443 _ A11.out).mono ?_); rintro e w26 ⟨rfl, hb⟩; have _ := aM (blk_belG (g := gb440) (o := .cells #[.int .i64 ((rd_T82 l0 x13_1).f0), .int .i64 ((rd_T82 l0 x13_1).f1)] 82 (0, 0)) (by (with_reducible repeat (first | refine blk_drewN ?_ _ | refine blk_drew ?_ | refine blk_alloc ?_ _)); refine blk_far ?_ NB440_442.out _; (with_reducible repeat (first | refine blk_drewN ?_ _ | refine blk_drew ?_ | refine blk_alloc ?_ _)); refine blk_far ?_ NB440_442.out _; (with_reducible repeat (first | refine blk_drewN ?_ _ | refine blk_drew ?_ | refine blk_alloc ?_ _)); exact BK440.out) hb); have _ := aM (blk_belG (g := gb442) (o := .cells #[.int .i64 ((rd_T82 l1 x13_1).f0), .int .i64 ((rd_T82 l1 x13_1).f1)] 82 (0, 0)) (by (with_reducible repeat (first | refine blk_drewN ?_ _ | refine blk_drew ?_ | refine blk_alloc ?_ _)); refine blk_put (cs := #[.int .i64 ((rd_T82 l1 x13_1).f0), .int .i64 0]) ?_ 1 _ rfl; (with_reducible repeat (first | refine blk_drewN ?_ _ | refine blk_drew ?_ | refine blk_alloc ?_ _)); refine blk_put (cs := #[.int .i64 0, .int .i64 0]) ?_ 0 _ rfl; (with_reducible repeat (first | refine blk_drewN ?_ _ | refine blk_drew ?_ | refine blk_alloc ?_ _)); exact BK442.out) hb); have _ := aM (belG_step (by repeat (first | (with_reducible first | exact HB.out | apply belG_alloc | apply pw_belG_drewN | apply belG_drew1 | refine belG_set ?_ GE440.out | refine belG_set ?_ GE442.out) | exact HB.out)) hb); clear BK440 BK442 HB; rename_i BK440 BK442 HB; (try clear hb); (try clear hb2); (try clear hk); (try clear hi)))
    go_ret
    exact ⟨zw, by repeat (first | (with_reducible first | exact HB.out | apply belG_alloc | apply pw_belG_drewN | apply belG_drew1 | refine belG_set ?_ GE440.out | refine belG_set ?_ GE442.out) | exact HB.out)⟩
   rw [if_pos c12] at H
   have c12b0 : (t443 == 0) = true := beq_iff_eq.mpr c12
   have c12b1 : (t443 != 0) = false := bne_eq_false_iff_eq.mpr c12
   clear c12
   have H' := aM H
   clear H
   have p439 : 0 ≤ (x13_1 : Int) := of_decide_eq_true za
   have q439 : x13_1 < (l0.length : Int) := of_decide_eq_true za
   obtain ⟨ad439, e439, hx439_0, hx439_1⟩ := at_T82 HR0.out x13_1 p439 q439
   cases e439
   replace hx439_0 := (HB.out.cell (World.block_lt_of_cell? w _ hx439_0)).trans hx439_0
   replace hx439_1 := (HB.out.cell (World.block_lt_of_cell? w _ hx439_1)).trans hx439_1
   replace p439 := eq_true p439
   replace q439 := eq_true q439
   go_wp2_with (first | ((with_reducible refine gate_dst (N := 8) rfl ?_); refine box_eventD ?hg (N := 8) ?hd (cs := #[.int .i64 0, .int .i64 0]) (t := 82) ?hr ?_; (case hd => rfl); (case hg => rfl); (case hr => first | (go_simp; done) | (go_simp; rfl)); intro gb440 hg w13 hbox hb; have _ := aM (belG_step zg hb); have _ := aM (hbox); have _ := aM ((zi : w.heap.size ≤ gb440)); have _ := aM ((zi : w.heap.size ≤ gb440)); clear HB; rename_i HB BK440 GW440 GE440; clear hb hbox hg; obtain ⟨hcz14_0, hcz14_1, hfz14_0, hfz14_1⟩ := zQ2 BK440.out; have p441 : 0 ≤ (x13_1 : Int) := of_decide_eq_true za; have q441 : x13_1 < (l1.length : Int) := of_decide_eq_true za; obtain ⟨ad441, e441, hx441_0, hx441_1⟩ := at_T82 HR1.out x13_1 p441 q441; cases e441; have hn441_0 : ad441.block ≠ gb440 := Nat.ne_of_lt (Nat.lt_of_lt_of_le (by have := World.block_lt_of_cell? _ _ hx441_0; first | rwa [add_block] at this | exact this) GW440.out); have hn441_1 : ad441.block ≠ gb440 := Nat.ne_of_lt (Nat.lt_of_lt_of_le (by have := World.block_lt_of_cell? _ _ hx441_0; first | rwa [add_block] at this | exact this) GW440.out); replace hx441_0 := (HB.out.cell (World.block_lt_of_cell? w _ hx441_0)).trans hx441_0; replace hx441_1 := (HB.out.cell (World.block_lt_of_cell? w _ hx441_1)).trans hx441_1; replace hx441_0 := (cell_far (p := ⟨gb440, 0, none⟩) (by first | (rw [add_block]; exact hn441_0) | (show (Addr.add _ _).block ≠ _; rw [add_block]; exact hn441_0) | exact hn441_0) (.int .i64 ((rd_T82 l0 x13_1).f0))).trans hx441_0; replace hx441_1 := (cell_far (p := ⟨gb440, 0, none⟩) (by first | (rw [add_block]; exact hn441_0) | (show (Addr.add _ _).block ≠ _; rw [add_block]; exact hn441_0) | exact hn441_0) (.int .i64 ((rd_T82 l0 x13_1).f0))).trans hx441_1; replace hx441_0 := (cell_far (p := ⟨gb440, 1, none⟩) (by first | (rw [add_block]; exact hn441_1) | (show (Addr.add _ _).block ≠ _; rw [add_block]; exact hn441_1) | exact hn441_1) (.int .i64 ((rd_T82 l0 x13_1).f1))).trans hx441_0; replace hx441_1 := (cell_far (p := ⟨gb440, 1, none⟩) (by first | (rw [add_block]; exact hn441_1) | (show (Addr.add _ _).block ≠ _; rw [add_block]; exact hn441_1) | exact hn441_1) (.int .i64 ((rd_T82 l0 x13_1).f1))).trans hx441_1; clear hn441_0 hn441_1; replace p441 := eq_true p441; replace q441 := eq_true q441) | ((with_reducible refine gate_dst (N := 9) rfl ?_); refine box_eventD ?hg (N := 9) ?hd (cs := #[.int .i64 0, .int .i64 0]) (t := 82) ?hr ?_; (case hd => rfl); (case hg => rfl); (case hr => first | (go_simp; done) | (go_simp; rfl)); intro gb442 hg w15 hbox hb; have _ := aM (blk_belG (g := gb440) (o := .cells #[.int .i64 ((rd_T82 l0 x13_1).f0), .int .i64 ((rd_T82 l0 x13_1).f1)] 82 (0, 0)) (by (with_reducible repeat (first | refine blk_drewN ?_ _ | refine blk_drew ?_ | refine blk_alloc ?_ _)); refine blk_put (cs := #[.int .i64 ((rd_T82 l0 x13_1).f0), .int .i64 0]) ?_ 1 _ rfl; (with_reducible repeat (first | refine blk_drewN ?_ _ | refine blk_drew ?_ | refine blk_alloc ?_ _)); refine blk_put (cs := #[.int .i64 0, .int .i64 0]) ?_ 0 _ rfl; (with_reducible repeat (first | refine blk_drewN ?_ _ | refine blk_drew ?_ | refine blk_alloc ?_ _)); exact BK440.out) hb); have _ := aM (belG_step (zh GE440.out) hb); have _ := aM (hbox); have _ := aM ((zj GE440.out : w.heap.size ≤ gb442)); have _ := aM ((zj GE440.out : w.heap.size ≤ gb442)); have _ := aM ((by rw [hg]; exact Nat.ne_of_lt (blk_lt (g := gb440) (o := .cells #[.int .i64 ((rd_T82 l0 x13_1).f0), .int .i64 ((rd_T82 l0 x13_1).f1)] 82 (0, 0)) (by (with_reducible repeat (first | refine blk_drewN ?_ _ | refine blk_drew ?_ | refine blk_alloc ?_ _)); refine blk_put (cs := #[.int .i64 ((rd_T82 l0 x13_1).f0), .int .i64 0]) ?_ 1 _ rfl; (with_reducible repeat (first | refine blk_drewN ?_ _ | refine blk_drew ?_ | refine blk_alloc ?_ _)); refine blk_put (cs := #[.int .i64 0, .int .i64 0]) ?_ 0 _ rfl; (with_reducible repeat (first | refine blk_drewN ?_ _ | refine blk_drew ?_ | refine blk_alloc ?_ _)); exact BK440.out)) : gb440 ≠ gb442)); have _ := aM ((by rw [hg]; exact Nat.ne_of_gt (blk_lt (g := gb440) (o := .cells #[.int .i64 ((rd_T82 l0 x13_1).f0), .int .i64 ((rd_T82 l0 x13_1).f1)] 82 (0, 0)) (by (with_reducible repeat (first | refine blk_drewN ?_ _ | refine blk_drew ?_ | refine blk_alloc ?_ _)); refine blk_put (cs := #[.int .i64 ((rd_T82 l0 x13_1).f0), .int .i64 0]) ?_ 1 _ rfl; (with_reducible repeat (first | refine blk_drewN ?_ _ | refine blk_drew ?_ | refine blk_alloc ?_ _)); refine blk_put (cs := #[.int .i64 0, .int .i64 0]) ?_ 0 _ rfl; (with_reducible repeat (first | refine blk_drewN ?_ _ | refine blk_drew ?_ | refine blk_alloc ?_ _)); exact BK440.out)) : gb442 ≠ gb440)); clear BK440 HB; rename_i BK440 HB BK442 GW442 GE442 NB440_442 NB442_440; clear hb hbox hg; have hnb16 := NB442_440.out; have hnc16 := NB440_442.out; obtain ⟨hcz17_0, hcz17_1, hfz17_0, hfz17_1⟩ := zQ2 BK442.out; obtain ⟨hcz18_0, hcz18_1, hfz18_0, hfz18_1⟩ := zQ2 BK440.out) | (go_at_call 98; (with_reducible refine (impl_compareCells.callsG ((rd_T82 l0 x13_1).f0) ((rd_T82 l0 x13_1).f1) ((rd_T82 l1 x13_1).f0) ((rd_T82 l1 x13_1).f1) t443 _ A11.out).mono ?_); rintro e w19 ⟨rfl, hb⟩; have _ := aM (blk_belG (g := gb440) (o := .cells #[.int .i64 ((rd_T82 l0 x13_1).f0), .int .i64 ((rd_T82 l0 x13_1).f1)] 82 (0, 0)) (by (with_reducible repeat (first | refine blk_drewN ?_ _ | refine blk_drew ?_ | refine blk_alloc ?_ _)); refine blk_far ?_ NB440_442.out _; (with_reducible repeat (first | refine blk_drewN ?_ _ | refine blk_drew ?_ | refine blk_alloc ?_ _)); refine blk_far ?_ NB440_442.out _; (with_reducible repeat (first | refine blk_drewN ?_ _ | refine blk_drew ?_ | refine blk_alloc ?_ _)); exact BK440.out) hb); have _ := aM (blk_belG (g := gb442) (o := .cells #[.int .i64 ((rd_T82 l1 x13_1).f0), .int .i64 ((rd_T82 l1 x13_1).f1)] 82 (0, 0)) (by (with_reducible repeat (first | refine blk_drewN ?_ _ | refine blk_drew ?_ | refine blk_alloc ?_ _)); refine blk_put (cs := #[.int .i64 ((rd_T82 l1 x13_1).f0), .int .i64 0]) ?_ 1 _ rfl; (with_reducible repeat (first | refine blk_drewN ?_ _ | refine blk_drew ?_ | refine blk_alloc ?_ _)); refine blk_put (cs := #[.int .i64 0, .int .i64 0]) ?_ 0 _ rfl; (with_reducible repeat (first | refine blk_drewN ?_ _ | refine blk_drew ?_ | refine blk_alloc ?_ _)); exact BK442.out) hb); have _ := aM (belG_step (by repeat (first | (with_reducible first | exact HB.out | apply belG_alloc | apply pw_belG_drewN | apply belG_drew1 | refine belG_set ?_ GE440.out | refine belG_set ?_ GE442.out) | exact HB.out)) hb); clear BK440 BK442 HB; rename_i BK440 BK442 HB; (try clear hb); (try clear hb2); (try clear hk); (try clear hi)))
   go_roundg k1
   case measure => have := HK1.out; omega
   case rel => exact ⟨(wrap64 (x13_1 + 1)), zr, H', ⟨by have := HK1.out; omega⟩, ⟨by repeat (first | (with_reducible first | exact HB.out | apply belG_alloc | apply pw_belG_drewN | apply belG_drew1 | refine belG_set ?_ GE440.out | refine belG_set ?_ GE442.out) | exact HB.out)⟩⟩
def impl_compareShapes.f (k : Nat) (l0 : List (S82)) (l1 : List (S82)) : Option (Int) := if (l0.length : Int) = (l1.length : Int) then ((impl_Cell_165__impl_compareCells.f k l0 l1).bind fun t444 => (some t444)) else (if (l0.length : Int) < (l1.length : Int) then (some (-1)) else (some 1))
theorem impl_compareShapes.callsG (k : Nat) (A0 : Option Addr) (c0 : Nat) (l0 : List (S82)) (A1 : Option Addr) (c1 : Nat) (l1 : List (S82)) (r : Int) (w : World) (hr0 : Kd.C k82 w A0 l0.length l0) (hc0 : l0.length ≤ c0) (hr1 : Kd.C k82 w A1 l1.length l1) (hc1 : l1.length ≤ c1) (h : impl_compareShapes.f k l0 l1 = some r) :
  Calls Tryz.prog 143 #[.slice A0 l0.length c0, .slice A1 l1.length c1] w fun e w' => e = .returned (.int .i64 r) ∧ BelG w.heap.size w w' := by
 have HR0 := aM hr0
 have HC0 := aM hc0
 clear hr0 hc0
 have HR1 := aM hr1
 have HC1 := aM hc1
 clear hr1 hc1
 have HB := aM (BelG.refl w.heap.size w)
 have H : (if (l0.length : Int) = (l1.length : Int) then ((impl_Cell_165__impl_compareCells.f k l0 l1).bind fun t444 => (some t444)) else (if (l0.length : Int) < (l1.length : Int) then (some (-1)) else (some 1))) = some r := h
 clear h
 by_cases c3 : (l0.length : Int) = (l1.length : Int)
 ·rw [if_pos c3] at H
  have c3b0 : ((l0.length : Int) == (l1.length : Int)) = true := beq_iff_eq.mpr c3
  have c3b1 : ((l0.length : Int) != (l1.length : Int)) = false := bne_eq_false_iff_eq.mpr c3
  have c3b2 : (l0.length == l1.length) = true := by first | simpa using c3 | (simp at c3 ⊢; omega)
  clear c3
  replace H := Option.bind_eq_some_iff.mp H
  obtain ⟨t444, A40, H⟩ := H
  replace H : (some t444) = some r := H
  have A4 := aM A40
  clear A40
  obtain rfl := Option.some.inj H
  go_enter Tryz.func143, Tryz.ntmps143
  go_wp2_with (first | ((with_reducible refine gate_callee (f := 165) rfl ?_); refine goesL_ (some 17) rfl rfl Tryz.func165 (by kernel_rfl) rfl #[.slice A0 l0.length c0, .slice A1 l1.length c1, .func (.func 98) #[] #[]] rfl zm ?_; (with_reducible refine (impl_Cell_165__impl_compareCells.callsG k _ _ l0 _ _ l1  t444 _ ?side1 ?side2 ?side3 ?side4 A4.out).mono ?_); (case side1 => repeat (first | exact HR0.out | (with_reducible refine Kd.C_alloc ?_ _) | (with_reducible refine Kd.C_drewN ?_ _) | (with_reducible refine Kd.C_drew ?_))); (case side2 => exact HC0.out); (case side3 => repeat (first | exact HR1.out | (with_reducible refine Kd.C_alloc ?_ _) | (with_reducible refine Kd.C_drewN ?_ _) | (with_reducible refine Kd.C_drew ?_))); (case side4 => exact HC1.out); rintro e w5 ⟨rfl, hb⟩; refine ⟨_, rfl, ?_⟩; have _ := aM (belG_step zg hb); clear HB; rename_i HB; (try clear hb); (try clear hb2); (try clear hk); (try clear hi)))
  go_ret
  exact ⟨zw, zg⟩
 rw [if_neg c3] at H
 have c3b0 : ((l0.length : Int) == (l1.length : Int)) = false := beq_eq_false_iff_ne.mpr c3
 have c3b1 : ((l0.length : Int) != (l1.length : Int)) = true := bne_iff_ne.mpr c3
 have c3b2 : (l0.length == l1.length) = false := by first | simpa using c3 | (simp at c3 ⊢; omega)
 by_cases c6 : (l0.length : Int) < (l1.length : Int)
 ·rw [if_pos c6] at H
  have c6b0 : decide ((l0.length : Int) < (l1.length : Int)) = true := decide_eq_true c6
  have c6b1 : decide (l0.length < l1.length) = true := decide_eq_true (Int.ofNat_lt.mp c6)
  clear c6
  obtain rfl := Option.some.inj H
  go_enter Tryz.func143, Tryz.ntmps143
  go_wp2
  go_ret
  exact ⟨zw, zg⟩
 rw [if_neg c6] at H
 have c6b0 : decide ((l0.length : Int) < (l1.length : Int)) = false := decide_eq_false c6
 have c6b1 : decide (l0.length < l1.length) = false := decide_eq_false (fun h => c6 (Int.ofNat_lt.mpr h))
 clear c6
 obtain rfl := Option.some.inj H
 go_enter Tryz.func143, Tryz.ntmps143
 go_wp2
 go_ret
 exact ⟨zw, zg⟩
def sortC_lays_ren : Go.Shelf.Ren := ⟨fun | 6 => 185 | 15 => 164 | 14 => 191 | 28 => 183 | 29 => 155 | 20 => 193 | 21 => 194 | 22 => 195 | 23 => 196 | 24 => 197 | 25 => 198 | 26 => 199 | 27 => 200 | 46 => 201 | 47 => 187 | 48 => 188 | 49 => 202 | 50 => 203 | 57 => 204 | n => n, fun | 22 => 28 | 24 => 82 | 25 => 108 | 3 => 3 | 39 => 128 | 0 => 0 | 53 => 168 | 55 => 144 | 4 => 4 | 46 => 192 | 45 => 191 | 50 => 162 | 5 => 5 | 9 => 9 | 66 => 200 | 70 => 204 | 76 => 207 | 77 => 208 | n => n, fun n => n⟩
theorem sortC_lays : SlLaysF0.n6 Tryz.prog sortC_lays_ren where
  mixed := by kernel_rfl
  f6 := ⟨Tryz.f185.name, by kernel_rfl, Tryz.func185.trans (congrArg some (by kernel_rfl))⟩
  f14 := ⟨Tryz.f191.name, by kernel_rfl, Tryz.func191.trans (congrArg some (by kernel_rfl))⟩
  f15 := Tryz.func164.trans (congrArg some (by kernel_rfl))
  f20 := ⟨Tryz.f193.name, by kernel_rfl, Tryz.func193.trans (congrArg some (by kernel_rfl))⟩
  f21 := ⟨Tryz.f194.name, by kernel_rfl, Tryz.func194.trans (congrArg some (by kernel_rfl))⟩
  f22 := ⟨Tryz.f195.name, by kernel_rfl, Tryz.func195.trans (congrArg some (by kernel_rfl))⟩
  f23 := ⟨Tryz.f196.name, by kernel_rfl, Tryz.func196.trans (congrArg some (by kernel_rfl))⟩
  f24 := ⟨Tryz.f197.name, by kernel_rfl, Tryz.func197.trans (congrArg some (by kernel_rfl))⟩
  f25 := ⟨Tryz.f198.name, by kernel_rfl, Tryz.func198.trans (congrArg some (by kernel_rfl))⟩
  f26 := ⟨Tryz.f199.name, by kernel_rfl, Tryz.func199.trans (congrArg some (by kernel_rfl))⟩
  f27 := ⟨Tryz.f200.name, by kernel_rfl, Tryz.func200.trans (congrArg some (by kernel_rfl))⟩
  f28 := Tryz.func183.trans (congrArg some (by kernel_rfl))
  f29 := Tryz.func155.trans (congrArg some (by kernel_rfl))
  f46 := ⟨Tryz.f201.name, by kernel_rfl, Tryz.func201.trans (congrArg some (by kernel_rfl))⟩
  f47 := Tryz.func187.trans (congrArg some (by kernel_rfl))
  f48 := Tryz.func188.trans (congrArg some (by kernel_rfl))
  f49 := ⟨Tryz.f202.name, by kernel_rfl, Tryz.func202.trans (congrArg some (by kernel_rfl))⟩
  f50 := ⟨Tryz.f203.name, by kernel_rfl, Tryz.func203.trans (congrArg some (by kernel_rfl))⟩
  f57 := ⟨Tryz.f204.name, by kernel_rfl, Tryz.func204.trans (congrArg some (by kernel_rfl))⟩
  t0 := Tryz.underlying0
  a0 := Tryz.isAgg0
  z0 := Tryz.sizeOf0
  v0 := Tryz.zeroValue0
  t3 := Tryz.underlying3
  a3 := Tryz.isAgg3
  z3 := Tryz.sizeOf3
  v3 := Tryz.zeroValue3
  t4 := Tryz.underlying4
  a4 := Tryz.isAgg4
  z4 := Tryz.sizeOf4
  v4 := Tryz.zeroValue4
  t5 := Tryz.underlying5
  a5 := Tryz.isAgg5
  z5 := Tryz.sizeOf5
  v5 := Tryz.zeroValue5
  t9 := Tryz.underlying9
  a9 := Tryz.isAgg9
  z9 := Tryz.sizeOf9
  v9 := Tryz.zeroValue9
  t22 := Tryz.underlying28
  a22 := Tryz.isAgg28
  z22 := Tryz.sizeOf28
  v22 := Tryz.zeroValue28
  t25 := Tryz.underlying108
  a25 := Tryz.isAgg108
  z25 := Tryz.sizeOf108
  v25 := Tryz.zeroValue108
  t39 := Tryz.underlying128
  a39 := Tryz.isAgg128
  z39 := Tryz.sizeOf128
  v39 := Tryz.zeroValue128
  t45 := Tryz.underlying191
  a45 := Tryz.isAgg191
  z45 := Tryz.sizeOf191
  v45 := Tryz.zeroValue191
  t46 := Tryz.underlying192
  a46 := Tryz.isAgg192
  z46 := Tryz.sizeOf192
  v46 := Tryz.zeroValue192
  t50 := Tryz.underlying162
  a50 := Tryz.isAgg162
  z50 := Tryz.sizeOf162
  v50 := Tryz.zeroValue162
  t53 := Tryz.underlying168
  a53 := Tryz.isAgg168
  z53 := Tryz.sizeOf168
  v53 := Tryz.zeroValue168
  t55 := Tryz.underlying144
  a55 := Tryz.isAgg144
  z55 := Tryz.sizeOf144
  v55 := Tryz.zeroValue144
  t66 := Tryz.underlying200
  a66 := Tryz.isAgg200
  z66 := Tryz.sizeOf200
  v66 := Tryz.zeroValue200
  t70 := Tryz.underlying204
  a70 := Tryz.isAgg204
  z70 := Tryz.sizeOf204
  v70 := Tryz.zeroValue204
  t76 := Tryz.underlying207
  a76 := Tryz.isAgg207
  z76 := Tryz.sizeOf207
  v76 := Tryz.zeroValue207
  t77 := Tryz.underlying208
  a77 := Tryz.isAgg208
  z77 := Tryz.sizeOf208
  v77 := Tryz.zeroValue208
def cI (a b : Int) : Int := if a < b then -1 else if a > b then 1 else 0
def cmpV (x y : S82) : Int := if cI x.f1 y.f1 = 0 then cI x.f0 y.f0 else cI x.f1 y.f1
open Go.Sort
instance instSortC : Inhabited S82 := ⟨z82⟩
abbrev encC (x : S82) : List Value := [.int .i64 x.f0, .int .i64 x.f1]
theorem putRow_heap (w : World) (g : Nat) (F : Array Value) {cur : Array Value} {e : TypeId} {fr : Nat × Nat} (h : w.heap[g]? = some (.cells cur e fr)) : (Go.Sort.putRow id w g 0 F).heap[g]? = some (.cells (Go.Sort.putCells id 0 F cur) e fr) := by
  unfold Go.Sort.putRow Go.Sort.mapBlock
  rw [Array.getElem?_modify, if_pos rfl, h]
  rfl
theorem putCells_take (F cur : Array Value) (h : F.size ≤ cur.size) : (Go.Sort.putCells id 0 F cur).toList.take F.size = F.toList := by
  apply List.ext_getElem?
  intro i
  by_cases hi : i < F.size
  · rw [List.getElem?_take_of_lt hi]
    simp only [Go.Sort.putCells, Array.getElem?_toList, Array.getElem?_mapIdx]
    rw [Array.getElem?_eq_getElem (show i < cur.size by omega), Array.getElem?_eq_getElem hi, Option.map_some, if_pos (by omega)]
    simp [getElem!_pos F i hi]
  · rw [List.getElem?_eq_none (by simp; omega), List.getElem?_eq_none (by simp; omega)]
theorem own_put {w : World} {base g cap n size : Nat} {e : TypeId} {xs : List Value} (h : w.ownsRow base e size (.slice (some ⟨g, 0, none⟩) n cap) n xs) (F : Array Value) (hF : F.size = n * size) : (Go.Sort.putRow id w g 0 F).ownsRow base e size (.slice (some ⟨g, 0, none⟩) n cap) n F.toList := by
  obtain ⟨h1, h2⟩ := h
  refine ⟨by simpa using hF, ?_⟩
  rcases h2 with ⟨h2, _⟩ | ⟨g', cap', cur, h2, h3, h4, h5, h6, h7, h8⟩
  · cases h2
  · injection h2 with h2 _ h9
    injection h2 with h2
    injection h2 with h2
    subst h2 h9
    refine .inr ⟨g, cap, _, rfl, h3, putRow_heap w g F h4, h5, h6, by simpa [Go.Sort.putCells] using h7, ?_⟩
    rw [← hF]
    exact putCells_take F cur (by rw [hF, h7]; exact Nat.mul_le_mul_right _ h5)
theorem flat_get (d : Array S82) (t : Nat) (ht : t < d.size * 2) : (flatK encC 2 d).toList[t]? = (encC d[t / 2]!)[t % 2]? := by
  have hs : (flatK encC 2 d).size = d.size * 2 := size_flatK _ _ _
  have h := get_flatK encC 2 d t ht
  have ht' : t < (flatK encC 2 d).size := by rw [hs]; exact ht
  rw [Array.getElem?_toList, Array.getElem?_eq_getElem ht', ← getElem!_pos (flatK encC 2 d) t ht', h]
  have hm : t % 2 < (encC d[t / 2]!).length := Nat.mod_lt _ (by decide)
  rw [List.getElem?_eq_getElem hm, getElem!_pos (encC d[t / 2]!) (t % 2) hm]
theorem flat_reps (d : Array S82) (w : World) (base : Nat) (ok : Nat → Prop) : Reps (k82.M w base ok) 2 d.toList (flatK encC 2 d).toList := by
  refine ⟨by simp, fun j p hp => ?_⟩
  have hj : j < d.size := by
    have := List.getElem?_eq_some_iff.1 hp
    obtain ⟨h, _⟩ := this
    simpa using h
  have e : ((flatK encC 2 d).toList.drop (j * 2)).take 2 = encC p := by
    apply List.ext_getElem?
    intro i
    by_cases hi : i < 2
    · rw [List.getElem?_take_of_lt hi, List.getElem?_drop, flat_get d (j * 2 + i) (by omega)]
      have e1 : (j * 2 + i) / 2 = j := by omega
      have e2 : (j * 2 + i) % 2 = i := by omega
      rw [e1, e2]
      have e3 : d[j]! = p := by
        rw [getElem!_pos d j hj]
        rw [Array.getElem?_toList, Array.getElem?_eq_getElem hj] at hp
        exact Option.some.inj hp
      rw [e3]
    · rw [List.getElem?_eq_none (by simp; omega), List.getElem?_eq_none (by simp; omega)]
  rw [e]
  exact ⟨_, _, rfl, rfl, rfl⟩
theorem R_putK {w : World} {base g cap : Nat} {ok : Nat → Prop} {xs : List S82} (h : Kd.R k82 82 w base ok (.slice (some ⟨g, 0, none⟩) xs.length cap) xs) (d : Array S82) (hd : d.size = xs.length) : Kd.R k82 82 (putRowK encC 2 w g 0 d) base ok (.slice (some ⟨g, 0, none⟩) xs.length cap) d.toList := by
  obtain ⟨h1, inner, h2, h3⟩ := h
  have hl : d.toList.length = xs.length := by simpa using hd
  refine ⟨h1, (flatK encC 2 d).toList, ?_, flat_reps d _ _ _⟩
  rw [hl]
  exact own_put h2 _ (by rw [size_flatK, hd]; rfl)
theorem R_holds {w : World} {base g cap : Nat} {ok : Nat → Prop} {xs : List S82} (h : Kd.R k82 82 w base ok (.slice (some ⟨g, 0, none⟩) xs.length cap) xs) : HoldsK encC 2 w g 0 xs.toArray := by
  obtain ⟨h1, inner, ⟨h2, h3⟩, h4, h5⟩ := h
  rcases h3 with ⟨h3, _⟩ | ⟨g', cap', cur, h3, h6, h7, h8, h9, h10, h11⟩
  · cases h3
  · injection h3 with h3 _ h12
    injection h3 with h3
    injection h3 with h3
    subst h3 h12
    intro t ht
    rw [size_flatK] at ht
    have ht2 : t < xs.length * 2 := by simpa using ht
    refine ⟨?_, by rw [Nat.zero_add]; exact blk_frozen h7 t⟩
    rw [Nat.zero_add, blk_cell h7 t]
    have e1 : cur[t]? = inner[t]? := by
      rw [← h11, List.getElem?_take_of_lt (by exact ht2), Array.getElem?_toList]
    have hj : t / 2 < xs.length := by omega
    obtain ⟨c1, c2, hc, hc1, hc2⟩ := h5 (t / 2) xs[t / 2] (List.getElem?_eq_getElem hj)
    have e2 : inner[t]? = (encC xs[t / 2])[t % 2]? := by
      have e3 : ((inner.drop (t / 2 * 2)).take 2)[t % 2]? = inner[t]? := by
        rw [List.getElem?_take_of_lt (Nat.mod_lt _ (by decide)), List.getElem?_drop]
        congr 1
        omega
      rw [← e3]
      have : (inner.drop (t / 2 * 2)).take 2 = encC xs[t / 2] := by
        refine hc.trans ?_
        rw [show c1 = [.int .i64 (xs[t / 2]).f0] from hc1, show c2 = [.int .i64 (xs[t / 2]).f1] from hc2]
        rfl
      rw [this]
    have ht' : t < (flatK encC 2 xs.toArray).size := by rw [size_flatK]; exact ht
    have e4 := flat_get xs.toArray t ht
    rw [Array.getElem?_toList, Array.getElem?_eq_getElem ht'] at e4
    rw [e1, e2]
    have e5 : xs.toArray[t / 2]! = xs[t / 2] := by rw [getElem!_pos xs.toArray (t / 2) (by simpa using hj)]; simp
    rw [e5] at e4
    rw [← e4, getElem!_pos _ t ht']
    rfl
theorem cI_eq (a b : Int) : cmp_Compare_int64.f a b = some (cI a b) := by
  unfold cmp_Compare_int64.f cmp_isNaN_int64.f cI
  simp only [bne_self_eq_false, Option.bind_some, Bool.false_eq_true, if_false]
  split
  · rfl
  · split <;> rfl
theorem cmpV_eq (x y : S82) : impl_compareCells.f x.f0 x.f1 y.f0 y.f1 = some (cmpV x y) := by
  unfold impl_compareCells.f cmpV
  simp only [cI_eq, Option.bind_some]
  split <;> rfl
theorem ltV (x y : S82) : ltOf cmpV x y = decide (x.f1 < y.f1 ∨ x.f1 = y.f1 ∧ x.f0 < y.f0) := by
  unfold ltOf cmpV cI
  rw [Bool.eq_iff_iff]
  rw [decide_eq_true_eq (p := x.f1 < y.f1 ∨ x.f1 = y.f1 ∧ x.f0 < y.f0)]
  constructor
  · intro h
    rw [decide_eq_true_eq] at h
    repeat' split at h
    all_goals omega
  · intro h
    rw [decide_eq_true_eq]
    repeat' split
    all_goals omega
theorem swoV : SWO (ltOf cmpV) where
  irrefl x := by rw [ltV]; simp
  trans x y z h1 h2 := by
    rw [ltV] at *
    simp only [decide_eq_true_eq] at *
    omega
  ntrans x y z h1 h2 := by
    rw [ltV] at *
    simp only [decide_eq_false_iff_not] at *
    omega
theorem antiV (x y : S82) (h1 : ltOf cmpV x y = false) (h2 : ltOf cmpV y x = false) : x = y := by
  rw [ltV] at *
  simp only [decide_eq_false_iff_not] at *
  obtain ⟨a, b⟩ := x
  obtain ⟨c, d⟩ := y
  simp only [S82.mk.injEq]
  simp only at h1 h2
  omega
def sortC (l : List S82) : List S82 := l.mergeSort fun x y => !ltOf cmpV y x
theorem sortW_grown (w : World) (g n : Nat) (d : Array S82) (os : Array Obj) : w.grownBy (sortWorldK encC 2 w g 0 n d os) (some g) := by
  refine ⟨rfl, rfl, rfl, ?_, fun k hk hne => ?_⟩
  · show w.heap.size ≤ ((w.heap.modify g _) ++ os).size
    simp
  · show ((w.heap.modify g _) ++ os)[k]? = w.heap[k]?
    rw [Array.getElem?_append_left (by simpa using hk), Array.getElem?_modify, if_neg]
    intro e
    exact hne (by rw [e])
theorem R_growO {w : World} {base : Nat} {ok : Nat → Prop} {v : Value} {xs : List S82} (h : Kd.R k82 82 w base ok v xs) (os : Array Obj) : Kd.R k82 82 (grow w os) base ok v xs := by
  refine Kd.R_mono (Kd.R_move (Kd.R_bound h) (fun k hk => ?_)) (fun _ hk => hk.1)
  show (w.heap ++ os)[k]? = w.heap[k]?
  rw [Array.getElem?_append_left hk.2.2.1]
def impl_Cell_185__impl_compareCells.f (l0 : List S82) : Option (List S82) := if 0 < l0.length ∧ l0.length < 4611686018427387904 then some (sortC l0) else none
set_option maxHeartbeats 4000000 in
theorem impl_Cell_185__impl_compareCells.calls (P0_ : Nat → Prop) (u9000_ : Value) (l0 : List S82) (r : List S82) (w0 w : World) (hB : Below w0.heap.size w0 w) (ho0 : Kd.R k82 82 w w0.heap.size P0_ u9000_ l0) (h : impl_Cell_185__impl_compareCells.f l0 = some r) :
    Calls Tryz.prog 185 #[u9000_, .func (.func 98) #[] #[]] w fun e w' => e = .returned (.tuple #[]) ∧ Kd.R k82 82 w' w0.heap.size (fun k_ => (P0_ k_ ∨ w.heap.size ≤ k_)) u9000_ r ∧ Below w0.heap.size w0 w' ∧ Kept w w' (fun k_ => P0_ k_) := by
  unfold impl_Cell_185__impl_compareCells.f at h
  by_cases hl : 0 < l0.length ∧ l0.length < 4611686018427387904
  · rw [if_pos hl] at h
    obtain rfl := Option.some.inj h
    obtain ⟨g, cap, rfl, hbase, hlt, hcells⟩ := Kd.R_form ho0 hl.1
    have hH := R_holds ho0
    have eg : ∀ args w, (callFunc 98 args).run Tryz.prog w = .ok (.enter 98 args) w := enters_of Tryz.func98 (by kernel_rfl) rfl
    have hcmp : CmpLays Tryz.prog 98 #[] encC 2 cmpV g 0 l0.toArray.size w := fun m os dk hdk x y =>
      (impl_compareCells.callsG x.f0 x.f1 y.f0 y.f1 (cmpV x y) _ (cmpV_eq x y)).mono fun _ _ hh => ⟨hh.1, hh.2.gr⟩
    have hcon := AnyQ.slices_SortFunc sortC_lays 2 Tryz.isAgg82 Tryz.sizeOf82 encC (fun _ => rfl) (fun x v hv => by simp [encC] at hv; rcases hv with rfl | rfl <;> rfl) cmpV swoV 98 #[] g 0 cap l0.toArray w eg hcmp hH hlt (by simpa using hl.2)
    have hsz : l0.toArray.size = l0.length := by simp
    rw [hsz] at hcon
    refine (show Calls Tryz.prog 185 #[.slice (some ⟨g, 0, none⟩) l0.length cap, .func (.func 98) #[] #[]] w _ from hcon).mono ?_
    rintro e w' ⟨rfl, d', n, os, hp, hs, rfl⟩
    have hd : d'.size = l0.length := by rw [hp.1]; simp
    have hr : d'.toList = sortC l0 := by
      have := sorted_unique_holds swoV antiV l0.toArray d' (by rw [hsz]; exact hp) (by rw [hsz]; exact hs)
      simpa [sortC] using this
    have hgw := sortW_grown w g n d' os
    refine ⟨rfl, ?_, pw_below_grown hB (some g) hB.size hgw (fun k hk => by injection hk with hk; exact hk ▸ hbase), ?_⟩
    · have h1 : Kd.R k82 82 (Go.Sort.ahead w n) w0.heap.size P0_ (.slice (some ⟨g, 0, none⟩) l0.length cap) l0 := Kd.R_drewN ho0 n
      have h2 := R_growO (R_putK h1 d' hd) os
      rw [hr] at h2
      exact Kd.R_mono h2 (fun _ hk => .inl hk)
    · refine ⟨hgw.size, fun i hi hn => hgw.block i hi ?_⟩
      intro e
      injection e with e
      exact hn (e ▸ ho0.1 g rfl)
  · rw [if_neg hl] at h
    exact absurd h (by simp)
end Go.Proofs.YtipafadbhmngnaaGreatDoor.F
end
section
namespace Go.Proofs.YtipafadbhmngnaaGreatDoor.F
open Go.RowKit Go.Proofs.YtipafadbhmngnaaGreatDoorW.PrintWords Go.Proofs.YtipafadbhmngnaaGreatDoorW.PrintLast Go.Proofs.YtipafadbhmngnaaGreatDoorW.PrintMore
attribute [local go_sem] max2_int min2_int max_two min_two max_three min_three max_four min_four
set_option linter.unusedVariables false
set_option linter.unusedSimpArgs false
attribute [local go_sem high] eqA82
def sortS_lays_ren : Go.Shelf.Ren := ⟨fun | 6 => 142 | 15 => 164 | 14 => 163 | 28 => 183 | 29 => 155 | 20 => 175 | 21 => 176 | 22 => 177 | 23 => 178 | 24 => 179 | 25 => 180 | 26 => 181 | 27 => 182 | 46 => 186 | 47 => 187 | 48 => 188 | 49 => 189 | 50 => 190 | 57 => 192 | n => n, fun | 22 => 97 | 24 => 28 | 25 => 164 | 3 => 3 | 39 => 128 | 0 => 0 | 53 => 168 | 55 => 144 | 4 => 4 | 46 => 192 | 45 => 191 | 50 => 162 | 5 => 5 | 9 => 9 | 66 => 200 | 70 => 204 | 76 => 207 | 77 => 208 | n => n, fun n => n⟩
theorem sortS_lays : SlLaysF.n6 Tryz.prog sortS_lays_ren where
  mixed := by kernel_rfl
  f6 := ⟨Tryz.f142.name, by kernel_rfl, Tryz.func142.trans (congrArg some (by kernel_rfl))⟩
  f14 := ⟨Tryz.f163.name, by kernel_rfl, Tryz.func163.trans (congrArg some (by kernel_rfl))⟩
  f15 := Tryz.func164.trans (congrArg some (by kernel_rfl))
  f20 := ⟨Tryz.f175.name, by kernel_rfl, Tryz.func175.trans (congrArg some (by kernel_rfl))⟩
  f21 := ⟨Tryz.f176.name, by kernel_rfl, Tryz.func176.trans (congrArg some (by kernel_rfl))⟩
  f22 := ⟨Tryz.f177.name, by kernel_rfl, Tryz.func177.trans (congrArg some (by kernel_rfl))⟩
  f23 := ⟨Tryz.f178.name, by kernel_rfl, Tryz.func178.trans (congrArg some (by kernel_rfl))⟩
  f24 := ⟨Tryz.f179.name, by kernel_rfl, Tryz.func179.trans (congrArg some (by kernel_rfl))⟩
  f25 := ⟨Tryz.f180.name, by kernel_rfl, Tryz.func180.trans (congrArg some (by kernel_rfl))⟩
  f26 := ⟨Tryz.f181.name, by kernel_rfl, Tryz.func181.trans (congrArg some (by kernel_rfl))⟩
  f27 := ⟨Tryz.f182.name, by kernel_rfl, Tryz.func182.trans (congrArg some (by kernel_rfl))⟩
  f28 := Tryz.func183.trans (congrArg some (by kernel_rfl))
  f29 := Tryz.func155.trans (congrArg some (by kernel_rfl))
  f46 := ⟨Tryz.f186.name, by kernel_rfl, Tryz.func186.trans (congrArg some (by kernel_rfl))⟩
  f47 := Tryz.func187.trans (congrArg some (by kernel_rfl))
  f48 := Tryz.func188.trans (congrArg some (by kernel_rfl))
  f49 := ⟨Tryz.f189.name, by kernel_rfl, Tryz.func189.trans (congrArg some (by kernel_rfl))⟩
  f50 := ⟨Tryz.f190.name, by kernel_rfl, Tryz.func190.trans (congrArg some (by kernel_rfl))⟩
  f57 := ⟨Tryz.f192.name, by kernel_rfl, Tryz.func192.trans (congrArg some (by kernel_rfl))⟩
  t0 := Tryz.underlying0
  a0 := Tryz.isAgg0
  z0 := Tryz.sizeOf0
  v0 := Tryz.zeroValue0
  t3 := Tryz.underlying3
  a3 := Tryz.isAgg3
  z3 := Tryz.sizeOf3
  v3 := Tryz.zeroValue3
  t4 := Tryz.underlying4
  a4 := Tryz.isAgg4
  z4 := Tryz.sizeOf4
  v4 := Tryz.zeroValue4
  t5 := Tryz.underlying5
  a5 := Tryz.isAgg5
  z5 := Tryz.sizeOf5
  v5 := Tryz.zeroValue5
  t9 := Tryz.underlying9
  a9 := Tryz.isAgg9
  z9 := Tryz.sizeOf9
  v9 := Tryz.zeroValue9
  t22 := Tryz.underlying97
  a22 := Tryz.isAgg97
  z22 := Tryz.sizeOf97
  v22 := Tryz.zeroValue97
  a24 := Tryz.isAgg28
  z24 := Tryz.sizeOf28
  t25 := Tryz.underlying164
  a25 := Tryz.isAgg164
  z25 := Tryz.sizeOf164
  v25 := Tryz.zeroValue164
  t39 := Tryz.underlying128
  a39 := Tryz.isAgg128
  z39 := Tryz.sizeOf128
  v39 := Tryz.zeroValue128
  t45 := Tryz.underlying191
  a45 := Tryz.isAgg191
  z45 := Tryz.sizeOf191
  v45 := Tryz.zeroValue191
  t46 := Tryz.underlying192
  a46 := Tryz.isAgg192
  z46 := Tryz.sizeOf192
  v46 := Tryz.zeroValue192
  t50 := Tryz.underlying162
  a50 := Tryz.isAgg162
  z50 := Tryz.sizeOf162
  v50 := Tryz.zeroValue162
  t53 := Tryz.underlying168
  a53 := Tryz.isAgg168
  z53 := Tryz.sizeOf168
  v53 := Tryz.zeroValue168
  t55 := Tryz.underlying144
  a55 := Tryz.isAgg144
  z55 := Tryz.sizeOf144
  v55 := Tryz.zeroValue144
  t66 := Tryz.underlying200
  a66 := Tryz.isAgg200
  z66 := Tryz.sizeOf200
  v66 := Tryz.zeroValue200
  t70 := Tryz.underlying204
  a70 := Tryz.isAgg204
  z70 := Tryz.sizeOf204
  v70 := Tryz.zeroValue204
  t76 := Tryz.underlying207
  a76 := Tryz.isAgg207
  z76 := Tryz.sizeOf207
  v76 := Tryz.zeroValue207
  t77 := Tryz.underlying208
  a77 := Tryz.isAgg208
  z77 := Tryz.sizeOf208
  v77 := Tryz.zeroValue208
open Go.Sort
def ordL : List S82 → List S82 → Int
  | [], _ => 0
  | _ :: _, [] => 0
  | a :: r, b :: s => if cmpV a b = 0 then ordL r s else cmpV a b
def ordS (a b : List S82) : Int := if a.length = b.length then ordL a b else if a.length < b.length then -1 else 1
theorem cI_self (a : Int) : cI a a = 0 := by unfold cI; simp
theorem cI_anti (a b : Int) : cI b a = -cI a b := by unfold cI; repeat' split
                                                     all_goals omega
theorem cmpV_self (x : S82) : cmpV x x = 0 := by unfold cmpV; simp [cI_self]
theorem cmpV_anti (x y : S82) : cmpV y x = -cmpV x y := by
  unfold cmpV
  have h0 := cI_anti x.f0 y.f0
  have h1 := cI_anti x.f1 y.f1
  try have h2 := cI_anti x.f2 y.f2
  repeat' split
  all_goals omega
theorem lt_iff (x y : S82) : ltOf cmpV x y = false ↔ 0 ≤ cmpV x y := by
  unfold ltOf
  rw [decide_eq_false_iff_not]
  omega
theorem cmpV_zero {x y : S82} (h : cmpV x y = 0) : x = y := antiV x y ((lt_iff x y).2 (by omega)) ((lt_iff y x).2 (by rw [cmpV_anti]; omega))
theorem cmpV_trans {x y z : S82} (h1 : cmpV x y ≤ 0) (h2 : cmpV y z ≤ 0) : cmpV x z ≤ 0 := by
  have h := (lt_iff z x).1 (swoV.ntrans z y x ((lt_iff z y).2 (by rw [cmpV_anti]; omega)) ((lt_iff y x).2 (by rw [cmpV_anti]; omega)))
  rw [cmpV_anti] at h
  omega
theorem ordL_self : ∀ a : List S82, ordL a a = 0
  | [] => rfl
  | a :: r => by unfold ordL; rw [cmpV_self, if_pos rfl, ordL_self r]
theorem ordL_anti : ∀ a b : List S82, a.length = b.length → ordL b a = -ordL a b
  | [], [], _ => rfl
  | [], b :: s, h => by simp at h
  | a :: r, [], h => by simp at h
  | a :: r, b :: s, h => by
    unfold ordL
    have ih := ordL_anti r s (by simpa using h)
    have hc := cmpV_anti a b
    by_cases e : cmpV a b = 0
    · rw [if_pos e, if_pos (by omega)]; exact ih
    · rw [if_neg e, if_neg (by omega)]; exact hc
theorem ordL_zero : ∀ a b : List S82, a.length = b.length → ordL a b = 0 → a = b
  | [], [], _, _ => rfl
  | [], b :: s, h, _ => by simp at h
  | a :: r, [], h, _ => by simp at h
  | a :: r, b :: s, h, h0 => by
    unfold ordL at h0
    by_cases e : cmpV a b = 0
    · rw [if_pos e] at h0
      rw [cmpV_zero e, ordL_zero r s (by simpa using h) h0]
    · rw [if_neg e] at h0
      exact absurd h0 e
theorem ordL_trans : ∀ a b c : List S82, a.length = b.length → b.length = c.length → ordL a b ≤ 0 → ordL b c ≤ 0 → ordL a c ≤ 0
  | [], _, _, _, _, _, _ => by unfold ordL; omega
  | a :: r, [], _, h, _, _, _ => by simp at h
  | a :: r, b :: s, [], _, h, _, _ => by simp at h
  | a :: r, b :: s, c :: t, h1, h2, h3, h4 => by
    unfold ordL at h3 h4 ⊢
    have hab := cmpV_anti a b
    have hbc := cmpV_anti b c
    have hac := cmpV_anti a c
    by_cases e1 : cmpV a b = 0
    · obtain rfl := cmpV_zero e1
      rw [if_pos e1] at h3
      by_cases e2 : cmpV a c = 0
      · rw [if_pos e2] at h4 ⊢
        exact ordL_trans r s t (by simpa using h1) (by simpa using h2) h3 h4
      · rw [if_neg e2] at h4 ⊢
        exact h4
    · rw [if_neg e1] at h3
      by_cases e2 : cmpV b c = 0
      · obtain rfl := cmpV_zero e2
        rw [if_neg e1]
        exact h3
      · rw [if_neg e2] at h4
        have h5 := cmpV_trans h3 h4
        by_cases e3 : cmpV a c = 0
        · obtain rfl := cmpV_zero e3
          omega
        · rw [if_neg e3]
          exact h5
theorem ordS_self (a : List S82) : ordS a a = 0 := by unfold ordS; rw [if_pos rfl, ordL_self]
theorem ordS_anti (a b : List S82) : ordS b a = -ordS a b := by
  unfold ordS
  by_cases e : a.length = b.length
  · rw [if_pos e, if_pos e.symm, ordL_anti a b e]
  · rw [if_neg e, if_neg (fun x => e x.symm)]
    repeat' split
    all_goals omega
theorem ordS_zero {a b : List S82} (h : ordS a b = 0) : a = b := by
  unfold ordS at h
  by_cases e : a.length = b.length
  · rw [if_pos e] at h; exact ordL_zero a b e h
  · rw [if_neg e] at h
    split at h <;> omega
theorem ordS_trans {a b c : List S82} (h1 : ordS a b ≤ 0) (h2 : ordS b c ≤ 0) : ordS a c ≤ 0 := by
  unfold ordS at h1 h2 ⊢
  by_cases e1 : a.length = b.length
  · rw [if_pos e1] at h1
    by_cases e2 : b.length = c.length
    · rw [if_pos e2] at h2
      rw [if_pos (e1.trans e2)]
      exact ordL_trans a b c e1 e2 h1 h2
    · rw [if_neg e2] at h2
      rw [if_neg (by omega)]
      split at h2 <;> split <;> omega
  · rw [if_neg e1] at h1
    by_cases e2 : b.length = c.length
    · rw [if_neg (by omega)]
      split at h1 <;> split <;> omega
    · rw [if_neg e2] at h2
      split at h1
      · split at h2
        · rw [if_neg (by omega), if_pos (by omega)]; omega
        · omega
      · omega
theorem ltS_iff (x y : List S82) : ltOf ordS x y = false ↔ 0 ≤ ordS x y := by
  unfold ltOf
  rw [decide_eq_false_iff_not]
  omega
theorem swoS : SWO (ltOf ordS) where
  irrefl x := by rw [ltS_iff, ordS_self]; omega
  trans x y z h1 h2 := by
    unfold ltOf at *
    rw [decide_eq_true_eq] at *
    have h3 := ordS_trans (a := x) (b := y) (c := z) (by omega) (by omega)
    by_cases e : ordS x z = 0
    · have := ordS_zero e
      subst this
      have := ordS_anti x y
      omega
    · omega
  ntrans x y z h1 h2 := by
    rw [ltS_iff] at *
    have h3 := ordS_trans (a := z) (b := y) (c := x) (by rw [ordS_anti]; omega) (by rw [ordS_anti]; omega)
    rw [ordS_anti] at h3
    omega
theorem antiS (x y : List S82) (h1 : ltOf ordS x y = false) (h2 : ltOf ordS y x = false) : x = y := by
  rw [ltS_iff] at *
  rw [ordS_anti] at h2
  exact ordS_zero (by omega)
def sortS (l : List (List S82)) : List (List S82) := l.mergeSort fun x y => !ltOf ordS y x
structure El (W0 : World) (ok : Nat → Prop) where
  v : Value
  l : List S82
  j : Nat
  has : Kd.FK (Kd.slice 82 k82) W0 ok l [v]
theorem FK_nil0 (W0 : World) (ok : Nat → Prop) : Kd.FK (Kd.slice 82 k82) W0 ok [] [.slice none 0 0] := fun W' _ => ⟨none, 0, rfl, Nat.le_refl _, Kd.C_nil _ _⟩
instance instEl (W0 : World) (ok : Nat → Prop) : Inhabited (El W0 ok) := ⟨⟨.slice none 0 0, [], 0, FK_nil0 _ _⟩⟩
section
variable {W0 w W : World} {ok : Nat → Prop} {base g cap n m : Nat} {os : Array Obj}
theorem El.one (x : El W0 ok) : x.v.oneCell' = true := (Kd.slice 82 k82).K_one (Kd.FK_now x.has) x.v (by simp)
def Same (W0 w : World) (ok : Nat → Prop) : Prop := ∀ k, ok k → k < W0.heap.size → w.heap[k]? = W0.heap[k]?
theorem Same.refl (w : World) (ok : Nat → Prop) : Same w w ok := fun _ _ _ => rfl
theorem Same.grown (h : Same W0 w ok) (hg : w.grownBy W (some g)) (hok : ¬ ok g) : Same W0 W ok := fun k hk hlt =>
  (hg.block k (heap_lt (h k hk hlt) hlt) (fun e => hok (by injection e with e; exact e ▸ hk))).trans (h k hk hlt)
theorem El.now (x : El W0 ok) (h : Same W0 w ok) : ∃ A c, x.v = .slice A x.l.length c ∧ x.l.length ≤ c ∧ Kd.C k82 w A x.l.length x.l := by
  obtain ⟨A, c, e, h1, h2⟩ := Kd.FK_now (Kd.FK_step x.has h)
  exact ⟨A, c, by simpa using e, h1, h2⟩
def cfE (x y : El W0 ok) : Int := ordS x.l y.l
theorem swoE : SWO (ltOf (cfE (W0 := W0) (ok := ok))) where
  irrefl x := swoS.irrefl x.l
  trans x y z := swoS.trans x.l y.l z.l
  ntrans x y z := swoS.ntrans x.l y.l z.l
theorem sortW1_grown {α : Type} [Inhabited α] (enc : α → Value) (w : World) (g n : Nat) (d : Array α) (os : Array Obj) : w.grownBy (sortWorld enc w g 0 n d os) (some g) := by
  refine ⟨rfl, rfl, rfl, ?_, fun k hk hne => ?_⟩
  · show w.heap.size ≤ ((w.heap.modify g _) ++ os).size
    simp
  · show ((w.heap.modify g _) ++ os)[k]? = w.heap[k]?
    rw [Array.getElem?_append_left (by simpa using hk), Array.getElem?_modify, if_neg]
    intro e
    exact hne (by rw [e])
theorem sortW1_heap {α : Type} [Inhabited α] (enc : α → Value) (w : World) (g n : Nat) (d : Array α) (os : Array Obj) {cur : Array Value} {e : TypeId} {fr : Nat × Nat} (h : w.heap[g]? = some (.cells cur e fr)) : (sortWorld enc w g 0 n d os).heap[g]? = some (.cells (Go.Sort.putCells enc 0 d cur) e fr) := by
  have hlt : g < w.heap.size := (Array.getElem?_eq_some_iff.1 h).1
  show ((w.heap.modify g _) ++ os)[g]? = _
  rw [Array.getElem?_append_left (by simpa using hlt), Array.getElem?_modify, if_pos rfl, h]
  rfl
theorem putCells1_take {α : Type} [Inhabited α] (enc : α → Value) (d : Array α) (cur : Array Value) (h : d.size ≤ cur.size) : (Go.Sort.putCells enc 0 d cur).toList.take d.size = d.toList.map enc := by
  apply List.ext_getElem?
  intro i
  by_cases hi : i < d.size
  · rw [List.getElem?_take_of_lt hi]
    simp only [Go.Sort.putCells, Array.getElem?_toList, Array.getElem?_mapIdx, List.getElem?_map]
    rw [Array.getElem?_eq_getElem (show i < cur.size by omega), Array.getElem?_eq_getElem hi, Option.map_some, Option.map_some, if_pos (by omega)]
    simp [getElem!_pos d i hi]
  · rw [List.getElem?_eq_none (by simp; omega), List.getElem?_eq_none (by simp; omega)]
structure At (w : World) (base g cap : Nat) (d : Array (El W0 ok)) : Prop where
  base : base ≤ g
  max : cap ≤ maxLen
  size : d.size ≤ cap
  cells : ∃ cur, w.heap[g]? = some (.cells cur 28 (0, 0)) ∧ cur.size = cap ∧ cur.toList.take d.size = d.toList.map El.v
theorem At.lt {d : Array (El W0 ok)} (h : At w base g cap d) : g < w.heap.size := by
  obtain ⟨cur, h1, _⟩ := h.cells
  exact (Array.getElem?_eq_some_iff.1 h1).1
theorem At.holds {d : Array (El W0 ok)} (h : At w base g cap d) : Holds El.v w g 0 d := by
  obtain ⟨cur, h1, h2, h3⟩ := h.cells
  intro t ht
  refine ⟨?_, by rw [Nat.zero_add]; exact blk_frozen h1 t⟩
  rw [Nat.zero_add, blk_cell h1 t]
  have e1 : cur[t]? = (d.toList.map El.v)[t]? := by
    rw [← h3, List.getElem?_take_of_lt ht, Array.getElem?_toList]
  rw [e1, List.getElem?_map, Array.getElem?_toList, Array.getElem?_eq_getElem ht, getElem!_pos d t ht]
  rfl
theorem At.sorted {d d' : Array (El W0 ok)} (h : At w base g cap d) (hs : d'.size = d.size) : At (sortWorld El.v w g 0 n d' os) base g cap d' := by
  obtain ⟨cur, h1, h2, h3⟩ := h.cells
  refine ⟨h.base, h.max, hs ▸ h.size, _, sortW1_heap El.v w g n d' os h1, by simpa [Go.Sort.putCells] using h2, putCells1_take El.v d' cur ?_⟩
  have := h.size
  omega
theorem At.cut {d : Array (El W0 ok)} (h : At w base g cap d) (q : Nat) (hq : q ≤ d.size) : At w base g cap (d.toList.take q).toArray := by
  obtain ⟨cur, h1, h2, h3⟩ := h.cells
  have hs := h.size
  refine ⟨h.base, h.max, by simp; omega, cur, h1, h2, ?_⟩
  have e : (d.toList.take q).toArray.size = q := by simp; omega
  rw [e]
  show _ = (d.toList.take q).map El.v
  rw [List.map_take, ← h3, List.take_take, Nat.min_eq_left hq]
theorem At.raw {d : Array (El W0 ok)} (h : At w base g cap d) : (Kd.raw 1).R 28 w base (fun k => some k = (Value.slice (some ⟨g, 0, none⟩) d.size cap).ownBlock) (.slice (some ⟨g, 0, none⟩) d.size cap) (d.toList.map fun x => [x.v]) := by
  obtain ⟨cur, h1, h2, h3⟩ := h.cells
  have hl : (d.toList.map fun x : El W0 ok => [x.v]).length = d.size := by simp
  refine ⟨fun k hk => hk.symm, d.toList.map El.v, ⟨by rw [hl]; simp [Kd.raw], .inr ⟨g, cap, cur, by rw [hl], h.base, h1, by rw [hl]; exact h.size, h.max, by simpa [Kd.raw] using h2, by rw [hl]; simpa [Kd.raw] using h3⟩⟩, by rw [hl]; simp [Kd.raw], ?_⟩
  intro j p hp
  rw [List.getElem?_map, Option.map_eq_some_iff] at hp
  obtain ⟨x, hx, rfl⟩ := hp
  have hj : j < (d.toList.map El.v).length := by
    have := (List.getElem?_eq_some_iff.1 hx).1
    simpa using this
  have e : ((d.toList.map El.v).drop (j * (Kd.raw 1).sz)).take (Kd.raw 1).sz = [x.v] := by
    show ((d.toList.map El.v).drop (j * 1)).take 1 = _
    rw [Nat.mul_one, List.drop_eq_getElem_cons hj]
    have : (d.toList.map El.v)[j]? = some x.v := by rw [List.getElem?_map, hx]; rfl
    rw [List.getElem?_eq_getElem hj] at this
    simp [Option.some.inj this]
  rw [e]
  exact ⟨rfl, rfl, fun u hu => by rw [List.mem_singleton.1 hu]; exact x.one⟩
end
section
variable {w W : World} {ok : Nat → Prop} {base g cap n : Nat} {xs : List (List S82)}
abbrev inn (ok : Nat → Prop) (g : Nat) : Nat → Prop := fun k => ok k ∧ k ≠ g
theorem inn_of {k : Nat} {c : Nat} (h : ok k ∧ some k ≠ (Value.slice (some ⟨g, 0, none⟩) n c).ownBlock) : inn ok g k := ⟨h.1, fun e => h.2 (by rw [e]; rfl)⟩
theorem inn_to {k : Nat} {c : Nat} (h : inn ok g k) : ok k ∧ some k ≠ (Value.slice (some ⟨g, 0, none⟩) n c).ownBlock := ⟨h.1, fun e => h.2 (by injection e)⟩
end
section
variable {w W : World} {ok : Nat → Prop} {base g cap n : Nat} {xs : List (List S82)}
theorem S_open (h : Kd.S (Kd.slice 82 k82) 28 w base ok (.slice (some ⟨g, 0, none⟩) n cap) xs) : ok g ∧ n = xs.length ∧ ∃ f : Nat → Nat, ∃ d : Array (El w (inn ok g)), d.toList.map El.l = xs ∧ At w base g cap d ∧ d.toList.map El.j = List.range d.size ∧ ∀ x ∈ d.toList, (Kd.slice 82 k82).M w base (fun k => inn ok g k ∧ f k = x.j) x.l [x.v] := by
  obtain ⟨f, h1, inner, ⟨h2, h3⟩, h4, h5⟩ := h
  rcases h3 with ⟨h3, _⟩ | ⟨g', cap', cur, h3, h6, h7, h8, h9, h10, h11⟩
  · cases h3
  injection h3 with h3 h13 h12
  injection h3 with h3
  injection h3 with h3
  subst h3 h12
  have hs1 : (Kd.tag f (Kd.slice 82 k82)).sz = 1 := rfl
  rw [hs1, Nat.mul_one] at h2 h4
  rw [hs1, Nat.mul_one] at h11
  rw [hs1, Nat.mul_one] at h10
  rw [List.length_zipIdx] at h13 h2 h4 h8 h11
  have hel : ∀ j : Fin xs.length, (Kd.slice 82 k82).M w base (fun k => inn ok g k ∧ f k = j.1) xs[j.1] [inner[j.1]'(by omega)] := fun j => by
    have h := h5 j.1 (xs[j.1], j.1) (Kd.zip_at (List.getElem?_eq_getElem j.2))
    have e : (inner.drop (j.1 * (Kd.tag f (Kd.slice 82 k82)).sz)).take (Kd.tag f (Kd.slice 82 k82)).sz = [inner[j.1]'(by omega)] := by
      rw [hs1, Nat.mul_one, List.drop_eq_getElem_cons (by omega)]
      rfl
    rw [e] at h
    exact Kd.M_mono _ (fun k hk => ⟨inn_of hk.1, hk.2⟩) h
  refine ⟨h1 g rfl, h13, f, Array.ofFn fun j : Fin xs.length => El.mk (inner[j.1]'(by omega)) xs[j.1] j.1 (Kd.FK_mono (Kd.FK_of_M (hel j)) (fun _ hk => hk.1)), ?_, ⟨h6, h9, by rw [Array.size_ofFn]; exact h8, cur, h7, h10, ?_⟩, ?_, ?_⟩
  · apply List.ext_getElem
    · simp
    · intro i hi hi2
      simp
  · rw [Array.size_ofFn, h11]
    apply List.ext_getElem
    · simp; omega
    · intro i hi hi2
      simp
  · apply List.ext_getElem
    · simp
    · intro i hi hi2
      simp
  · intro x hx
    obtain ⟨i, hi, rfl⟩ := List.getElem_of_mem hx
    have hi' : i < xs.length := by simpa using hi
    have := hel ⟨i, hi'⟩
    simpa using this
theorem S_close {d0 : World} {f : Nat → Nat} {d : Array (El d0 (inn ok g))} (hok : ok g) (h : At w base g cap d) (hs : Same d0 w (inn ok g)) (hn : (d.toList.map El.j).Nodup) (hM : ∀ x ∈ d.toList, (Kd.slice 82 k82).M d0 base (fun k => inn ok g k ∧ f k = x.j) x.l [x.v]) :
    Kd.S (Kd.slice 82 k82) 28 w base ok (.slice (some ⟨g, 0, none⟩) d.size cap) (d.toList.map El.l) := by
  obtain ⟨cur, h1, h2, h3⟩ := h.cells
  have hl : (d.toList.map El.l).zipIdx.length = d.size := by simp
  refine ⟨fun k => (d.toList.map El.j).idxOf (f k), fun k hk => ?_, d.toList.map El.v, ⟨by rw [hl]; simp [Kd.tag, Kd.slice], .inr ⟨g, cap, cur, by rw [hl], h.base, h1, by rw [hl]; exact h.size, h.max, by simpa [Kd.tag, Kd.slice] using h2, by rw [hl]; simpa [Kd.tag, Kd.slice] using h3⟩⟩, by rw [hl]; simp [Kd.tag, Kd.slice], ?_⟩
  · simp [Value.ownBlock] at hk
    exact hk ▸ hok
  · intro j p hp
    rw [List.getElem?_zipIdx, Nat.zero_add, Option.map_eq_some_iff] at hp
    obtain ⟨l, hx, rfl⟩ := hp
    rw [List.getElem?_map, Option.map_eq_some_iff] at hx
    obtain ⟨x, hx, rfl⟩ := hx
    have hj : j < (d.toList.map El.v).length := by
      have := (List.getElem?_eq_some_iff.1 hx).1
      simpa using this
    have e : ((d.toList.map El.v).drop (j * 1)).take 1 = [x.v] := by
      rw [Nat.mul_one, List.drop_eq_getElem_cons hj]
      have : (d.toList.map El.v)[j]? = some x.v := by rw [List.getElem?_map, hx]; rfl
      rw [List.getElem?_eq_getElem hj] at this
      simp [Option.some.inj this]
    show (Kd.slice 82 k82).M w base _ x.l (((d.toList.map El.v).drop (j * 1)).take 1)
    rw [e]
    have hm := hM x (List.mem_of_getElem? hx)
    refine Kd.M_mono _ (fun k hk => ⟨inn_to hk.1, ?_⟩) (Kd.M_step hm (fun k hk hlt => hs k hk.1 hlt))
    have hj' : j < (d.toList.map El.j).length := by simpa using hj
    have ex : (d.toList.map El.j)[j] = x.j := by
      have : (d.toList.map El.j)[j]? = some x.j := by rw [List.getElem?_map, hx]; rfl
      rw [List.getElem?_eq_getElem hj'] at this
      exact Option.some.inj this
    show List.idxOf (f k) (d.toList.map El.j) = j
    rw [hk.2, ← ex]
    exact hn.idxOf_getElem j hj'
end
theorem compareF_rounds (a b : List S82) (hl : a.length = b.length) (hs : a.length ≤ 9223372036854775807) : ∀ (suf pre : List S82), a = pre ++ suf → ∀ k, suf.length < k → impl_Cell_165__impl_compareCells.l0 k a b a (a.length : Int) (pre.length : Int) = some (ordL suf (b.drop pre.length)) := by
  intro suf
  induction suf with
  | nil =>
    intro pre hx k hk
    obtain ⟨k, rfl⟩ : ∃ m, k = m + 1 := ⟨k - 1, by omega⟩
    rw [List.append_nil] at hx
    subst hx
    simp only [impl_Cell_165__impl_compareCells.l0]
    rw [if_neg (by omega), if_neg (by omega)]
    rfl
  | cons c suf ih =>
    intro pre hx k hk
    obtain ⟨k, rfl⟩ : ∃ m, k = m + 1 := ⟨k - 1, by omega⟩
    have hla : a.length = pre.length + (suf.length + 1) := by rw [hx]; simp
    have hpb : pre.length < b.length := by omega
    have ea : rd_T82 a (pre.length : Int) = c := by
      unfold rd_T82
      rw [hx]
      simp [List.getD]
    have eb : rd_T82 b (pre.length : Int) = b[pre.length] := by
      unfold rd_T82
      rw [List.getD_eq_getElem?_getD, Int.toNat_natCast, List.getElem?_eq_getElem hpb]
      rfl
    have ew : wrap64 ((pre.length : Int) + 1) = ((pre ++ [c]).length : Int) := by
      rw [List.length_append, List.length_singleton]
      simp only [wrap64]
      omega
    have hi := ih (pre ++ [c]) (by rw [hx]; simp) k (by simp at hk; omega)
    simp only [impl_Cell_165__impl_compareCells.l0]
    rw [if_pos (by omega), if_pos (by omega), if_pos (by omega), if_neg (by omega), if_pos (by omega), ea, eb, cmpV_eq, Option.bind_some, ew, hi, List.drop_eq_getElem_cons hpb, ordL, List.length_append, List.length_singleton]
    split <;> rfl
theorem compare_rounds (a b : List S82) (hs : a.length ≤ 9223372036854775807) : ∃ k, impl_compareShapes.f k a b = some (ordS a b) := by
  refine ⟨a.length + 1, ?_⟩
  unfold impl_compareShapes.f ordS
  by_cases hl : a.length = b.length
  · rw [if_pos hl, if_pos (by omega)]
    have := compareF_rounds a b hl hs a [] rfl (a.length + 1) (by omega)
    unfold impl_Cell_165__impl_compareCells.f
    simp only [List.length_nil, Int.natCast_zero, List.drop_zero] at this
    rw [this]
    rfl
  · rw [if_neg hl, if_neg (by omega)]
    split
    · rw [if_pos (by omega)]
    · rw [if_neg (by omega)]
set_option maxHeartbeats 4000000 in
theorem impl_Cell_142__impl_compareShapes.raw {W0 w : World} {ok : Nat → Prop} {base g cap : Nat} (d : Array (El W0 ok)) (hA : At w base g cap d) (hS : Same W0 w ok) (hg : ¬ ok g) (hsz : d.size < 4611686018427387904) :
    Calls Tryz.prog 142 #[.slice (some ⟨g, 0, none⟩) d.size cap, .func (.func 143) #[] #[]] w fun e w' => e = .returned (.tuple #[]) ∧ ∃ (d' : Array (El W0 ok)) (n : Nat) (os : Array Obj), d'.toList.Perm d.toList ∧ d'.toList.map El.l = sortS (d.toList.map El.l) ∧ w' = sortWorld El.v w g 0 n d' os := by
  have eg : ∀ args w, (callFunc 143 args).run Tryz.prog w = .ok (.enter 143 args) w := enters_of Tryz.func143 (by kernel_rfl) rfl
  have hcmp : CmpLays1 Tryz.prog 143 #[] El.v cfE g 0 d.size w := fun m os dk hdk x y => by
    have hgw := sortW1_grown El.v w g m dk os
    obtain ⟨A0, c0, e0, hc0, hC0⟩ := x.now (hS.grown hgw hg)
    obtain ⟨A1, c1, e1, hc1, hC1⟩ := y.now (hS.grown hgw hg)
    obtain ⟨k, hk⟩ := compare_rounds x.l y.l hC0.2.1
    rw [e0, e1]
    exact (impl_compareShapes.callsG k A0 c0 x.l A1 c1 y.l (ordS x.l y.l) _ hC0 hc0 hC1 hc1 hk).mono fun _ _ hh => ⟨hh.1, hh.2.gr⟩
  have hcon := Any.slices_SortFunc sortS_lays El.v El.one cfE swoE 143 #[] g 0 cap d w eg hcmp hA.holds hA.lt hsz
  refine (show Calls Tryz.prog 142 #[.slice (some ⟨g, 0, none⟩) d.size cap, .func (.func 143) #[] #[]] w _ from hcon).mono ?_
  rintro e w' ⟨rfl, d', n, os, hp, hs', rfl⟩
  have hP : d'.toList.Perm d.toList := by
    have := hp.2.2
    have e1 : d'.extract 0 d.size = d' := by rw [← hp.1]; exact Array.extract_size
    have e2 : d.extract 0 d.size = d := Array.extract_size
    rwa [e1, e2] at this
  refine ⟨rfl, d', n, os, hP, ?_, rfl⟩
  refine List.Perm.eq_of_pairwise (le := fun x y => (!ltOf ordS y x) = true) ?_ ?_ ?_ ((hP.map El.l).trans (List.mergeSort_perm _ _).symm)
  · intro a b _ _ h1 h2
    simp only [Bool.not_eq_true'] at h1 h2
    exact antiS a b h2 h1
  · rw [List.pairwise_map, List.pairwise_iff_getElem]
    intro i j hi hj hij
    have hi' : i < d'.size := by simpa using hi
    have hj' : j < d'.size := by simpa using hj
    have := hs' i j (Nat.zero_le _) hij (by rw [← hp.1]; exact hj')
    rw [getElem!_pos d' i hi', getElem!_pos d' j hj'] at this
    simp only [Bool.not_eq_true', Array.getElem_toList]
    exact this
  · have := List.pairwise_mergeSort (le := fun x y : List S82 => !ltOf ordS y x) (fun a b c h1 h2 => by
      simp only [Bool.not_eq_true'] at *
      exact swoS.ntrans c b a h2 h1) (fun a b => by
      rw [Bool.or_eq_true]
      by_cases e : ltOf ordS b a = true
      · right
        simp only [Bool.not_eq_true']
        rw [ltS_iff]
        unfold ltOf at e
        rw [decide_eq_true_eq] at e
        rw [ordS_anti]
        omega
      · left
        simpa using e) (d.toList.map El.l)
    exact this
def impl_Cell_82.l0 : Nat → List (S82) → List (S82) → Int → Int → Option (Bool)
 | 0, _, _, _, _ => none
 | k + 1, x0, x1, x12, x13 => if x13 < x12 then (if 0 ≤ x13 then (if x13 < (x0.length : Int) then (if x13 < (x1.length : Int) then (if (!(((rd_T82 x0 x13).f0) == ((rd_T82 x1 x13).f0)) || (!(((rd_T82 x0 x13).f1) == ((rd_T82 x1 x13).f1)))) = true then (some false) else (impl_Cell_82.l0 k x0 x1 x12 (wrap64 (x13 + 1)))) else (none)) else (none)) else (none)) else (some true)
def impl_Cell_82.f (k : Nat) (l0 : List (S82)) (l1 : List (S82)) : Option (Bool) := if (l0.length : Int) = (l1.length : Int) then (impl_Cell_82.l0 k l0 l1 (l0.length : Int) 0) else (some false)
theorem impl_Cell_82.calls (k : Nat) (A0 : Option Addr) (c0 : Nat) (l0 : List (S82)) (A1 : Option Addr) (c1 : Nat) (l1 : List (S82)) (r : Bool) (w : World) (hr0 : Kd.C k82 w A0 l0.length l0) (hc0 : l0.length ≤ c0) (hr1 : Kd.C k82 w A1 l1.length l1) (hc1 : l1.length ≤ c1) (h : impl_Cell_82.f k l0 l1 = some r) :
  Calls Tryz.prog 82 #[.slice A0 l0.length c0, .slice A1 l1.length c1] w fun e w' => e = .returned (.bool r) ∧ Drawn0 w w' := by
 have hu82 := Tryz.underlying82
 have HR0 := aM hr0
 have HC0 := aM hc0
 clear hr0 hc0
 have HR1 := aM hr1
 have HC1 := aM hc1
 clear hr1 hc1
 have H : (if (l0.length : Int) = (l1.length : Int) then (impl_Cell_82.l0 k l0 l1 (l0.length : Int) 0) else (some false)) = some r := h
 clear h
 by_cases c3 : (l0.length : Int) = (l1.length : Int)
 rotate_left
 ·rw [if_neg c3] at H
  have c3b0 : ((l0.length : Int) == (l1.length : Int)) = false := beq_eq_false_iff_ne.mpr c3
  have c3b1 : ((l0.length : Int) != (l1.length : Int)) = true := bne_iff_ne.mpr c3
  have c3b2 : (l0.length == l1.length) = false := by first | simpa using c3 | (simp at c3 ⊢; omega)
  obtain rfl := Option.some.inj H
  go_enter Tryz.func82, Tryz.ntmps82
  go_wp2
  repeat (go_quiet (fail); try go_wp2)
  go_ret
  exact ⟨by first | rfl | (simp; done) | (simp [*]; done), by repeat (first | exact Drawn0.refl _ | apply Drawn0.step)⟩
 rw [if_pos c3] at H
 have c3b0 : ((l0.length : Int) == (l1.length : Int)) = true := beq_iff_eq.mpr c3
 have c3b1 : ((l0.length : Int) != (l1.length : Int)) = false := bne_eq_false_iff_eq.mpr c3
 have c3b2 : (l0.length == l1.length) = true := by first | simpa using c3 | (simp at c3 ⊢; omega)
 clear c3
 have H' := aM H
 clear H
 go_enter Tryz.func82, Tryz.ntmps82
 go_wp2
 repeat (go_quiet (fail); try go_wp2)
 go_loopg [13] k (fun kq v13 w' => ∃ (x13_1 : Int), v13 = .int .i64 x13_1 ∧ Aside0 (impl_Cell_82.l0 kq l0 l1 (l0.length : Int) x13_1 = some r) ∧ Aside0 (kq ≤ k) ∧ Drawn0 w w')
 case atStart => exact ⟨(0), zr, H', ⟨Nat.le_refl _⟩, by repeat (first | exact Drawn0.refl _ | apply Drawn0.step)⟩
 case round =>
  clear H'
  try clear c1
  try clear p2
  try clear c3
  try clear c3b0
  try clear c3b1
  try clear c3b2
  obtain ⟨x13_1, rfl, HA, HK1, ⟨m1, rfl⟩⟩ := hrel
  cases gk with
  | zero => exact absurd HA.out (by simp [impl_Cell_82.l0])
  | succ k1 =>
   have H := HA.out
   clear HA
   simp only [impl_Cell_82.l0] at H
   by_cases c4 : x13_1 < (l0.length : Int)
   rotate_left
   ·rw [if_neg c4] at H
    have c4b0 : decide (x13_1 < (l0.length : Int)) = false := decide_eq_false c4
    clear c4
    obtain rfl := Option.some.inj H
    go_wp2
    repeat (go_quiet (fail); try go_wp2)
    go_ret
    exact ⟨by first | rfl | (simp; done) | (simp [*]; done), by repeat (first | exact Drawn0.refl _ | apply Drawn0.step)⟩
   rw [if_pos c4] at H
   have c4b0 : decide (x13_1 < (l0.length : Int)) = true := decide_eq_true c4
   clear c4
   by_cases c5 : 0 ≤ x13_1
   rotate_left
   ·rw [if_neg c5] at H
    exact absurd H (by simp)
   rw [if_pos c5] at H
   have c5b0 : decide (0 ≤ x13_1) = true := decide_eq_true c5
   clear c5
   by_cases c6 : x13_1 < (l0.length : Int)
   rotate_left
   ·rw [if_neg c6] at H
    exact absurd H (by simp)
   rw [if_pos c6] at H
   have c6b0 : decide (x13_1 < (l0.length : Int)) = true := decide_eq_true c6
   clear c6
   by_cases c7 : x13_1 < (l1.length : Int)
   rotate_left
   ·rw [if_neg c7] at H
    exact absurd H (by simp)
   rw [if_pos c7] at H
   have c7b0 : decide (x13_1 < (l1.length : Int)) = true := decide_eq_true c7
   clear c7
   by_cases c8 : (!(((rd_T82 l0 x13_1).f0) == ((rd_T82 l1 x13_1).f0)) || (!(((rd_T82 l0 x13_1).f1) == ((rd_T82 l1 x13_1).f1)))) = true
   ·rw [if_pos c8] at H
    have c8b0 : (!(((rd_T82 l0 x13_1).f0) == ((rd_T82 l1 x13_1).f0)) || (!(((rd_T82 l0 x13_1).f1) == ((rd_T82 l1 x13_1).f1)))) = true := c8
    clear c8
    obtain rfl := Option.some.inj H
    have p445 : 0 ≤ (x13_1 : Int) := of_decide_eq_true za
    have q445 : x13_1 < (l0.length : Int) := of_decide_eq_true za
    obtain ⟨ad445, e445, hx445_0, hx445_1⟩ := at_T82 HR0.out x13_1 p445 q445
    cases e445
    replace p445 := eq_true p445
    replace q445 := eq_true q445
    have p446 : 0 ≤ (x13_1 : Int) := of_decide_eq_true za
    have q446 : x13_1 < (l1.length : Int) := of_decide_eq_true za
    obtain ⟨ad446, e446, hx446_0, hx446_1⟩ := at_T82 HR1.out x13_1 p446 q446
    cases e446
    replace p446 := eq_true p446
    replace q446 := eq_true q446
    go_wp2
    repeat (go_quiet (fail); try go_wp2)
    go_ret
    exact ⟨by first | rfl | (simp; done) | (simp [*]; done), by repeat (first | exact Drawn0.refl _ | apply Drawn0.step)⟩
   rw [if_neg c8] at H
   have c8b0 : (!(((rd_T82 l0 x13_1).f0) == ((rd_T82 l1 x13_1).f0)) || (!(((rd_T82 l0 x13_1).f1) == ((rd_T82 l1 x13_1).f1)))) = false := by simpa using c8
   clear c8
   have H' := aM H
   clear H
   have p445 : 0 ≤ (x13_1 : Int) := of_decide_eq_true za
   have q445 : x13_1 < (l0.length : Int) := of_decide_eq_true za
   obtain ⟨ad445, e445, hx445_0, hx445_1⟩ := at_T82 HR0.out x13_1 p445 q445
   cases e445
   replace p445 := eq_true p445
   replace q445 := eq_true q445
   have p446 : 0 ≤ (x13_1 : Int) := of_decide_eq_true za
   have q446 : x13_1 < (l1.length : Int) := of_decide_eq_true za
   obtain ⟨ad446, e446, hx446_0, hx446_1⟩ := at_T82 HR1.out x13_1 p446 q446
   cases e446
   replace p446 := eq_true p446
   replace q446 := eq_true q446
   go_wp2
   repeat (go_quiet (fail); try go_wp2)
   go_roundg k1
   case measure => have := HK1.out; omega
   case rel => exact ⟨(wrap64 (x13_1 + 1)), zr, H', ⟨by have := HK1.out; omega⟩, by repeat (first | exact Drawn0.refl _ | apply Drawn0.step)⟩
def impl_equalShapes.f (k : Nat) (l0 : List (S82)) (l1 : List (S82)) : Option (Bool) := (impl_Cell_82.f k l0 l1).bind fun t447 => (some t447)
theorem impl_equalShapes.calls (k : Nat) (A0 : Option Addr) (c0 : Nat) (l0 : List (S82)) (A1 : Option Addr) (c1 : Nat) (l1 : List (S82)) (r : Bool) (w : World) (hr0 : Kd.C k82 w A0 l0.length l0) (hc0 : l0.length ≤ c0) (hr1 : Kd.C k82 w A1 l1.length l1) (hc1 : l1.length ≤ c1) (h : impl_equalShapes.f k l0 l1 = some r) :
  Calls Tryz.prog 145 #[.slice A0 l0.length c0, .slice A1 l1.length c1] w fun e w' => e = .returned (.bool r) ∧ Drawn0 w w' := by
 have HR0 := aM hr0
 have HC0 := aM hc0
 clear hr0 hc0
 have HR1 := aM hr1
 have HC1 := aM hc1
 clear hr1 hc1
 have H : ((impl_Cell_82.f k l0 l1).bind fun t447 => (some t447)) = some r := h
 clear h
 replace H := Option.bind_eq_some_iff.mp H
 obtain ⟨t447, A30, H⟩ := H
 replace H : (some t447) = some r := H
 have A3 := aM A30
 clear A30
 obtain rfl := Option.some.inj H
 go_enter Tryz.func145, Tryz.ntmps145
 go_wp2_with (first | ((with_reducible refine gate_callee (f := 82) rfl ?_); refine goesL_ (some 7) rfl rfl Tryz.func82 (by kernel_rfl) rfl #[.slice A0 l0.length c0, .slice A1 l1.length c1] rfl zm ?_; (with_reducible refine (impl_Cell_82.calls k _ _ l0 _ _ l1 t447 _ ?side1 ?side2 ?side3 ?side4 A3.out).mono ?_); (case side1 => repeat (first | exact HR0.out | (with_reducible refine Kd.C_alloc ?_ _) | (with_reducible refine Kd.C_drewN ?_ _) | (with_reducible refine Kd.C_drew ?_))); (case side2 => exact HC0.out); (case side3 => repeat (first | exact HR1.out | (with_reducible refine Kd.C_alloc ?_ _) | (with_reducible refine Kd.C_drewN ?_ _) | (with_reducible refine Kd.C_drew ?_))); (case side4 => exact HC1.out); rintro e w' ⟨rfl, ⟨nd, rfl⟩⟩; refine ⟨_, rfl, ?_⟩))
 go_ret
 exact ⟨by first | rfl | (simp; done) | (simp [*]; done), by repeat (first | exact Drawn0.refl _ | apply Drawn0.step)⟩
end Go.Proofs.YtipafadbhmngnaaGreatDoor.F
end
section
namespace Go.Proofs.YtipafadbhmngnaaGreatDoor.F
open Go.RowKit Go.Proofs.YtipafadbhmngnaaGreatDoorW.PrintWords Go.Proofs.YtipafadbhmngnaaGreatDoorW.PrintLast Go.Proofs.YtipafadbhmngnaaGreatDoorW.PrintMore
attribute [local go_sem] max2_int min2_int max_two min_two max_three min_three max_four min_four
set_option linter.unusedVariables false
set_option linter.unusedSimpArgs false
open Go.Sort
def compG {β : Type} [DecidableEq β] (p : β) : List β → List β
  | [] => []
  | b :: r => if b = p then compG b r else b :: compG b r
def compF {β : Type} [DecidableEq β] : List β → List β
  | [] => []
  | a :: r => a :: compG a r
theorem compG_snoc {β : Type} [DecidableEq β] : ∀ (l : List β) (p b : β), compG p (l ++ [b]) = if b = (p :: l).getLast (by simp) then compG p l else compG p l ++ [b]
  | [], p, b => by
    by_cases h : b = p
    · simp [compG, h]
    · simp [compG, h]
  | a :: r, p, b => by
    have ih := compG_snoc r a b
    rw [List.cons_append, compG, compG, ih]
    have e : (p :: a :: r).getLast (by simp) = (a :: r).getLast (by simp) := List.getLast_cons (by simp)
    rw [e]
    by_cases h : a = p
    · rw [if_pos h, if_pos h]
    · rw [if_neg h, if_neg h]
      split
      · rfl
      · rfl
theorem compF_snoc {β : Type} [DecidableEq β] (l : List β) (b : β) (h : l ≠ []) : compF (l ++ [b]) = if b = l.getLast h then compF l else compF l ++ [b] := by
  cases l with
  | nil => exact absurd rfl h
  | cons a r =>
    rw [List.cons_append, compF, compF, compG_snoc]
    split
    · rfl
    · rfl
theorem compG_len {β : Type} [DecidableEq β] : ∀ (l : List β) (p : β), (compG p l).length ≤ l.length
  | [], _ => Nat.le_refl _
  | a :: r, p => by
    rw [compG]
    have := compG_len r a
    split
    · rw [List.length_cons]; omega
    · rw [List.length_cons, List.length_cons]; omega
theorem compF_len {β : Type} [DecidableEq β] (l : List β) : (compF l).length ≤ l.length := by
  cases l with
  | nil => exact Nat.le_refl _
  | cons a r => rw [compF, List.length_cons, List.length_cons]; have := compG_len r a; omega
theorem take_snoc_get {β : Type} (l : List β) (m : Nat) (h : m < l.length) : l.take (m + 1) = l.take m ++ [l[m]] := by
  rw [List.take_succ_eq_append_getElem h]
theorem compF_step {β : Type} [DecidableEq β] (l : List β) (m : Nat) (h : m < l.length) (h0 : 0 < m) : compF (l.take (m + 1)) = if l[m] = l[m - 1]'(by omega) then compF (l.take m) else compF (l.take m) ++ [l[m]] := by
  have hn : l.take m ≠ [] := by
    intro e
    have := congrArg List.length e
    rw [List.length_take, List.length_nil] at this
    omega
  rw [take_snoc_get l m h, compF_snoc _ _ hn]
  have e : (l.take m).getLast hn = l[m - 1]'(by omega) := by
    rw [List.getLast_eq_getElem]
    simp only [List.length_take, List.getElem_take]
    congr 1
    omega
  rw [e]
theorem take_sub {β : Type} (l : List β) {n m : Nat} (h : n ≤ m) : (l.take n).Sublist (l.take m) := by
  have : l.take n = (l.take m).take n := by rw [List.take_take, Nat.min_eq_left h]
  rw [this]
  exact List.take_sublist _ _
structure CompIv {α β : Type} [Inhabited α] [DecidableEq β] (key : α → β) (d : Array α) (m kk : Nat) (dk : Array α) : Prop where
  size : dk.size = d.size
  lt : kk < m
  le : m ≤ d.size
  low : (dk.toList.take kk).map key = compF ((d.toList.map key).take m)
  high : ∀ j, kk ≤ j → dk[j]! = d[j]!
  sub : (dk.toList.take kk).Sublist (d.toList.take m)
section
variable {α β : Type} [Inhabited α] [DecidableEq β] {key : α → β} {d dk : Array α} {m kk : Nat}
def AllKeep (key : α → β) (d : Array α) (m : Nat) : Prop := m ≤ d.size ∧ compF ((d.toList.map key).take m) = (d.toList.map key).take m
omit [Inhabited α] in
theorem AllKeep.one (h : 1 ≤ d.size) : AllKeep key d 1 := by
  refine ⟨h, ?_⟩
  cases hd : d.toList with
  | nil =>
    have e : d.toList.length = 0 := by rw [hd]; rfl
    rw [Array.length_toList] at e
    omega
  | cons a r => simp [compF, compG]
omit [DecidableEq β] in
theorem key_get (h : m < d.size) : (d.toList.map key)[m]'(by simpa using h) = key d[m]! := by
  rw [List.getElem_map, getElem!_pos d m h]
  simp
theorem AllKeep.step (h : AllKeep key d m) (h0 : 0 < m) (hm : m < d.size) (hk : key d[m]! ≠ key d[m - 1]!) : AllKeep key d (m + 1) := by
  refine ⟨hm, ?_⟩
  have hl : m < (d.toList.map key).length := by simpa using hm
  rw [compF_step _ m hl h0, key_get hm, key_get (by omega), if_neg hk, h.2, take_snoc_get _ m hl, key_get hm]
theorem CompIv.start (h : AllKeep key d kk) (h0 : 0 < kk) (hm : kk < d.size) (hk : key d[kk]! = key d[kk - 1]!) : CompIv key d (kk + 1) kk d where
  size := rfl
  lt := Nat.lt_succ_self _
  le := hm
  low := by
    have hl : kk < (d.toList.map key).length := by simpa using hm
    rw [compF_step _ kk hl h0, key_get hm, key_get (by omega), if_pos hk, h.2, List.map_take]
  high := fun _ _ => rfl
  sub := take_sub _ (Nat.le_succ _)
theorem CompIv.skip (h : CompIv key d m kk dk) (hm : m < d.size) (hk : key d[m]! = key d[m - 1]!) : CompIv key d (m + 1) kk dk where
  size := h.size
  lt := by have := h.lt; omega
  le := hm
  low := by
    have hl : m < (d.toList.map key).length := by simpa using hm
    have := h.lt
    rw [compF_step _ m hl (by omega), key_get hm, key_get (by omega), if_pos hk, h.low]
  high := h.high
  sub := h.sub.trans (take_sub _ (Nat.le_succ _))
omit [Inhabited α] in
theorem take_set {l : List α} {k : Nat} {x : α} (h : k < l.length) : (l.set k x).take (k + 1) = l.take k ++ [x] := by
  rw [take_snoc_get _ k (by simpa using h), List.take_set_of_le (Nat.le_refl _)]
  simp
theorem CompIv.keep (h : CompIv key d m kk dk) (hm : m < d.size) (hk : key d[m]! ≠ key d[m - 1]!) : CompIv key d (m + 1) (kk + 1) (dk.setIfInBounds kk d[m]!) where
  size := by simp [h.size]
  lt := by have := h.lt; omega
  le := hm
  low := by
    have hl : m < (d.toList.map key).length := by simpa using hm
    have h1 := h.lt
    have h2 := h.size
    rw [compF_step _ m hl (by omega), key_get hm, key_get (by omega), if_neg hk, ← h.low]
    have hkk : kk < dk.toList.length := by simp; omega
    rw [Array.toList_setIfInBounds, take_set hkk, List.map_append]
    rfl
  high := fun j hj => by rw [Go.Sort.getElem!_set_other dk kk j _ (by omega), h.high j (by omega)]
  sub := by
    have h1 := h.lt
    have h2 := h.size
    have hkk : kk < dk.toList.length := by simp; omega
    have hmm : m < d.toList.length := by simpa using hm
    rw [Array.toList_setIfInBounds, take_set hkk, take_snoc_get _ m hmm]
    refine h.sub.append ?_
    rw [getElem!_pos d m hm]
    simp
end
section
variable {α : Type} [Inhabited α] {enc : α → Value} {w0 W : World} {blk off : Nat} {dk : Array α}
theorem SW_set (h : SW enc w0 blk off dk W) (hblk : blk < w0.heap.size) (i : Nat) (hi : i < dk.size) (x : α) : SW enc w0 blk off (dk.setIfInBounds i x) (W.setCell ⟨blk, off + i, none⟩ (enc x)) := by
  obtain ⟨n, os, rfl⟩ := h
  refine ⟨n, os, ?_⟩
  unfold sortWorld
  rw [← putRow_grow enc (Go.Sort.ahead w0 n) os blk off dk hblk, Go.Sort.putRow_set enc _ blk off dk i x hi, putRow_grow enc (Go.Sort.ahead w0 n) os blk off _ hblk]
end
end Go.Proofs.YtipafadbhmngnaaGreatDoor.F
end
