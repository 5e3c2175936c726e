/- The row of FnTurnNumbers, with what it needs: text 9 of 11. -/
import Derived.Test.YtfdfdifjkaaeoaaKTN7
import Derived.ChangeArms
import Derived.ChangeSame
import Derived.Deep.Fields
import Derived.Deep.Slices
import Derived.Deep.Strs
import Derived.WideShapes
set_option maxHeartbeats 8000000
set_option maxRecDepth 100000
section
namespace Go.Proofs.Ytfdfdifjkaaeoaa.F
open Go.RowKit Go.Proofs.YtfdfdifjkaaeoaaW.PrintWords Go.Proofs.YtfdfdifjkaaeoaaW.PrintLast Go.Proofs.YtfdfdifjkaaeoaaW.PrintMore
attribute [local go_sem] max2_int min2_int max_two min_two max_three min_three max_four min_four
set_option linter.unusedVariables false
set_option linter.unusedSimpArgs false
theorem spec_BorderCells.calls (k : Nat) (A0 : Option Addr) (c0 : Nat) (l0 : List (S59)) (r1 : List Int) (r2 : Int) (w : World) (hr0 : Kd.C k59 w A0 l0.length l0) (hc0 : l0.length ≤ c0) (h : spec_BorderCells.f k l0 = some (r1, r2)) :
  Calls Try.prog 43 #[.slice A0 l0.length c0] w fun e w' => ∃ v0_ : Value, e = .returned (.tuple #[v0_, .int .i64 r2]) ∧ Kd.R (Kd.int .i64) 2 w' w.heap.size (fun _ => True) v0_ r1 ∧ Below w.heap.size w w' := by
 have hu59 := Try.underlying59
 have HR0 := aM hr0
 have HC0 := aM hc0
 clear hr0 hc0
 have HB := aM (Below.refl w.heap.size w)
 have H : ((spec_IsRegion.f k l0).bind fun t1142 => (if t1142 = true then (spec_BorderCells.l0 k l0 (([] : List Int)) 0) else (some (([] : List Int), 1)))) = some (r1, r2) := h
 clear h
 replace H := Option.bind_eq_some_iff.mp H
 obtain ⟨t1142, A20, H⟩ := H
 replace H : (if t1142 = true then (spec_BorderCells.l0 k l0 (([] : List Int)) 0) else (some (([] : List Int), 1))) = some (r1, r2) := H
 have A2 := aM A20
 clear A20
 by_cases c3 : t1142 = true
 rotate_left
 ·replace c3 := Bool.eq_false_iff.mpr c3
  subst c3
  have H1 : (some (([] : List Int), 1)) = some (r1, r2) := by rw [if_neg (show ¬ (false = true) by decide)] at H; exact H
  clear H
  have H := H1
  clear H1
  simp only [Option.some.injEq, Prod.mk.injEq] at H
  obtain ⟨rfl, rfl⟩ := H
  go_enter Try.func43, Try.ntmps43
  go_wp2_with (first | ((with_reducible refine gate_callee (f := 78) rfl ?_); refine goesL_ (some 10) rfl rfl Try.func78 (by kernel_rfl) rfl #[.slice A0 l0.length c0] rfl zm ?_; (with_reducible refine (spec_IsRegion.calls k _ _ l0 false _ ?side1 ?side2 A2.out).mono ?_); (case side1 => repeat (first | exact HR0.out | (with_reducible refine Kd.C_alloc ?_ _) | (with_reducible refine Kd.C_drewN ?_ _) | (with_reducible refine Kd.C_drew ?_))); (case side2 => exact HC0.out); rintro e w23 ⟨rfl, hb⟩; refine ⟨_, rfl, ?_⟩; have n0_ := aM (below_step zb hb); clear HB; have HB := n0_; clear n0_; (try clear hb); (try clear hb2); (try clear hk); (try clear hi)))
  go_ret2
  exact ⟨_, zw, by first | exact Kd.R_nil _ _ _ _ _ | exact Kd.N_nil _ _ _ _ _ | exact Kd.V_nil _ _ _ _ _ | exact Kd.Q_nil _ _ _ _ _ | exact Kd.S_nil _ _ _ _ _, zb⟩
 subst c3
 have H1 : (spec_BorderCells.l0 k l0 (([] : List Int)) 0) = some (r1, r2) := by rw [if_pos rfl] at H; exact H
 clear H
 have H := H1
 clear H1
 obtain ⟨y1143, hy1143⟩ : ∃ y_ : List Int, y_ = (([] : List Int)) := ⟨_, rfl⟩
 replace H : (spec_BorderCells.l0 k l0 y1143 0) = some (r1, r2) := zy H hy1143
 have Ny1143 := aM hy1143
 clear hy1143
 have H' := aM H
 clear H
 go_enter Try.func43, Try.ntmps43
 go_wp2_with (first | ((with_reducible refine gate_callee (f := 78) rfl ?_); refine goesL_ (some 10) rfl rfl Try.func78 (by kernel_rfl) rfl #[.slice A0 l0.length c0] rfl zm ?_; (with_reducible refine (spec_IsRegion.calls k _ _ l0 true _ ?side1 ?side2 A2.out).mono ?_); (case side1 => repeat (first | exact HR0.out | (with_reducible refine Kd.C_alloc ?_ _) | (with_reducible refine Kd.C_drewN ?_ _) | (with_reducible refine Kd.C_drew ?_))); (case side2 => exact HC0.out); rintro e w4 ⟨rfl, hb⟩; refine ⟨_, rfl, ?_⟩; have n0_ := aM (below_step zb hb); clear HB; have HB := n0_; clear n0_; (try clear hb); (try clear hb2); (try clear hk); (try clear hi)) | ((with_reducible refine gate_dst (N := 12) rfl ?_); refine Kd.R_lit (Kd.int .i64) _ 2 ?hg (N := 12) ?hd (xs := ([] : List Int)) (inner := []) (ok := fun _ => True) (okp := fun _ => True) ?hr ?hp (fun _ hk => hk) trivial (Below.refl _ _) (Nat.le_refl _) (by simp) ?_; (case hd => rfl); (case hg => rfl); (case hr => first | (go_simp; done) | (go_simp; rfl)); (case hp => exact (Reps.none _ _)); intro v1144 w5 ho6 hb hg_ hnew_; clear hg_ hnew_; (first | rw [← Ny1143.out] at ho6 | (simp only [Int.reduceToNat] at ho6; rw [← Ny1143.out] at ho6)); have n0_ := aM (Kd.R_lower ho6 (below_size zb)); have n1_ := aM (below_step zb hb); clear HB; have HO1145 := n0_; have HB := n1_; clear n0_ n1_; clear hb ho6))
 go_loopg [4, 5] k (fun kq v4 v5 w' => ∃ (x4_1 : List Int) (x5_1 : Int), v5 = .int .i64 x5_1 ∧ Aside0 (spec_BorderCells.l0 kq l0 x4_1 x5_1 = some (r1, r2)) ∧ Aside0 (kq ≤ k) ∧ Aside0 (Kd.R (Kd.int .i64) 2 w' w.heap.size (fun _ => True) v4 x4_1) ∧ Aside0 (Below w.heap.size w w'))
 case atStart => exact ⟨(y1143), (0), zr, H', ⟨Nat.le_refl _⟩, ⟨mR_ HO1145.out⟩, ⟨zb⟩⟩
 case round =>
  clear H'
  try clear p2
  try clear c3
  try clear c4
  obtain ⟨x4_1, x5_1, rfl, HA, HK1, HO_4, HB⟩ := hrel
  cases gk with
  | zero => exact absurd HA.out (by simp [spec_BorderCells.l0])
  | succ k1 =>
   have H := HA.out
   clear HA
   simp only [spec_BorderCells.l0] at H
   by_cases c7 : x5_1 < (l0.length : Int)
   rotate_left
   ·rw [if_neg c7] at H
    have c7b0 : decide (x5_1 < (l0.length : Int)) = false := decide_eq_false c7
    clear c7
    simp only [Option.some.injEq, Prod.mk.injEq] at H
    obtain ⟨rfl, rfl⟩ := H
    go_wp2
    go_ret2
    exact ⟨_, zw, mR_ HO_4.out, zb⟩
   rw [if_pos c7] at H
   have c7b0 : decide (x5_1 < (l0.length : Int)) = true := decide_eq_true c7
   clear c7
   by_cases c8 : 0 ≤ x5_1
   rotate_left
   ·rw [if_neg c8] at H
    exact absurd H (by simp)
   rw [if_pos c8] at H
   have c8b0 : decide (0 ≤ x5_1) = true := decide_eq_true c8
   clear c8
   replace H := Option.bind_eq_some_iff.mp H
   obtain ⟨t1147, A90, H⟩ := H
   replace H : (spec_BorderCells.l1 k1 l0 x4_1 x5_1 t1147 0 0) = some (r1, r2) := H
   have A9 := aM A90
   clear A90
   have H' := aM H
   clear H
   have p1146 : 0 ≤ (x5_1 : Int) := of_decide_eq_true za
   have q1146 : x5_1 < (l0.length : Int) := of_decide_eq_true za
   obtain ⟨ad1146, e1146, hx1146_0, hx1146_1⟩ := at_T59 HR0.out x5_1 p1146 q1146
   cases e1146
   replace hx1146_0 := zk HB.out hx1146_0
   replace hx1146_1 := zk HB.out hx1146_1
   replace p1146 := eq_true p1146
   replace q1146 := eq_true q1146
   go_wp2_with (first | ((with_reducible refine gate_callee (f := 87) rfl ?_); refine goesL_ (some 23) rfl rfl Try.func87 (by kernel_rfl) rfl #[.agg #[.int .i64 ((rd_T59 l0 x5_1).f0), .int .i64 ((rd_T59 l0 x5_1).f1)]] rfl zm ?_; (with_reducible refine (spec_l02Around.calls ((rd_T59 l0 x5_1).f0) ((rd_T59 l0 x5_1).f1) t1147 _ A9.out).mono ?_); rintro e w10 ⟨v1148, rfl, ho0, hb⟩; refine ⟨_, rfl, ?_⟩; have n0_ := aM (Kd.R_below (mR_ HO_4.out) hb); have n1_ := aM (Kd.R_lower ho0 (below_size zb)); have n2_ := aM (below_step zb hb); clear HO_4 HB; have HO_4 := n0_; have HO1149 := n1_; have HB := n2_; clear n0_ n1_ n2_; (try clear hb); (try clear hb2); (try clear hk); (try clear hi); (try clear ho0)))
   go_loopg [7, 8] k1 (fun kq v7 v8 w' => ∃ (x7_2 : Int) (x8_2 : Int), v7 = .int .i64 x7_2 ∧ v8 = .int .i64 x8_2 ∧ Aside0 (spec_BorderCells.l1 kq l0 x4_1 x5_1 t1147 x7_2 x8_2 = some (r1, r2)) ∧ Aside0 (kq ≤ k1) ∧ Aside0 (Kd.R (Kd.int .i64) 2 w' w.heap.size (fun _ => True) u4 x4_1) ∧ Aside0 (Kd.R k59 59 w' w.heap.size (fun _ => True) v1148 t1147) ∧ Aside0 (Below w.heap.size w w'))
   case atStart => exact ⟨(0), (0), zr, zr, H', ⟨Nat.le_refl _⟩, ⟨mR_ HO_4.out⟩, ⟨mR_ HO1149.out⟩, ⟨zb⟩⟩
   case round =>
    clear H'
    try clear p1
    try clear q1
    try clear hx1
    try clear p2
    try clear c3
    try clear c4
    try clear c7
    try clear c7b0
    try clear c8
    try clear c8b0
    try clear hx1146_0
    try clear hx1146_1
    try clear p1146
    try clear p2
    try clear q1146
    obtain ⟨x7_2, x8_2, rfl, rfl, HA, HK2, HO_4, HO_6, HB⟩ := hrel
    cases gk with
    | zero => exact absurd HA.out (by simp [spec_BorderCells.l1])
    | succ k2 =>
     have H := HA.out
     clear HA
     simp only [spec_BorderCells.l1] at H
     by_cases c11 : x8_2 < 4
     rotate_left
     ·rw [if_neg c11] at H
      have c11b0 : decide (x8_2 < 4) = false := decide_eq_false c11
      clear c11
      by_cases c20 : x7_2 < 4
      rotate_left
      ·rw [if_neg c20] at H
       have c20b0 : decide (x7_2 < 4) = false := decide_eq_false c20
       clear c20
       have H' := aM H
       clear H
       go_wp2
       go_roundg k2
       case measure => have := HK1.out; have := HK2.out; omega
       case rel => exact ⟨(x4_1), (wrap64 (x5_1 + 1)), zr, H', ⟨by have := HK1.out; have := HK2.out; omega⟩, ⟨mR_ HO_4.out⟩, ⟨zb⟩⟩
      rw [if_pos c20] at H
      have c20b0 : decide (x7_2 < 4) = true := decide_eq_true c20
      clear c20
      by_cases c21 : x4_1.length < 17592186044416
      rotate_left
      ·rw [if_neg c21] at H
       exact absurd H (by simp)
      rw [if_pos c21] at H
      have LMc21 := aM c21
      clear c21
      obtain ⟨y1152, hy1152⟩ : ∃ y_ : List Int, y_ = (x4_1 ++ [x5_1]) := ⟨_, rfl⟩
      replace H : (spec_BorderCells.l0 k2 l0 y1152 (wrap64 (x5_1 + 1))) = some (r1, r2) := zy H hy1152
      have Ny1152 := aM hy1152
      clear hy1152
      have H' := aM H
      clear H
      go_wp2_with (first | ((with_reducible refine gate_builtin (b := .append) (xs := #[.tmp 39, .tmp 41]) rfl ?_); at_builtin; refine Kd.R_append (Kd.int .i64) (w0 := w) w.heap.size rfl (.tmp 39) (.tmp 41) 41 2 (.int .i64 0) 8 rfl Try.underlying41 info2 rfl (by decide) (by omega) u4 x4_1 x5_1 [.int .i64 x5_1] (fun _ => True) (fun _ => False) rfl rfl ?aP (fun _ hk => hk.elim) ?aF ?aO ?aB ?aS ?aL ?_; (case aP => exact rfl); (case aB => exact zb); (case aF => exact (fun _ _ => trivial)); (case aO => exact (mR_ HO_4.out)); (case aS => exact (below_size zb)); (case aL => have := LMc21.out; omega); intro v1153 w22 ho hb hg hat; rw [← Ny1152.out] at ho; have n0_ := aM (Kd.R_over' (mR_ HO_6.out) (Kd.R_typed (mR_ HO_4.out)) (by decide) hg); have n1_ := aM (hb); have n2_ := aM (ho); clear HO_6 HB HO_4; have HO_6 := n0_; have HB := n1_; have HO1154 := n2_; clear n0_ n1_ n2_; clear ho hb hg hat))
      go_roundg k2
      case measure => have := HK1.out; have := HK2.out; omega
      case rel => exact ⟨(y1152), (wrap64 (x5_1 + 1)), zr, H', ⟨by have := HK1.out; have := HK2.out; omega⟩, ⟨mR_ HO1154.out⟩, ⟨zb⟩⟩
     rw [if_pos c11] at H
     have c11b0 : decide (x8_2 < 4) = true := decide_eq_true c11
     clear c11
     by_cases c12 : 0 ≤ x8_2
     rotate_left
     ·rw [if_neg c12] at H
      exact absurd H (by simp)
     rw [if_pos c12] at H
     have c12b0 : decide (0 ≤ x8_2) = true := decide_eq_true c12
     clear c12
     by_cases c13 : x8_2 < (t1147.length : Int)
     rotate_left
     ·rw [if_neg c13] at H
      exact absurd H (by simp)
     rw [if_pos c13] at H
     have c13b0 : decide (x8_2 < (t1147.length : Int)) = true := decide_eq_true c13
     clear c13
     replace H := Option.bind_eq_some_iff.mp H
     obtain ⟨t1151, A140, H⟩ := H
     replace H : (if t1151 ≥ 0 then (spec_BorderCells.l1 k2 l0 x4_1 x5_1 t1147 (wrap64 (x7_2 + 1)) (wrap64 (x8_2 + 1))) else (spec_BorderCells.l1 k2 l0 x4_1 x5_1 t1147 x7_2 (wrap64 (x8_2 + 1)))) = some (r1, r2) := H
     have A14 := aM A140
     clear A140
     by_cases c15 : t1151 ≥ 0
     ·rw [if_pos c15] at H
      have c15b0 : decide (0 ≤ t1151) = true := decide_eq_true c15
      clear c15
      have H' := aM H
      clear H
      obtain ⟨Ao16, co16, eo16⟩ := Kd.R_slice HO_6.out
      subst eo16
      have p1150 : 0 ≤ (x8_2 : Int) := of_decide_eq_true za
      have q1150 : x8_2 < (t1147.length : Int) := of_decide_eq_true za
      obtain ⟨ad1150, e1150, hx1150_0, hx1150_1⟩ := at_T59 (Kd.R_reads' HO_6.out).2.2 x8_2 p1150 q1150
      cases e1150
      replace p1150 := eq_true p1150
      replace q1150 := eq_true q1150
      go_wp2_with (first | ((with_reducible refine gate_callee (f := 67) rfl ?_); refine goesL_ (some 33) rfl rfl Try.func67 (by kernel_rfl) rfl #[.slice (some ad1146) l0.length c0, .agg #[.int .i64 ((rd_T59 t1147 x8_2).f0), .int .i64 ((rd_T59 t1147 x8_2).f1)]] rfl zm ?_; (with_reducible refine (spec_l02Index.calls k2 _ _ l0 ((rd_T59 t1147 x8_2).f0) ((rd_T59 t1147 x8_2).f1) t1151 _ ?side1 ?side2 A14.out).mono ?_); (case side1 => repeat (first | exact (Kd.C_below HR0.out HB.out) | (with_reducible refine Kd.C_alloc ?_ _) | (with_reducible refine Kd.C_drewN ?_ _) | (with_reducible refine Kd.C_drew ?_))); (case side2 => exact HC0.out); rintro e w17 ⟨rfl, hb⟩; refine ⟨_, rfl, ?_⟩; have n0_ := aM (Kd.R_below (mR_ HO_4.out) hb); have n1_ := aM (Kd.R_below (mR_ HO_6.out) hb); have n2_ := aM (below_step zb hb); clear HO_4 HO_6 HB; have HO_4 := n0_; have HO_6 := n1_; have HB := n2_; clear n0_ n1_ n2_; (try clear hb); (try clear hb2); (try clear hk); (try clear hi)))
      go_roundg k2
      case measure => have := HK1.out; have := HK2.out; omega
      case rel => exact ⟨(wrap64 (x7_2 + 1)), (wrap64 (x8_2 + 1)), zr, zr, H', ⟨by have := HK1.out; have := HK2.out; omega⟩, ⟨mR_ HO_4.out⟩, ⟨mR_ HO_6.out⟩, ⟨zb⟩⟩
     rw [if_neg c15] at H
     have c15b0 : decide (0 ≤ t1151) = false := decide_eq_false c15
     clear c15
     have H' := aM H
     clear H
     obtain ⟨Ao18, co18, eo18⟩ := Kd.R_slice HO_6.out
     subst eo18
     have p1150 : 0 ≤ (x8_2 : Int) := of_decide_eq_true za
     have q1150 : x8_2 < (t1147.length : Int) := of_decide_eq_true za
     obtain ⟨ad1150, e1150, hx1150_0, hx1150_1⟩ := at_T59 (Kd.R_reads' HO_6.out).2.2 x8_2 p1150 q1150
     cases e1150
     replace p1150 := eq_true p1150
     replace q1150 := eq_true q1150
     go_wp2_with (first | ((with_reducible refine gate_callee (f := 67) rfl ?_); refine goesL_ (some 33) rfl rfl Try.func67 (by kernel_rfl) rfl #[.slice (some ad1146) l0.length c0, .agg #[.int .i64 ((rd_T59 t1147 x8_2).f0), .int .i64 ((rd_T59 t1147 x8_2).f1)]] rfl zm ?_; (with_reducible refine (spec_l02Index.calls k2 _ _ l0 ((rd_T59 t1147 x8_2).f0) ((rd_T59 t1147 x8_2).f1) t1151 _ ?side1 ?side2 A14.out).mono ?_); (case side1 => repeat (first | exact (Kd.C_below HR0.out HB.out) | (with_reducible refine Kd.C_alloc ?_ _) | (with_reducible refine Kd.C_drewN ?_ _) | (with_reducible refine Kd.C_drew ?_))); (case side2 => exact HC0.out); rintro e w19 ⟨rfl, hb⟩; refine ⟨_, rfl, ?_⟩; have n0_ := aM (Kd.R_below (mR_ HO_4.out) hb); have n1_ := aM (Kd.R_below (mR_ HO_6.out) hb); have n2_ := aM (below_step zb hb); clear HO_4 HO_6 HB; have HO_4 := n0_; have HO_6 := n1_; have HB := n2_; clear n0_ n1_ n2_; (try clear hb); (try clear hb2); (try clear hk); (try clear hi)))
     go_roundg k2
     case measure => have := HK1.out; have := HK2.out; omega
     case rel => exact ⟨(x7_2), (wrap64 (x8_2 + 1)), zr, zr, H', ⟨by have := HK1.out; have := HK2.out; omega⟩, ⟨mR_ HO_4.out⟩, ⟨mR_ HO_6.out⟩, ⟨zb⟩⟩
def laws_hasInt.l0 : Nat → List Int → Int → Int → Option (Bool)
 | 0, _, _, _ => none
 | k + 1, x0, x1, x5 => if x5 < (x0.length : Int) then (if 0 ≤ x5 then (if (rd x0 x5) = x1 then (some true) else (laws_hasInt.l0 k x0 x1 (wrap64 (x5 + 1)))) else (none)) else (some false)
def laws_hasInt.f (k : Nat) (l0 : List Int) (a1 : Int) : Option (Bool) := laws_hasInt.l0 k l0 a1 0
theorem laws_hasInt.calls (k : Nat) (A0 : Option Addr) (c0 : Nat) (l0 : List Int) (a1 : Int) (r : Bool) (w : World) (hr0 : Kd.C (Kd.int .i64) w A0 l0.length l0) (hc0 : l0.length ≤ c0) (h : laws_hasInt.f k l0 a1 = some r) :
  Calls Try.prog 44 #[.slice A0 l0.length c0, .int .i64 a1] w fun e w' => e = .returned (.bool r) ∧ Drawn0 w w' := by
 have HR0 := aM hr0
 have HC0 := aM hc0
 clear hr0 hc0
 have H : (laws_hasInt.l0 k l0 a1 0) = some r := h
 clear h
 have H' := aM H
 clear H
 go_enter Try.func44, Try.ntmps44
 go_wp2
 go_loopg [5] k (fun kq v5 w' => ∃ (x5_1 : Int), v5 = .int .i64 x5_1 ∧ Aside0 (laws_hasInt.l0 kq l0 a1 x5_1 = some r) ∧ Aside0 (kq ≤ k) ∧ Drawn0 w w')
 case atStart => exact ⟨(0), zr, H', ⟨Nat.le_refl _⟩, by repeat (first | exact Drawn0.refl _ | apply Drawn0.step)⟩
 case round =>
  clear H'
  try clear p2
  obtain ⟨x5_1, rfl, HA, HK1, ⟨m1, rfl⟩⟩ := hrel
  cases gk with
  | zero => exact absurd HA.out (by simp [laws_hasInt.l0])
  | succ k1 =>
   have H := HA.out
   clear HA
   simp only [laws_hasInt.l0] at H
   by_cases c3 : x5_1 < (l0.length : Int)
   rotate_left
   ·rw [if_neg c3] at H
    have c3b0 : decide (x5_1 < (l0.length : Int)) = false := decide_eq_false c3
    clear c3
    obtain rfl := Option.some.inj H
    go_wp2
    go_ret
    exact ⟨by first | rfl | (simp; done) | (simp [*]; done), by repeat (first | exact Drawn0.refl _ | apply Drawn0.step)⟩
   rw [if_pos c3] at H
   have c3b0 : decide (x5_1 < (l0.length : Int)) = true := decide_eq_true c3
   clear c3
   by_cases c4 : 0 ≤ x5_1
   rotate_left
   ·rw [if_neg c4] at H
    exact absurd H (by simp)
   rw [if_pos c4] at H
   have c4b0 : decide (0 ≤ x5_1) = true := decide_eq_true c4
   clear c4
   by_cases c5 : (rd l0 x5_1) = a1
   ·rw [if_pos c5] at H
    have c5b0 : ((rd l0 x5_1) == a1) = true := beq_iff_eq.mpr c5
    have c5b1 : ((rd l0 x5_1) != a1) = false := bne_eq_false_iff_eq.mpr c5
    clear c5
    obtain rfl := Option.some.inj H
    have p1155 : 0 ≤ (x5_1 : Int) := of_decide_eq_true za
    have q1155 : x5_1 < (l0.length : Int) := of_decide_eq_true za
    obtain ⟨ad1155, e1155, hx1155_0⟩ := Kd.at_int HR0.out x5_1 p1155 q1155
    cases e1155
    replace p1155 := eq_true p1155
    replace q1155 := eq_true q1155
    go_wp2
    go_ret
    exact ⟨by first | rfl | (simp; done) | (simp [*]; done), by repeat (first | exact Drawn0.refl _ | apply Drawn0.step)⟩
   rw [if_neg c5] at H
   have c5b0 : ((rd l0 x5_1) == a1) = false := beq_eq_false_iff_ne.mpr c5
   have c5b1 : ((rd l0 x5_1) != a1) = true := bne_iff_ne.mpr c5
   have H' := aM H
   clear H
   have p1155 : 0 ≤ (x5_1 : Int) := of_decide_eq_true za
   have q1155 : x5_1 < (l0.length : Int) := of_decide_eq_true za
   obtain ⟨ad1155, e1155, hx1155_0⟩ := Kd.at_int HR0.out x5_1 p1155 q1155
   cases e1155
   replace p1155 := eq_true p1155
   replace q1155 := eq_true q1155
   go_wp2
   go_roundg k1
   case measure => have := HK1.out; omega
   case rel => exact ⟨(wrap64 (x5_1 + 1)), zr, H', ⟨by have := HK1.out; omega⟩, by repeat (first | exact Drawn0.refl _ | apply Drawn0.step)⟩
def laws_near.f (a0_0 : Int) (a0_1 : Int) (a1_0 : Int) (a1_1 : Int) : Option (Bool) := some ((wrap64 ((wrap64 ((wrap64 (a0_0 - a1_0)) * (wrap64 (a0_0 - a1_0)))) + (wrap64 ((wrap64 (a0_1 - a1_1)) * (wrap64 (a0_1 - a1_1)))))) == 1)
theorem laws_near.calls (a0_0 : Int) (a0_1 : Int) (a1_0 : Int) (a1_1 : Int) (r : Bool) (w : World) (h : laws_near.f a0_0 a0_1 a1_0 a1_1 = some r) :
  Calls Try.prog 45 #[.agg #[.int .i64 a0_0, .int .i64 a0_1], .agg #[.int .i64 a1_0, .int .i64 a1_1]] w fun e w' => e = .returned (.bool r) ∧ Below w.heap.size w w' := by
 have hu59 := Try.underlying59
 have HB := aM (Below.refl w.heap.size w)
 have H : (some ((wrap64 ((wrap64 ((wrap64 (a0_0 - a1_0)) * (wrap64 (a0_0 - a1_0)))) + (wrap64 ((wrap64 (a0_1 - a1_1)) * (wrap64 (a0_1 - a1_1)))))) == 1)) = some r := h
 clear h
 obtain rfl := Option.some.inj H
 go_enter Try.func45, Try.ntmps45
 go_wp2_with (first | ((with_reducible refine gate_dst (N := 2) rfl ?_); refine zx 2 #[.int .i64 a0_0, .int .i64 a0_1] 59 ?_; intro gb1156 hg w3 hbox hb; have n0_ := aM (below_step zb hb); have n1_ := aM (hbox); have n2_ := aM ((ze : w.heap.size ≤ gb1156)); have n3_ := aM ((ze : w.heap.size ≤ gb1156)); clear HB; have HB := n0_; have BK1156 := n1_; have GW1156 := n2_; have GE1156 := n3_; clear n0_ n1_ n2_ n3_; clear hb hbox hg) | ((with_reducible refine gate_dst (N := 3) rfl ?_); refine zx 3 #[.int .i64 a1_0, .int .i64 a1_1] 59 ?_; intro gb1157 hg w4 hbox hb; have n0_ := aM (blk_below (g := gb1156) (o := .cells #[.int .i64 a0_0, .int .i64 a0_1] 59 (0, 0)) (mB_ BK1156.out) hb); have n1_ := aM (below_step (zs GE1156.out) hb); have n2_ := aM (hbox); have n3_ := aM ((zf GE1156.out : w.heap.size ≤ gb1157)); have n4_ := aM ((zf GE1156.out : w.heap.size ≤ gb1157)); have n5_ := aM ((zl BK1156.out : gb1156 ≠ gb1157)); have n6_ := aM ((zn BK1156.out : gb1157 ≠ gb1156)); clear BK1156 HB; have BK1156 := n0_; have HB := n1_; have BK1157 := n2_; have GW1157 := n3_; have GE1157 := n4_; have NB1156_1157 := n5_; have NB1157_1156 := n6_; clear n0_ n1_ n2_ n3_ n4_ n5_ n6_ hb hbox hg; have hnb5 := NB1156_1157.out; have hnc5 := NB1157_1156.out; have hcz6_0 : w4.cell? ⟨gb1156, 0, none⟩ = some (.int .i64 a0_0) := (blk_cell BK1156.out 0).trans rfl; have hcz6_1 : w4.cell? ⟨gb1156, 1, none⟩ = some (.int .i64 a0_1) := (blk_cell BK1156.out 1).trans rfl; have hfz6_0 := blk_frozen BK1156.out 0; have hfz6_1 := blk_frozen BK1156.out 1; have hcz7_0 : w4.cell? ⟨gb1157, 0, none⟩ = some (.int .i64 a1_0) := (blk_cell BK1157.out 0).trans rfl; have hcz7_1 : w4.cell? ⟨gb1157, 1, none⟩ = some (.int .i64 a1_1) := (blk_cell BK1157.out 1).trans rfl; have hfz7_0 := blk_frozen BK1157.out 0; have hfz7_1 := blk_frozen BK1157.out 1))
 repeat (go_quiet (first | ((with_reducible refine gate_dst (N := 2) rfl ?_); refine zx 2 #[.int .i64 a0_0, .int .i64 a0_1] 59 ?_; intro gb1156 hg w3 hbox hb; have n0_ := aM (below_step zb hb); have n1_ := aM (hbox); have n2_ := aM ((ze : w.heap.size ≤ gb1156)); have n3_ := aM ((ze : w.heap.size ≤ gb1156)); clear HB; have HB := n0_; have BK1156 := n1_; have GW1156 := n2_; have GE1156 := n3_; clear n0_ n1_ n2_ n3_; clear hb hbox hg) | ((with_reducible refine gate_dst (N := 3) rfl ?_); refine zx 3 #[.int .i64 a1_0, .int .i64 a1_1] 59 ?_; intro gb1157 hg w4 hbox hb; have n0_ := aM (blk_below (g := gb1156) (o := .cells #[.int .i64 a0_0, .int .i64 a0_1] 59 (0, 0)) (mB_ BK1156.out) hb); have n1_ := aM (below_step (zs GE1156.out) hb); have n2_ := aM (hbox); have n3_ := aM ((zf GE1156.out : w.heap.size ≤ gb1157)); have n4_ := aM ((zf GE1156.out : w.heap.size ≤ gb1157)); have n5_ := aM ((zl BK1156.out : gb1156 ≠ gb1157)); have n6_ := aM ((zn BK1156.out : gb1157 ≠ gb1156)); clear BK1156 HB; have BK1156 := n0_; have HB := n1_; have BK1157 := n2_; have GW1157 := n3_; have GE1157 := n4_; have NB1156_1157 := n5_; have NB1157_1156 := n6_; clear n0_ n1_ n2_ n3_ n4_ n5_ n6_ hb hbox hg; have hnb5 := NB1156_1157.out; have hnc5 := NB1157_1156.out; have hcz6_0 : w4.cell? ⟨gb1156, 0, none⟩ = some (.int .i64 a0_0) := (blk_cell BK1156.out 0).trans rfl; have hcz6_1 : w4.cell? ⟨gb1156, 1, none⟩ = some (.int .i64 a0_1) := (blk_cell BK1156.out 1).trans rfl; have hfz6_0 := blk_frozen BK1156.out 0; have hfz6_1 := blk_frozen BK1156.out 1; have hcz7_0 : w4.cell? ⟨gb1157, 0, none⟩ = some (.int .i64 a1_0) := (blk_cell BK1157.out 0).trans rfl; have hcz7_1 : w4.cell? ⟨gb1157, 1, none⟩ = some (.int .i64 a1_1) := (blk_cell BK1157.out 1).trans rfl; have hfz7_0 := blk_frozen BK1157.out 0; have hfz7_1 := blk_frozen BK1157.out 1)); try go_wp2_with (first | ((with_reducible refine gate_dst (N := 2) rfl ?_); refine zx 2 #[.int .i64 a0_0, .int .i64 a0_1] 59 ?_; intro gb1156 hg w3 hbox hb; have n0_ := aM (below_step zb hb); have n1_ := aM (hbox); have n2_ := aM ((ze : w.heap.size ≤ gb1156)); have n3_ := aM ((ze : w.heap.size ≤ gb1156)); clear HB; have HB := n0_; have BK1156 := n1_; have GW1156 := n2_; have GE1156 := n3_; clear n0_ n1_ n2_ n3_; clear hb hbox hg) | ((with_reducible refine gate_dst (N := 3) rfl ?_); refine zx 3 #[.int .i64 a1_0, .int .i64 a1_1] 59 ?_; intro gb1157 hg w4 hbox hb; have n0_ := aM (blk_below (g := gb1156) (o := .cells #[.int .i64 a0_0, .int .i64 a0_1] 59 (0, 0)) (mB_ BK1156.out) hb); have n1_ := aM (below_step (zs GE1156.out) hb); have n2_ := aM (hbox); have n3_ := aM ((zf GE1156.out : w.heap.size ≤ gb1157)); have n4_ := aM ((zf GE1156.out : w.heap.size ≤ gb1157)); have n5_ := aM ((zl BK1156.out : gb1156 ≠ gb1157)); have n6_ := aM ((zn BK1156.out : gb1157 ≠ gb1156)); clear BK1156 HB; have BK1156 := n0_; have HB := n1_; have BK1157 := n2_; have GW1157 := n3_; have GE1157 := n4_; have NB1156_1157 := n5_; have NB1157_1156 := n6_; clear n0_ n1_ n2_ n3_ n4_ n5_ n6_ hb hbox hg; have hnb5 := NB1156_1157.out; have hnc5 := NB1157_1156.out; have hcz6_0 : w4.cell? ⟨gb1156, 0, none⟩ = some (.int .i64 a0_0) := (blk_cell BK1156.out 0).trans rfl; have hcz6_1 : w4.cell? ⟨gb1156, 1, none⟩ = some (.int .i64 a0_1) := (blk_cell BK1156.out 1).trans rfl; have hfz6_0 := blk_frozen BK1156.out 0; have hfz6_1 := blk_frozen BK1156.out 1; have hcz7_0 : w4.cell? ⟨gb1157, 0, none⟩ = some (.int .i64 a1_0) := (blk_cell BK1157.out 0).trans rfl; have hcz7_1 : w4.cell? ⟨gb1157, 1, none⟩ = some (.int .i64 a1_1) := (blk_cell BK1157.out 1).trans rfl; have hfz7_0 := blk_frozen BK1157.out 0; have hfz7_1 := blk_frozen BK1157.out 1)))
 go_ret
 exact ⟨zw, zt GE1156.out GE1157.out⟩
def permL (n : Int) : List Int → List Bool → Bool
  | [], _ => true
  | k :: r, seen => if 0 ≤ k ∧ k ≤ n - 1 then (if seen.getD k.toNat false = true then false else permL n r (seen.set k.toNat true)) else false
theorem permL_drop (n : Int) (l : List Int) (j : Nat) (hj : j < l.length) (seen : List Bool) : permL n (l.drop j) seen = if 0 ≤ rd l (j : Int) ∧ rd l (j : Int) ≤ n - 1 then (if seen.getD (rd l (j : Int)).toNat false = true then false else permL n (l.drop (j + 1)) (seen.set (rd l (j : Int)).toNat true)) else false := by
  rw [← List.getElem_cons_drop hj, permL]
  have : rd l (j : Int) = l[j] := by simp [rd, List.getD, hj]
  rw [this]
def impl_IsPermutation.f (l0 : List Int) : Option (Bool) := if l0.length > 64 then some false else some (permL (l0.length : Int) l0 (List.replicate 64 false))
set_option maxHeartbeats 4000000 in
theorem impl_IsPermutation.calls (A0 : Option Addr) (c0 : Nat) (l0 : List Int) (r : Bool) (w : World) (hr0 : Kd.C (Kd.int .i64) w A0 l0.length l0) (hc0 : l0.length ≤ c0) (h : impl_IsPermutation.f l0 = some r) :
    Calls Try.prog 46 #[.slice A0 l0.length c0] w fun e w' => e = .returned (.bool r) ∧ Below w.heap.size w w' := by
  unfold impl_IsPermutation.f at h
  have HR := aM hr0
  clear hr0
  by_cases hl : l0.length > 64
  · rw [if_pos hl] at h
    obtain rfl := Option.some.inj h
    have hb : decide ((64 : Int) < (l0.length : Int)) = true := decide_eq_true (by omega)
    go_enter Try.func46, Try.ntmps46
    go_wp2
    go_ret
    exact ⟨rfl, Below.refl _ _⟩
  · rw [if_neg hl] at h
    obtain rfl := Option.some.inj h
    clear h
    have hb : decide ((64 : Int) < (l0.length : Int)) = false := decide_eq_false (by omega)
    go_enter Try.func46, Try.ntmps46
    have HL := aM hl
    clear hl
    have hi : Try.prog.underlying 88 = some (.array 64 4) := Try.underlying88
    go_wp2
    go_loopg [5, 11] l0.length (fun gg _ s11 w' => ∃ (kk : Nat) (seen : List Bool), s11 = .int .i64 kk ∧ Aside0 (kk ≤ l0.length ∧ l0.length - kk ≤ gg ∧ permL (l0.length : Int) l0 (List.replicate 64 false) = permL (l0.length : Int) (l0.drop kk) seen ∧ seen.length = 64) ∧ Aside0 (w'.heap[w.heap.size]? = some (.cells (seen.map Value.bool).toArray 88 (0, 0))) ∧ Aside0 (Below w.heap.size w w'))
    case atStart => exact ⟨0, List.replicate 64 false, rfl, ⟨Nat.zero_le _, by omega, rfl, by simp⟩, ⟨blk_new w _⟩, ⟨below_alloc (Below.refl _ _) _⟩⟩
    case round =>
      obtain ⟨kk, seen, rfl, HK, HG, HB⟩ := hrel
      by_cases hlt : kk < l0.length
      · have hltz : decide ((kk : Int) < (l0.length : Int)) = true := decide_eq_true (by omega)
        have HD := aM (permL_drop (l0.length : Int) l0 kk hlt seen)
        have p9 : 0 ≤ (kk : Int) := by omega
        have q9 : (kk : Int) < (l0.length : Int) := by omega
        obtain ⟨ad9, e9, hx9⟩ := Kd.at_int (Kd.C_below HR.out HB.out) (kk : Int) p9 q9
        cases e9
        rw [Int.toNat_natCast] at hx9
        replace p9 := eq_true p9
        replace q9 := eq_true q9
        generalize hz : rd l0 (kk : Int) = z at hx9 HD
        have ew : wrap64 ((l0.length : Int) - 1) = (l0.length : Int) - 1 := by have := HL.out; unfold wrap64; omega
        have HW := aM (show impl_within.f z 0 ((l0.length : Int) - 1) = some (decide (0 ≤ z ∧ z ≤ (l0.length : Int) - 1)) by
          unfold impl_within.f
          by_cases hz0 : z ≥ 0
          · rw [if_pos hz0]; congr 1; simp; omega
          · rw [if_neg hz0]; congr 1; simp; omega)
        clear hz
        by_cases hin : 0 ≤ z ∧ z ≤ (l0.length : Int) - 1
        · have hc9 : wr.cell? ⟨w.heap.size, z.toNat, none⟩ = some (.bool (seen.getD z.toNat false)) := by
            rw [blk_cell HG.out z.toNat]
            have h1 := HK.out.2.2.2
            have h2 := HL.out
            have h3 : z.toNat < seen.length := by omega
            simp [List.getD, h3]
          have HW2 := HW.out
          rw [decide_eq_true hin] at HW2
          have HW3 := aM HW2
          clear HW2
          have hz1 : (0 ≤ z) = True := eq_true hin.1
          have hz2 : (z < 64) = True := eq_true (by have := HL.out; omega)
          have hz3 : z.toNat < 64 := by have := HL.out; omega
          have hf9 : wr.frozen? ⟨w.heap.size, z.toNat, none⟩ = false := blk_frozen HG.out z.toNat
          cases hs : seen.getD z.toNat false with
          | true =>
            rw [hs] at hc9
            have HS := aM hs
            clear hs
            go_wp2_with fail
            rw [ew]
            refine (impl_within.calls z 0 ((l0.length : Int) - 1) true _ HW3.out).mono ?_
            rintro e w' ⟨rfl, ⟨q, rfl⟩⟩
            go_wp2
            go_ret
            refine ⟨?_, pw_below_drewN HB.out q⟩
            rw [HK.out.2.2.1, HD.out, if_pos hin, if_pos HS.out]; rfl
          | false =>
            rw [hs] at hc9
            have HS := aM hs
            clear hs
            go_wp2_with fail
            rw [ew]
            refine (impl_within.calls z 0 ((l0.length : Int) - 1) true _ HW3.out).mono ?_
            rintro e w' ⟨rfl, ⟨q, rfl⟩⟩
            go_wp2
            go_roundg (l0.length - (kk + 1))
            case measure => have := HK.out; omega
            case rel =>
              refine ⟨kk + 1, seen.set z.toNat true, ?_, ⟨by omega, by omega, ?_, by rw [List.length_set]; exact HK.out.2.2.2⟩, ⟨?_⟩, ⟨?_⟩⟩
              · have := HL.out
                rw [show wrap64 ((kk : Int) + 1) = ((kk + 1 : Nat) : Int) from by unfold wrap64; omega]
              · rw [HK.out.2.2.1, HD.out, if_pos hin, if_neg (by rw [HS.out]; simp)]
              · refine blk_put (cs := (seen.map Value.bool).toArray) ?_ z.toNat (.bool true) (by simp [List.map_set])
                exact blk_drewN HG.out q
              · refine below_set ?_ (Nat.le_refl _)
                exact pw_below_drewN HB.out q
        · have HW2 := HW.out
          rw [decide_eq_false hin] at HW2
          have HW3 := aM HW2
          clear HW2
          go_wp2_with fail
          rw [ew]
          refine (impl_within.calls z 0 ((l0.length : Int) - 1) false _ HW3.out).mono ?_
          rintro e w' ⟨rfl, ⟨q, rfl⟩⟩
          go_wp2
          go_ret
          refine ⟨?_, pw_below_drewN HB.out q⟩
          rw [HK.out.2.2.1, HD.out, if_neg hin]; rfl
      · have hltz : decide ((kk : Int) < (l0.length : Int)) = false := decide_eq_false (by omega)
        have e : kk = l0.length := by have := HK.out.1; omega
        go_wp2
        go_ret
        refine ⟨?_, HB.out⟩
        rw [HK.out.2.2.1, e, List.drop_length]; rfl
mutual
def laws_FnTurnNumbers.j0 : Nat → List (S59) → Int → List Int → Int → List Int → List Int → List Int → Bool → Option (Bool)
 | 0, _, _, _, _, _, _, _, _ => none
 | k + 1, x3, x4, x5, x6, x7, x9, x13, x88 => if x88 = true then (some false) else (if x6 = 0 then (laws_FnTurnNumbers.l0 k x3 x4 x5 x7 x9 x13 0) else (if x6 = 5 then ((laws_hasInt.f k x9 x4).bind fun t1190 => (some (!t1190))) else (some true)))
def laws_FnTurnNumbers.l0 : Nat → List (S59) → Int → List Int → List Int → List Int → List Int → Int → Option (Bool)
 | 0, _, _, _, _, _, _, _ => none
 | k + 1, x3, x4, x5, x7, x9, x13, x17 => if x17 < (x3.length : Int) then ((laws_hasInt.f k x13 x17).bind fun t1193 => (if 0 ≤ x17 then (if x17 < (x7.length : Int) then ((laws_hasInt.f k x13 (rd x7 x17)).bind fun t1195 => (if (t1193 != t1195) = true then (some false) else (laws_FnTurnNumbers.l1 k x3 x4 x5 x7 x9 x13 x17 0))) else (none)) else (none))) else ((impl_IsPermutation.f x5).bind fun t1191 => (if t1191 = true then ((laws_hasInt.f k x9 x4).bind fun t1192 => (some t1192)) else (some false)))
def laws_FnTurnNumbers.l1 : Nat → List (S59) → Int → List Int → List Int → List Int → List Int → Int → Int → Option (Bool)
 | 0, _, _, _, _, _, _, _, _ => none
 | k + 1, x3, x4, x5, x7, x9, x13, x17, x18 => if x18 < x17 then (if 0 ≤ x17 then (if x17 < (x3.length : Int) then (if 0 ≤ x18 then (if x18 < (x3.length : Int) then ((laws_near.f ((rd_T59 x3 x17).f0) ((rd_T59 x3 x17).f1) ((rd_T59 x3 x18).f0) ((rd_T59 x3 x18).f1)).bind fun t1198 => (if x17 < (x7.length : Int) then (if 0 ≤ (rd x7 x17) then (if (rd x7 x17) < (x3.length : Int) then (if x18 < (x7.length : Int) then (if 0 ≤ (rd x7 x18) then (if (rd x7 x18) < (x3.length : Int) then ((laws_near.f ((rd_T59 x3 (rd x7 x17)).f0) ((rd_T59 x3 (rd x7 x17)).f1) ((rd_T59 x3 (rd x7 x18)).f0) ((rd_T59 x3 (rd x7 x18)).f1)).bind fun t1203 => (if (t1198 != t1203) = true then (some false) else (laws_FnTurnNumbers.l1 k x3 x4 x5 x7 x9 x13 x17 (wrap64 (x18 + 1))))) else (none)) else (none)) else (none)) else (none)) else (none)) else (none))) else (none)) else (none)) else (none)) else (none)) else (laws_FnTurnNumbers.l0 k x3 x4 x5 x7 x9 x13 (wrap64 (x17 + 1)))
end
def laws_FnTurnNumbers.f (k : Nat) (l0 : List Int) : Option (Bool) := (laws_big.f l0).bind fun t1158 => (if t1158 = true then (some true) else ((spec_DrawTurnNumbers.f k l0).bind fun bt1159 => ((impl_TurnNumbers.f k bt1159.1 bt1159.2).bind fun bt1163 => ((spec_TurnNumbers.f k bt1159.1 bt1159.2).bind fun bt1167 => ((impl_RegionSymmetries.f k bt1159.1).bind fun bt1171 => ((spec_RegionSymmetries.f k bt1159.1).bind fun bt1175 => ((impl_BorderCells.f k bt1159.1).bind fun bt1179 => ((spec_BorderCells.f k bt1159.1).bind fun bt1183 => (if bt1163.2 = bt1167.2 then ((laws_likeInts.f k bt1163.1 bt1167.1).bind fun t1187 => (if t1187 = true then (if bt1171.2 = bt1175.2 then ((laws_likeInts.f k bt1171.1 bt1175.1).bind fun t1188 => (if t1188 = true then (if bt1179.2 = bt1183.2 then ((laws_likeInts.f k bt1179.1 bt1183.1).bind fun t1189 => (laws_FnTurnNumbers.j0 k bt1159.1 bt1159.2 bt1163.1 bt1163.2 bt1167.1 bt1171.1 bt1179.1 (!t1189))) else (laws_FnTurnNumbers.j0 k bt1159.1 bt1159.2 bt1163.1 bt1163.2 bt1167.1 bt1171.1 bt1179.1 true)) else (laws_FnTurnNumbers.j0 k bt1159.1 bt1159.2 bt1163.1 bt1163.2 bt1167.1 bt1171.1 bt1179.1 true))) else (laws_FnTurnNumbers.j0 k bt1159.1 bt1159.2 bt1163.1 bt1163.2 bt1167.1 bt1171.1 bt1179.1 true)) else (laws_FnTurnNumbers.j0 k bt1159.1 bt1159.2 bt1163.1 bt1163.2 bt1167.1 bt1171.1 bt1179.1 true))) else (laws_FnTurnNumbers.j0 k bt1159.1 bt1159.2 bt1163.1 bt1163.2 bt1167.1 bt1171.1 bt1179.1 true))))))))))
def laws_FnTurnNumbers.T17 : Bool × List (List Nat × List Nat) := (true, [([], []), ([], []), ([0, 1], [0, 1]), ([], []), ([], []), ([], []), ([4, 5], [4, 5]), ([6], [6]), ([3, 7, 2], [3, 7]), ([2, 8], [2, 8])])
def laws_FnTurnNumbers.B17 : List Nat := [0, 0, 3, 0, 0, 0, 48, 112, 255, 511]
theorem laws_FnTurnNumbers.tab17 : rtab .any (opsOf Try.f7 17) = laws_FnTurnNumbers.T17 := by kernel_rfl
theorem laws_FnTurnNumbers.bits17 : waitsOk laws_FnTurnNumbers.T17.2 laws_FnTurnNumbers.B17 = true := by kernel_rfl
def laws_FnTurnNumbers.T22 : Bool × List (List Nat × List Nat) := (true, [([], []), ([], []), ([0, 1], [0, 1]), ([2], [2]), ([], []), ([], []), ([4, 5], [4, 5]), ([6], [6]), ([3, 7], [3, 7]), ([], []), ([], []), ([], []), ([10, 11], [10, 11]), ([12], [12]), ([9, 13], [9, 13]), ([14], [14]), ([], []), ([], []), ([], []), ([17, 18], [17, 18]), ([19], [19]), ([16, 20], [16, 20]), ([21], [21]), ([15, 22, 8], [15, 22]), ([8, 23], [8, 23])])
def laws_FnTurnNumbers.B22 : List Nat := [0, 0, 3, 7, 0, 0, 48, 112, 255, 0, 0, 0, 3072, 7168, 15872, 32256, 0, 0, 0, 393216, 917504, 2031616, 4128768, 8388607, 16777215]
theorem laws_FnTurnNumbers.tab22 : rtab .any (opsOf Try.f7 22) = laws_FnTurnNumbers.T22 := by kernel_rfl
theorem laws_FnTurnNumbers.bits22 : waitsOk laws_FnTurnNumbers.T22.2 laws_FnTurnNumbers.B22 = true := by kernel_rfl
theorem laws_FnTurnNumbers.calls (k : Nat) (A0 : Option Addr) (c0 : Nat) (l0 : List Int) (r : Bool) (w : World) (hr0 : Kd.C (Kd.int .u8) w A0 l0.length l0) (hc0 : l0.length ≤ c0) (h : laws_FnTurnNumbers.f k l0 = some r) :
  Calls Try.prog 7 #[.slice A0 l0.length c0] w fun e w' => e = .returned (.bool r) ∧ Below w.heap.size w w' := by
 have hu59 := Try.underlying59
 have HR0 := aM hr0
 have HC0 := aM hc0
 clear hr0 hc0
 have HB := aM (Below.refl w.heap.size w)
 have H : ((laws_big.f l0).bind fun t1158 => (if t1158 = true then (some true) else ((spec_DrawTurnNumbers.f k l0).bind fun bt1159 => ((impl_TurnNumbers.f k bt1159.1 bt1159.2).bind fun bt1163 => ((spec_TurnNumbers.f k bt1159.1 bt1159.2).bind fun bt1167 => ((impl_RegionSymmetries.f k bt1159.1).bind fun bt1171 => ((spec_RegionSymmetries.f k bt1159.1).bind fun bt1175 => ((impl_BorderCells.f k bt1159.1).bind fun bt1179 => ((spec_BorderCells.f k bt1159.1).bind fun bt1183 => (if bt1163.2 = bt1167.2 then ((laws_likeInts.f k bt1163.1 bt1167.1).bind fun t1187 => (if t1187 = true then (if bt1171.2 = bt1175.2 then ((laws_likeInts.f k bt1171.1 bt1175.1).bind fun t1188 => (if t1188 = true then (if bt1179.2 = bt1183.2 then ((laws_likeInts.f k bt1179.1 bt1183.1).bind fun t1189 => (laws_FnTurnNumbers.j0 k bt1159.1 bt1159.2 bt1163.1 bt1163.2 bt1167.1 bt1171.1 bt1179.1 (!t1189))) else (laws_FnTurnNumbers.j0 k bt1159.1 bt1159.2 bt1163.1 bt1163.2 bt1167.1 bt1171.1 bt1179.1 true)) else (laws_FnTurnNumbers.j0 k bt1159.1 bt1159.2 bt1163.1 bt1163.2 bt1167.1 bt1171.1 bt1179.1 true))) else (laws_FnTurnNumbers.j0 k bt1159.1 bt1159.2 bt1163.1 bt1163.2 bt1167.1 bt1171.1 bt1179.1 true)) else (laws_FnTurnNumbers.j0 k bt1159.1 bt1159.2 bt1163.1 bt1163.2 bt1167.1 bt1171.1 bt1179.1 true))) else (laws_FnTurnNumbers.j0 k bt1159.1 bt1159.2 bt1163.1 bt1163.2 bt1167.1 bt1171.1 bt1179.1 true))))))))))) = some r := h
 clear h
 replace H := Option.bind_eq_some_iff.mp H
 obtain ⟨t1158, A20, H⟩ := H
 replace H : (if t1158 = true then (some true) else ((spec_DrawTurnNumbers.f k l0).bind fun bt1159 => ((impl_TurnNumbers.f k bt1159.1 bt1159.2).bind fun bt1163 => ((spec_TurnNumbers.f k bt1159.1 bt1159.2).bind fun bt1167 => ((impl_RegionSymmetries.f k bt1159.1).bind fun bt1171 => ((spec_RegionSymmetries.f k bt1159.1).bind fun bt1175 => ((impl_BorderCells.f k bt1159.1).bind fun bt1179 => ((spec_BorderCells.f k bt1159.1).bind fun bt1183 => (if bt1163.2 = bt1167.2 then ((laws_likeInts.f k bt1163.1 bt1167.1).bind fun t1187 => (if t1187 = true then (if bt1171.2 = bt1175.2 then ((laws_likeInts.f k bt1171.1 bt1175.1).bind fun t1188 => (if t1188 = true then (if bt1179.2 = bt1183.2 then ((laws_likeInts.f k bt1179.1 bt1183.1).bind fun t1189 => (laws_FnTurnNumbers.j0 k bt1159.1 bt1159.2 bt1163.1 bt1163.2 bt1167.1 bt1171.1 bt1179.1 (!t1189))) else (laws_FnTurnNumbers.j0 k bt1159.1 bt1159.2 bt1163.1 bt1163.2 bt1167.1 bt1171.1 bt1179.1 true)) else (laws_FnTurnNumbers.j0 k bt1159.1 bt1159.2 bt1163.1 bt1163.2 bt1167.1 bt1171.1 bt1179.1 true))) else (laws_FnTurnNumbers.j0 k bt1159.1 bt1159.2 bt1163.1 bt1163.2 bt1167.1 bt1171.1 bt1179.1 true)) else (laws_FnTurnNumbers.j0 k bt1159.1 bt1159.2 bt1163.1 bt1163.2 bt1167.1 bt1171.1 bt1179.1 true))) else (laws_FnTurnNumbers.j0 k bt1159.1 bt1159.2 bt1163.1 bt1163.2 bt1167.1 bt1171.1 bt1179.1 true)))))))))) = some r := H
 have A2 := aM A20
 clear A20
 by_cases c3 : t1158 = true
 ·subst c3
  have H1 : (some true) = some r := by rw [if_pos rfl] at H; exact H
  clear H
  have H := H1
  clear H1
  obtain rfl := Option.some.inj H
  go_enter Try.func7, Try.ntmps7
  go_wp2_with (first | ((with_reducible refine gate_callee (f := 16) rfl ?_); refine goesL_ (some 20) rfl rfl Try.func16 (by kernel_rfl) rfl #[.slice A0 l0.length c0] rfl zm ?_; (with_reducible refine (laws_big.calls _ _ l0 true _ ?side1 ?side2 A2.out).mono ?_); (case side1 => repeat (first | exact HR0.out | (with_reducible refine Kd.C_alloc ?_ _) | (with_reducible refine Kd.C_drewN ?_ _) | (with_reducible refine Kd.C_drew ?_))); (case side2 => exact HC0.out); rintro e w' ⟨rfl, ⟨nd, rfl⟩⟩; refine ⟨_, rfl, ?_⟩))
  go_ret
  exact ⟨zw, zb⟩
 replace c3 := Bool.eq_false_iff.mpr c3
 subst c3
 have H1 : ((spec_DrawTurnNumbers.f k l0).bind fun bt1159 => ((impl_TurnNumbers.f k bt1159.1 bt1159.2).bind fun bt1163 => ((spec_TurnNumbers.f k bt1159.1 bt1159.2).bind fun bt1167 => ((impl_RegionSymmetries.f k bt1159.1).bind fun bt1171 => ((spec_RegionSymmetries.f k bt1159.1).bind fun bt1175 => ((impl_BorderCells.f k bt1159.1).bind fun bt1179 => ((spec_BorderCells.f k bt1159.1).bind fun bt1183 => (if bt1163.2 = bt1167.2 then ((laws_likeInts.f k bt1163.1 bt1167.1).bind fun t1187 => (if t1187 = true then (if bt1171.2 = bt1175.2 then ((laws_likeInts.f k bt1171.1 bt1175.1).bind fun t1188 => (if t1188 = true then (if bt1179.2 = bt1183.2 then ((laws_likeInts.f k bt1179.1 bt1183.1).bind fun t1189 => (laws_FnTurnNumbers.j0 k bt1159.1 bt1159.2 bt1163.1 bt1163.2 bt1167.1 bt1171.1 bt1179.1 (!t1189))) else (laws_FnTurnNumbers.j0 k bt1159.1 bt1159.2 bt1163.1 bt1163.2 bt1167.1 bt1171.1 bt1179.1 true)) else (laws_FnTurnNumbers.j0 k bt1159.1 bt1159.2 bt1163.1 bt1163.2 bt1167.1 bt1171.1 bt1179.1 true))) else (laws_FnTurnNumbers.j0 k bt1159.1 bt1159.2 bt1163.1 bt1163.2 bt1167.1 bt1171.1 bt1179.1 true)) else (laws_FnTurnNumbers.j0 k bt1159.1 bt1159.2 bt1163.1 bt1163.2 bt1167.1 bt1171.1 bt1179.1 true))) else (laws_FnTurnNumbers.j0 k bt1159.1 bt1159.2 bt1163.1 bt1163.2 bt1167.1 bt1171.1 bt1179.1 true))))))))) = some r := by rw [if_neg (show ¬ (false = true) by decide)] at H; exact H
 clear H
 have H := H1
 clear H1
 replace H := Option.bind_eq_some_iff.mp H
 obtain ⟨⟨t1159, t1160⟩, A40, H⟩ := H
 replace H : ((impl_TurnNumbers.f k t1159 t1160).bind fun bt1163 => ((spec_TurnNumbers.f k t1159 t1160).bind fun bt1167 => ((impl_RegionSymmetries.f k t1159).bind fun bt1171 => ((spec_RegionSymmetries.f k t1159).bind fun bt1175 => ((impl_BorderCells.f k t1159).bind fun bt1179 => ((spec_BorderCells.f k t1159).bind fun bt1183 => (if bt1163.2 = bt1167.2 then ((laws_likeInts.f k bt1163.1 bt1167.1).bind fun t1187 => (if t1187 = true then (if bt1171.2 = bt1175.2 then ((laws_likeInts.f k bt1171.1 bt1175.1).bind fun t1188 => (if t1188 = true then (if bt1179.2 = bt1183.2 then ((laws_likeInts.f k bt1179.1 bt1183.1).bind fun t1189 => (laws_FnTurnNumbers.j0 k t1159 t1160 bt1163.1 bt1163.2 bt1167.1 bt1171.1 bt1179.1 (!t1189))) else (laws_FnTurnNumbers.j0 k t1159 t1160 bt1163.1 bt1163.2 bt1167.1 bt1171.1 bt1179.1 true)) else (laws_FnTurnNumbers.j0 k t1159 t1160 bt1163.1 bt1163.2 bt1167.1 bt1171.1 bt1179.1 true))) else (laws_FnTurnNumbers.j0 k t1159 t1160 bt1163.1 bt1163.2 bt1167.1 bt1171.1 bt1179.1 true)) else (laws_FnTurnNumbers.j0 k t1159 t1160 bt1163.1 bt1163.2 bt1167.1 bt1171.1 bt1179.1 true))) else (laws_FnTurnNumbers.j0 k t1159 t1160 bt1163.1 bt1163.2 bt1167.1 bt1171.1 bt1179.1 true)))))))) = some r := H
 have A4 := aM A40
 clear A40
 replace H := Option.bind_eq_some_iff.mp H
 obtain ⟨⟨t1163, t1164⟩, A50, H⟩ := H
 replace H : ((spec_TurnNumbers.f k t1159 t1160).bind fun bt1167 => ((impl_RegionSymmetries.f k t1159).bind fun bt1171 => ((spec_RegionSymmetries.f k t1159).bind fun bt1175 => ((impl_BorderCells.f k t1159).bind fun bt1179 => ((spec_BorderCells.f k t1159).bind fun bt1183 => (if t1164 = bt1167.2 then ((laws_likeInts.f k t1163 bt1167.1).bind fun t1187 => (if t1187 = true then (if bt1171.2 = bt1175.2 then ((laws_likeInts.f k bt1171.1 bt1175.1).bind fun t1188 => (if t1188 = true then (if bt1179.2 = bt1183.2 then ((laws_likeInts.f k bt1179.1 bt1183.1).bind fun t1189 => (laws_FnTurnNumbers.j0 k t1159 t1160 t1163 t1164 bt1167.1 bt1171.1 bt1179.1 (!t1189))) else (laws_FnTurnNumbers.j0 k t1159 t1160 t1163 t1164 bt1167.1 bt1171.1 bt1179.1 true)) else (laws_FnTurnNumbers.j0 k t1159 t1160 t1163 t1164 bt1167.1 bt1171.1 bt1179.1 true))) else (laws_FnTurnNumbers.j0 k t1159 t1160 t1163 t1164 bt1167.1 bt1171.1 bt1179.1 true)) else (laws_FnTurnNumbers.j0 k t1159 t1160 t1163 t1164 bt1167.1 bt1171.1 bt1179.1 true))) else (laws_FnTurnNumbers.j0 k t1159 t1160 t1163 t1164 bt1167.1 bt1171.1 bt1179.1 true))))))) = some r := H
 have A5 := aM A50
 clear A50
 replace H := Option.bind_eq_some_iff.mp H
 obtain ⟨⟨t1167, t1168⟩, A60, H⟩ := H
 replace H : ((impl_RegionSymmetries.f k t1159).bind fun bt1171 => ((spec_RegionSymmetries.f k t1159).bind fun bt1175 => ((impl_BorderCells.f k t1159).bind fun bt1179 => ((spec_BorderCells.f k t1159).bind fun bt1183 => (if t1164 = t1168 then ((laws_likeInts.f k t1163 t1167).bind fun t1187 => (if t1187 = true then (if bt1171.2 = bt1175.2 then ((laws_likeInts.f k bt1171.1 bt1175.1).bind fun t1188 => (if t1188 = true then (if bt1179.2 = bt1183.2 then ((laws_likeInts.f k bt1179.1 bt1183.1).bind fun t1189 => (laws_FnTurnNumbers.j0 k t1159 t1160 t1163 t1164 t1167 bt1171.1 bt1179.1 (!t1189))) else (laws_FnTurnNumbers.j0 k t1159 t1160 t1163 t1164 t1167 bt1171.1 bt1179.1 true)) else (laws_FnTurnNumbers.j0 k t1159 t1160 t1163 t1164 t1167 bt1171.1 bt1179.1 true))) else (laws_FnTurnNumbers.j0 k t1159 t1160 t1163 t1164 t1167 bt1171.1 bt1179.1 true)) else (laws_FnTurnNumbers.j0 k t1159 t1160 t1163 t1164 t1167 bt1171.1 bt1179.1 true))) else (laws_FnTurnNumbers.j0 k t1159 t1160 t1163 t1164 t1167 bt1171.1 bt1179.1 true)))))) = some r := H
 have A6 := aM A60
 clear A60
 replace H := Option.bind_eq_some_iff.mp H
 obtain ⟨⟨t1171, t1172⟩, A70, H⟩ := H
 replace H : ((spec_RegionSymmetries.f k t1159).bind fun bt1175 => ((impl_BorderCells.f k t1159).bind fun bt1179 => ((spec_BorderCells.f k t1159).bind fun bt1183 => (if t1164 = t1168 then ((laws_likeInts.f k t1163 t1167).bind fun t1187 => (if t1187 = true then (if t1172 = bt1175.2 then ((laws_likeInts.f k t1171 bt1175.1).bind fun t1188 => (if t1188 = true then (if bt1179.2 = bt1183.2 then ((laws_likeInts.f k bt1179.1 bt1183.1).bind fun t1189 => (laws_FnTurnNumbers.j0 k t1159 t1160 t1163 t1164 t1167 t1171 bt1179.1 (!t1189))) else (laws_FnTurnNumbers.j0 k t1159 t1160 t1163 t1164 t1167 t1171 bt1179.1 true)) else (laws_FnTurnNumbers.j0 k t1159 t1160 t1163 t1164 t1167 t1171 bt1179.1 true))) else (laws_FnTurnNumbers.j0 k t1159 t1160 t1163 t1164 t1167 t1171 bt1179.1 true)) else (laws_FnTurnNumbers.j0 k t1159 t1160 t1163 t1164 t1167 t1171 bt1179.1 true))) else (laws_FnTurnNumbers.j0 k t1159 t1160 t1163 t1164 t1167 t1171 bt1179.1 true))))) = some r := H
 have A7 := aM A70
 clear A70
 replace H := Option.bind_eq_some_iff.mp H
 obtain ⟨⟨t1175, t1176⟩, A80, H⟩ := H
 replace H : ((impl_BorderCells.f k t1159).bind fun bt1179 => ((spec_BorderCells.f k t1159).bind fun bt1183 => (if t1164 = t1168 then ((laws_likeInts.f k t1163 t1167).bind fun t1187 => (if t1187 = true then (if t1172 = t1176 then ((laws_likeInts.f k t1171 t1175).bind fun t1188 => (if t1188 = true then (if bt1179.2 = bt1183.2 then ((laws_likeInts.f k bt1179.1 bt1183.1).bind fun t1189 => (laws_FnTurnNumbers.j0 k t1159 t1160 t1163 t1164 t1167 t1171 bt1179.1 (!t1189))) else (laws_FnTurnNumbers.j0 k t1159 t1160 t1163 t1164 t1167 t1171 bt1179.1 true)) else (laws_FnTurnNumbers.j0 k t1159 t1160 t1163 t1164 t1167 t1171 bt1179.1 true))) else (laws_FnTurnNumbers.j0 k t1159 t1160 t1163 t1164 t1167 t1171 bt1179.1 true)) else (laws_FnTurnNumbers.j0 k t1159 t1160 t1163 t1164 t1167 t1171 bt1179.1 true))) else (laws_FnTurnNumbers.j0 k t1159 t1160 t1163 t1164 t1167 t1171 bt1179.1 true)))) = some r := H
 have A8 := aM A80
 clear A80
 replace H := Option.bind_eq_some_iff.mp H
 obtain ⟨⟨t1179, t1180⟩, A90, H⟩ := H
 replace H : ((spec_BorderCells.f k t1159).bind fun bt1183 => (if t1164 = t1168 then ((laws_likeInts.f k t1163 t1167).bind fun t1187 => (if t1187 = true then (if t1172 = t1176 then ((laws_likeInts.f k t1171 t1175).bind fun t1188 => (if t1188 = true then (if t1180 = bt1183.2 then ((laws_likeInts.f k t1179 bt1183.1).bind fun t1189 => (laws_FnTurnNumbers.j0 k t1159 t1160 t1163 t1164 t1167 t1171 t1179 (!t1189))) else (laws_FnTurnNumbers.j0 k t1159 t1160 t1163 t1164 t1167 t1171 t1179 true)) else (laws_FnTurnNumbers.j0 k t1159 t1160 t1163 t1164 t1167 t1171 t1179 true))) else (laws_FnTurnNumbers.j0 k t1159 t1160 t1163 t1164 t1167 t1171 t1179 true)) else (laws_FnTurnNumbers.j0 k t1159 t1160 t1163 t1164 t1167 t1171 t1179 true))) else (laws_FnTurnNumbers.j0 k t1159 t1160 t1163 t1164 t1167 t1171 t1179 true))) = some r := H
 have A9 := aM A90
 clear A90
 replace H := Option.bind_eq_some_iff.mp H
 obtain ⟨⟨t1183, t1184⟩, A100, H⟩ := H
 replace H : (if t1164 = t1168 then ((laws_likeInts.f k t1163 t1167).bind fun t1187 => (if t1187 = true then (if t1172 = t1176 then ((laws_likeInts.f k t1171 t1175).bind fun t1188 => (if t1188 = true then (if t1180 = t1184 then ((laws_likeInts.f k t1179 t1183).bind fun t1189 => (laws_FnTurnNumbers.j0 k t1159 t1160 t1163 t1164 t1167 t1171 t1179 (!t1189))) else (laws_FnTurnNumbers.j0 k t1159 t1160 t1163 t1164 t1167 t1171 t1179 true)) else (laws_FnTurnNumbers.j0 k t1159 t1160 t1163 t1164 t1167 t1171 t1179 true))) else (laws_FnTurnNumbers.j0 k t1159 t1160 t1163 t1164 t1167 t1171 t1179 true)) else (laws_FnTurnNumbers.j0 k t1159 t1160 t1163 t1164 t1167 t1171 t1179 true))) else (laws_FnTurnNumbers.j0 k t1159 t1160 t1163 t1164 t1167 t1171 t1179 true)) = some r := H
 have A10 := aM A100
 clear A100
 have HC11 := aM H
 clear H
 go_enter Try.func7, Try.ntmps7
 go_upto_region 10 with (first | ((with_reducible refine gate_callee (f := 16) rfl ?_); refine goesL_ (some 20) rfl rfl Try.func16 (by kernel_rfl) rfl #[.slice A0 l0.length c0] rfl zm ?_; (with_reducible refine (laws_big.calls _ _ l0 false _ ?side1 ?side2 A2.out).mono ?_); (case side1 => repeat (first | exact HR0.out | (with_reducible refine Kd.C_alloc ?_ _) | (with_reducible refine Kd.C_drewN ?_ _) | (with_reducible refine Kd.C_drew ?_))); (case side2 => exact HC0.out); rintro e w' ⟨rfl, ⟨nd, rfl⟩⟩; refine ⟨_, rfl, ?_⟩) | ((with_reducible refine gate_callee (f := 37) rfl ?_); refine goesL_ (some 23) rfl rfl Try.func37 (by kernel_rfl) rfl #[.slice A0 l0.length c0] rfl zm ?_; (with_reducible refine (spec_DrawTurnNumbers.calls k _ _ l0 t1159 t1160 _ ?side1 ?side2 A4.out).mono ?_); (case side1 => repeat (first | exact HR0.out | (with_reducible refine Kd.C_alloc ?_ _) | (with_reducible refine Kd.C_drewN ?_ _) | (with_reducible refine Kd.C_drew ?_))); (case side2 => exact HC0.out); rintro e w12 ⟨v1161, rfl, ho0, hb⟩; refine ⟨_, rfl, ?_⟩; have n0_ := aM (Kd.R_lower ho0 (below_size zb)); have n1_ := aM (below_step zb hb); clear HB; have HO1162 := n0_; have HB := n1_; clear n0_ n1_; (try clear hb); (try clear hb2); (try clear hk); (try clear hi); (try clear ho0); obtain ⟨Ao13, co13, eo13⟩ := Kd.R_slice HO1162.out; subst eo13) | ((with_reducible refine gate_callee (f := 38) rfl ?_); refine goesL_ (some 29) rfl rfl Try.func38 (by kernel_rfl) rfl #[.slice Ao13 t1159.length co13, .int .i64 t1160] rfl zm ?_; (with_reducible refine (impl_TurnNumbers.calls k _ _ t1159 t1160 t1163 t1164 _ ?side1 ?side2 A5.out).mono ?_); (case side1 => exact zc HO1162.out); (case side2 => exact (Kd.R_reads' HO1162.out).2.1); rintro e w14 ⟨v1165, rfl, ho0, hb⟩; refine ⟨_, rfl, ?_⟩; have n0_ := aM (Kd.R_below (mR_ HO1162.out) hb); have n1_ := aM (Kd.R_lower ho0 (below_size zb)); have n2_ := aM (below_step zb hb); clear HO1162 HB; have HO1162 := n0_; have HO1166 := n1_; have HB := n2_; clear n0_ n1_ n2_; (try clear hb); (try clear hb2); (try clear hk); (try clear hi); (try clear ho0)) | ((with_reducible refine gate_callee (f := 39) rfl ?_); refine goesL_ (some 35) rfl rfl Try.func39 (by kernel_rfl) rfl #[.slice Ao13 t1159.length co13, .int .i64 t1160] rfl zm ?_; (with_reducible refine (spec_TurnNumbers.calls k _ _ t1159 t1160 t1167 t1168 _ ?side1 ?side2 A6.out).mono ?_); (case side1 => exact zc HO1162.out); (case side2 => exact (Kd.R_reads' HO1162.out).2.1); rintro e w15 ⟨v1169, rfl, ho0, hb⟩; refine ⟨_, rfl, ?_⟩; have n0_ := aM (Kd.R_below (mR_ HO1162.out) hb); have n1_ := aM (Kd.R_elder' (mR_ HO1166.out) (Kd.R_base ho0) hb); have n2_ := aM (Kd.R_lower (Kd.R_new' ho0 (Kd.R_lt (mR_ HO1166.out))) (below_size zb)); have n3_ := aM (below_step zb hb); clear HO1162 HO1166 HB; have HO1162 := n0_; have HO1166 := n1_; have HO1170 := n2_; have HB := n3_; clear n0_ n1_ n2_ n3_; (try clear hb); (try clear hb2); (try clear hk); (try clear hi); (try clear ho0)) | ((with_reducible refine gate_callee (f := 40) rfl ?_); refine goesL_ (some 40) rfl rfl Try.func40 (by kernel_rfl) rfl #[.slice Ao13 t1159.length co13] rfl zm ?_; (with_reducible refine (impl_RegionSymmetries.calls k _ _ t1159 t1171 t1172 _ ?side1 ?side2 A7.out).mono ?_); (case side1 => exact zc HO1162.out); (case side2 => exact (Kd.R_reads' HO1162.out).2.1); rintro e w16 ⟨v1173, rfl, ho0, hb⟩; refine ⟨_, rfl, ?_⟩; have n0_ := aM (Kd.R_below (mR_ HO1162.out) hb); have n1_ := aM (Kd.R_elder' (mR_ HO1166.out) (Kd.R_base ho0) hb); have n2_ := aM (Kd.R_elder' (mR_ HO1170.out) (Kd.R_base ho0) hb); have n3_ := aM (Kd.R_lower (Kd.R_new' (Kd.R_new' ho0 (Kd.R_lt (mR_ HO1166.out))) (Kd.R_lt (mR_ HO1170.out))) (below_size zb)); have n4_ := aM (below_step zb hb); clear HO1162 HO1166 HO1170 HB; have HO1162 := n0_; have HO1166 := n1_; have HO1170 := n2_; have HO1174 := n3_; have HB := n4_; clear n0_ n1_ n2_ n3_ n4_; (try clear hb); (try clear hb2); (try clear hk); (try clear hi); (try clear ho0)) | ((with_reducible refine gate_callee (f := 41) rfl ?_); refine goesL_ (some 45) rfl rfl Try.func41 (by kernel_rfl) rfl #[.slice Ao13 t1159.length co13] rfl zm ?_; (with_reducible refine (spec_RegionSymmetries.calls k _ _ t1159 t1175 t1176 _ ?side1 ?side2 A8.out).mono ?_); (case side1 => exact zc HO1162.out); (case side2 => exact (Kd.R_reads' HO1162.out).2.1); rintro e w17 ⟨v1177, rfl, ho0, hb⟩; refine ⟨_, rfl, ?_⟩; have n0_ := aM (Kd.R_below (mR_ HO1162.out) hb); have n1_ := aM (Kd.R_elder' (mR_ HO1166.out) (Kd.R_base ho0) hb); have n2_ := aM (Kd.R_elder' (mR_ HO1170.out) (Kd.R_base ho0) hb); have n3_ := aM (Kd.R_elder' (mR_ HO1174.out) (Kd.R_base ho0) hb); have n4_ := aM (Kd.R_lower (Kd.R_new' (Kd.R_new' (Kd.R_new' ho0 (Kd.R_lt (mR_ HO1166.out))) (Kd.R_lt (mR_ HO1170.out))) (Kd.R_lt (mR_ HO1174.out))) (below_size zb)); have n5_ := aM (below_step zb hb); clear HO1162 HO1166 HO1170 HO1174 HB; have HO1162 := n0_; have HO1166 := n1_; have HO1170 := n2_; have HO1174 := n3_; have HO1178 := n4_; have HB := n5_; clear n0_ n1_ n2_ n3_ n4_ n5_; (try clear hb); (try clear hb2); (try clear hk); (try clear hi); (try clear ho0)) | ((with_reducible refine gate_callee (f := 42) rfl ?_); refine goesL_ (some 50) rfl rfl Try.func42 (by kernel_rfl) rfl #[.slice Ao13 t1159.length co13] rfl zm ?_; (with_reducible refine (impl_BorderCells.calls k _ _ t1159 t1179 t1180 _ ?side1 ?side2 A9.out).mono ?_); (case side1 => exact zc HO1162.out); (case side2 => exact (Kd.R_reads' HO1162.out).2.1); rintro e w18 ⟨v1181, rfl, ho0, hb⟩; refine ⟨_, rfl, ?_⟩; have n0_ := aM (Kd.R_below (mR_ HO1162.out) hb); have n1_ := aM (Kd.R_elder' (mR_ HO1166.out) (Kd.R_base ho0) hb); have n2_ := aM (Kd.R_elder' (mR_ HO1170.out) (Kd.R_base ho0) hb); have n3_ := aM (Kd.R_elder' (mR_ HO1174.out) (Kd.R_base ho0) hb); have n4_ := aM (Kd.R_elder' (mR_ HO1178.out) (Kd.R_base ho0) hb); have n5_ := aM (Kd.R_lower (Kd.R_new' (Kd.R_new' (Kd.R_new' (Kd.R_new' ho0 (Kd.R_lt (mR_ HO1166.out))) (Kd.R_lt (mR_ HO1170.out))) (Kd.R_lt (mR_ HO1174.out))) (Kd.R_lt (mR_ HO1178.out))) (below_size zb)); have n6_ := aM (below_step zb hb); clear HO1162 HO1166 HO1170 HO1174 HO1178 HB; have HO1162 := n0_; have HO1166 := n1_; have HO1170 := n2_; have HO1174 := n3_; have HO1178 := n4_; have HO1182 := n5_; have HB := n6_; clear n0_ n1_ n2_ n3_ n4_ n5_ n6_; (try clear hb); (try clear hb2); (try clear hk); (try clear hi); (try clear ho0)) | ((with_reducible refine gate_callee (f := 43) rfl ?_); refine goesL_ (some 55) rfl rfl Try.func43 (by kernel_rfl) rfl #[.slice Ao13 t1159.length co13] rfl zm ?_; (with_reducible refine (spec_BorderCells.calls k _ _ t1159 t1183 t1184 _ ?side1 ?side2 A10.out).mono ?_); (case side1 => exact zc HO1162.out); (case side2 => exact (Kd.R_reads' HO1162.out).2.1); rintro e w19 ⟨v1185, rfl, ho0, hb⟩; refine ⟨_, rfl, ?_⟩; have n0_ := aM (Kd.R_below (mR_ HO1162.out) hb); have n1_ := aM (Kd.R_elder' (mR_ HO1166.out) (Kd.R_base ho0) hb); have n2_ := aM (Kd.R_elder' (mR_ HO1170.out) (Kd.R_base ho0) hb); have n3_ := aM (Kd.R_elder' (mR_ HO1174.out) (Kd.R_base ho0) hb); have n4_ := aM (Kd.R_elder' (mR_ HO1178.out) (Kd.R_base ho0) hb); have n5_ := aM (Kd.R_elder' (mR_ HO1182.out) (Kd.R_base ho0) hb); have n6_ := aM (Kd.R_lower (Kd.R_new' (Kd.R_new' (Kd.R_new' (Kd.R_new' (Kd.R_new' ho0 (Kd.R_lt (mR_ HO1166.out))) (Kd.R_lt (mR_ HO1170.out))) (Kd.R_lt (mR_ HO1174.out))) (Kd.R_lt (mR_ HO1178.out))) (Kd.R_lt (mR_ HO1182.out))) (below_size zb)); have n7_ := aM (below_step zb hb); clear HO1162 HO1166 HO1170 HO1174 HO1178 HO1182 HB; have HO1162 := n0_; have HO1166 := n1_; have HO1170 := n2_; have HO1174 := n3_; have HO1178 := n4_; have HO1182 := n5_; have HO1186 := n6_; have HB := n7_; clear n0_ n1_ n2_ n3_ n4_ n5_ n6_ n7_; (try clear hb); (try clear hb2); (try clear hk); (try clear hi); (try clear ho0)))
 (try simp only [Act.put, xA, xB, xC])
 go_cut [88] (fun v88 wc => ∃ (kq : Nat) (x88_10 : Bool), v88 = .bool x88_10 ∧ Aside0 (laws_FnTurnNumbers.j0 kq t1159 t1160 t1163 t1164 t1167 t1171 t1179 x88_10 = some r) ∧ Aside0 (kq ≤ k) ∧ Aside0 (Kd.R k59 59 wc w.heap.size (fun _ => True) (.slice Ao13 t1159.length co13) t1159) ∧ Aside0 (Kd.R (Kd.int .i64) 2 wc w.heap.size (fun k_ => some k_ ≠ (v1169 : Value).ownBlock ∧ some k_ ≠ (v1173 : Value).ownBlock ∧ some k_ ≠ (v1181 : Value).ownBlock) v1165 t1163) ∧ Aside0 (Kd.R (Kd.int .i64) 2 wc w.heap.size (fun k_ => some k_ ≠ (v1165 : Value).ownBlock ∧ some k_ ≠ (v1173 : Value).ownBlock ∧ some k_ ≠ (v1181 : Value).ownBlock) v1169 t1167) ∧ Aside0 (Kd.R (Kd.int .i64) 2 wc w.heap.size (fun k_ => some k_ ≠ (v1165 : Value).ownBlock ∧ some k_ ≠ (v1169 : Value).ownBlock ∧ some k_ ≠ (v1181 : Value).ownBlock) v1173 t1171) ∧ Aside0 (Kd.R (Kd.int .i64) 2 wc w.heap.size (fun k_ => some k_ ≠ (v1165 : Value).ownBlock ∧ some k_ ≠ (v1169 : Value).ownBlock ∧ some k_ ≠ (v1173 : Value).ownBlock) v1181 t1179) ∧ Aside0 (Below w.heap.size w wc))
 case first =>
  have H := HC11.out
  clear HC11
  by_cases c20 : t1164 = t1168
  rotate_left
  ·rw [if_neg c20] at H
   have c20b0 : (t1164 == t1168) = false := beq_eq_false_iff_ne.mpr c20
   have c20b1 : (t1164 != t1168) = true := bne_iff_ne.mpr c20
   (first | rw [c20b0] | (simp only [i64_w, i32_w]; rw [c20b0]) | skip)
   have H' := aM H
   clear H
   go_wp2
   go_meet
   case rel => exact ⟨_, (true), zr, H', ⟨by first | omega | exact Nat.le_refl _⟩, ⟨mR_ HO1162.out⟩, ⟨zd3 HO1166.out⟩, ⟨zd3 HO1170.out⟩, ⟨zd3 HO1174.out⟩, ⟨zd4 HO1182.out⟩, ⟨zb⟩⟩
  rw [if_pos c20] at H
  have c20b0 : (t1164 == t1168) = true := beq_iff_eq.mpr c20
  have c20b1 : (t1164 != t1168) = false := bne_eq_false_iff_eq.mpr c20
  clear c20
  (first | rw [c20b0] | (simp only [i64_w, i32_w]; rw [c20b0]) | skip)
  replace H := Option.bind_eq_some_iff.mp H
  obtain ⟨t1187, A210, H⟩ := H
  replace H : (if t1187 = true then (if t1172 = t1176 then ((laws_likeInts.f k t1171 t1175).bind fun t1188 => (if t1188 = true then (if t1180 = t1184 then ((laws_likeInts.f k t1179 t1183).bind fun t1189 => (laws_FnTurnNumbers.j0 k t1159 t1160 t1163 t1164 t1167 t1171 t1179 (!t1189))) else (laws_FnTurnNumbers.j0 k t1159 t1160 t1163 t1164 t1167 t1171 t1179 true)) else (laws_FnTurnNumbers.j0 k t1159 t1160 t1163 t1164 t1167 t1171 t1179 true))) else (laws_FnTurnNumbers.j0 k t1159 t1160 t1163 t1164 t1167 t1171 t1179 true)) else (laws_FnTurnNumbers.j0 k t1159 t1160 t1163 t1164 t1167 t1171 t1179 true)) = some r := H
  have A21 := aM A210
  clear A210
  by_cases c22 : t1187 = true
  rotate_left
  ·replace c22 := Bool.eq_false_iff.mpr c22
   subst c22
   have H1 : (laws_FnTurnNumbers.j0 k t1159 t1160 t1163 t1164 t1167 t1171 t1179 true) = some r := by rw [if_neg (show ¬ (false = true) by decide)] at H; exact H
   clear H
   have H := H1
   clear H1
   have H' := aM H
   clear H
   obtain ⟨Ao44, co44, eo44⟩ := Kd.R_slice HO1166.out
   subst eo44
   obtain ⟨Ao45, co45, eo45⟩ := Kd.R_slice HO1170.out
   subst eo45
   go_wp2_with (first | (go_at_call 30; (with_reducible refine (laws_likeInts.calls k _ _ t1163 _ _ t1167 false _ ?side1 ?side2 ?side3 ?side4 A21.out).mono ?_); (case side1 => exact zc HO1166.out); (case side2 => exact (Kd.R_reads' HO1166.out).2.1); (case side3 => exact zc HO1170.out); (case side4 => exact (Kd.R_reads' HO1170.out).2.1); rintro e w' ⟨rfl, ⟨nd, rfl⟩⟩))
   go_meet
   case rel => exact ⟨_, (true), zr, H', ⟨by first | omega | exact Nat.le_refl _⟩, ⟨mR_ HO1162.out⟩, ⟨zd3 HO1166.out⟩, ⟨zd3 HO1170.out⟩, ⟨zd3 HO1174.out⟩, ⟨zd4 HO1182.out⟩, ⟨zb⟩⟩
  subst c22
  have H1 : (if t1172 = t1176 then ((laws_likeInts.f k t1171 t1175).bind fun t1188 => (if t1188 = true then (if t1180 = t1184 then ((laws_likeInts.f k t1179 t1183).bind fun t1189 => (laws_FnTurnNumbers.j0 k t1159 t1160 t1163 t1164 t1167 t1171 t1179 (!t1189))) else (laws_FnTurnNumbers.j0 k t1159 t1160 t1163 t1164 t1167 t1171 t1179 true)) else (laws_FnTurnNumbers.j0 k t1159 t1160 t1163 t1164 t1167 t1171 t1179 true))) else (laws_FnTurnNumbers.j0 k t1159 t1160 t1163 t1164 t1167 t1171 t1179 true)) = some r := by rw [if_pos rfl] at H; exact H
  clear H
  have H := H1
  clear H1
  by_cases c23 : t1172 = t1176
  rotate_left
  ·rw [if_neg c23] at H
   have c23b0 : (t1172 == t1176) = false := beq_eq_false_iff_ne.mpr c23
   have c23b1 : (t1172 != t1176) = true := bne_iff_ne.mpr c23
   have H' := aM H
   clear H
   obtain ⟨Ao42, co42, eo42⟩ := Kd.R_slice HO1166.out
   subst eo42
   obtain ⟨Ao43, co43, eo43⟩ := Kd.R_slice HO1170.out
   subst eo43
   go_wp2_with (first | (go_at_call 30; (with_reducible refine (laws_likeInts.calls k _ _ t1163 _ _ t1167 true _ ?side1 ?side2 ?side3 ?side4 A21.out).mono ?_); (case side1 => exact zc HO1166.out); (case side2 => exact (Kd.R_reads' HO1166.out).2.1); (case side3 => exact zc HO1170.out); (case side4 => exact (Kd.R_reads' HO1170.out).2.1); rintro e w' ⟨rfl, ⟨nd, rfl⟩⟩))
   go_meet
   case rel => exact ⟨_, (true), zr, H', ⟨by first | omega | exact Nat.le_refl _⟩, ⟨mR_ HO1162.out⟩, ⟨zd3 HO1166.out⟩, ⟨zd3 HO1170.out⟩, ⟨zd3 HO1174.out⟩, ⟨zd4 HO1182.out⟩, ⟨zb⟩⟩
  rw [if_pos c23] at H
  have c23b0 : (t1172 == t1176) = true := beq_iff_eq.mpr c23
  have c23b1 : (t1172 != t1176) = false := bne_eq_false_iff_eq.mpr c23
  clear c23
  replace H := Option.bind_eq_some_iff.mp H
  obtain ⟨t1188, A240, H⟩ := H
  replace H : (if t1188 = true then (if t1180 = t1184 then ((laws_likeInts.f k t1179 t1183).bind fun t1189 => (laws_FnTurnNumbers.j0 k t1159 t1160 t1163 t1164 t1167 t1171 t1179 (!t1189))) else (laws_FnTurnNumbers.j0 k t1159 t1160 t1163 t1164 t1167 t1171 t1179 true)) else (laws_FnTurnNumbers.j0 k t1159 t1160 t1163 t1164 t1167 t1171 t1179 true)) = some r := H
  have A24 := aM A240
  clear A240
  by_cases c25 : t1188 = true
  rotate_left
  ·replace c25 := Bool.eq_false_iff.mpr c25
   subst c25
   have H1 : (laws_FnTurnNumbers.j0 k t1159 t1160 t1163 t1164 t1167 t1171 t1179 true) = some r := by rw [if_neg (show ¬ (false = true) by decide)] at H; exact H
   clear H
   have H := H1
   clear H1
   have H' := aM H
   clear H
   obtain ⟨Ao38, co38, eo38⟩ := Kd.R_slice HO1166.out
   subst eo38
   obtain ⟨Ao39, co39, eo39⟩ := Kd.R_slice HO1170.out
   subst eo39
   go_wp2_with (first | (go_at_call 30; (with_reducible refine (laws_likeInts.calls k _ _ t1163 _ _ t1167 true _ ?side1 ?side2 ?side3 ?side4 A21.out).mono ?_); (case side1 => exact zc HO1166.out); (case side2 => exact (Kd.R_reads' HO1166.out).2.1); (case side3 => exact zc HO1170.out); (case side4 => exact (Kd.R_reads' HO1170.out).2.1); rintro e w' ⟨rfl, ⟨nd, rfl⟩⟩; obtain ⟨Ao40, co40, eo40⟩ := Kd.R_slice HO1174.out; subst eo40; obtain ⟨Ao41, co41, eo41⟩ := Kd.R_slice HO1178.out; subst eo41) | (go_at_call 30; (with_reducible refine (laws_likeInts.calls k _ _ t1171 _ _ t1175 false _ ?side1 ?side2 ?side3 ?side4 A24.out).mono ?_); (case side1 => exact zc HO1174.out); (case side2 => exact (Kd.R_reads' HO1174.out).2.1); (case side3 => exact zc HO1178.out); (case side4 => exact (Kd.R_reads' HO1178.out).2.1); rintro e w' ⟨rfl, ⟨nd, rfl⟩⟩))
   go_meet
   case rel => exact ⟨_, (true), zr, H', ⟨by first | omega | exact Nat.le_refl _⟩, ⟨mR_ HO1162.out⟩, ⟨zd3 HO1166.out⟩, ⟨zd3 HO1170.out⟩, ⟨zd3 HO1174.out⟩, ⟨zd4 HO1182.out⟩, ⟨zb⟩⟩
  subst c25
  have H1 : (if t1180 = t1184 then ((laws_likeInts.f k t1179 t1183).bind fun t1189 => (laws_FnTurnNumbers.j0 k t1159 t1160 t1163 t1164 t1167 t1171 t1179 (!t1189))) else (laws_FnTurnNumbers.j0 k t1159 t1160 t1163 t1164 t1167 t1171 t1179 true)) = some r := by rw [if_pos rfl] at H; exact H
  clear H
  have H := H1
  clear H1
  by_cases c26 : t1180 = t1184
  rotate_left
  ·rw [if_neg c26] at H
   have c26b0 : (t1180 == t1184) = false := beq_eq_false_iff_ne.mpr c26
   have c26b1 : (t1180 != t1184) = true := bne_iff_ne.mpr c26
   have H' := aM H
   clear H
   obtain ⟨Ao34, co34, eo34⟩ := Kd.R_slice HO1166.out
   subst eo34
   obtain ⟨Ao35, co35, eo35⟩ := Kd.R_slice HO1170.out
   subst eo35
   go_wp2_with (first | (go_at_call 30; (with_reducible refine (laws_likeInts.calls k _ _ t1163 _ _ t1167 true _ ?side1 ?side2 ?side3 ?side4 A21.out).mono ?_); (case side1 => exact zc HO1166.out); (case side2 => exact (Kd.R_reads' HO1166.out).2.1); (case side3 => exact zc HO1170.out); (case side4 => exact (Kd.R_reads' HO1170.out).2.1); rintro e w' ⟨rfl, ⟨nd, rfl⟩⟩; obtain ⟨Ao36, co36, eo36⟩ := Kd.R_slice HO1174.out; subst eo36; obtain ⟨Ao37, co37, eo37⟩ := Kd.R_slice HO1178.out; subst eo37) | (go_at_call 30; (with_reducible refine (laws_likeInts.calls k _ _ t1171 _ _ t1175 true _ ?side1 ?side2 ?side3 ?side4 A24.out).mono ?_); (case side1 => exact zc HO1174.out); (case side2 => exact (Kd.R_reads' HO1174.out).2.1); (case side3 => exact zc HO1178.out); (case side4 => exact (Kd.R_reads' HO1178.out).2.1); rintro e w' ⟨rfl, ⟨nd, rfl⟩⟩))
   go_meet
   case rel => exact ⟨_, (true), zr, H', ⟨by first | omega | exact Nat.le_refl _⟩, ⟨mR_ HO1162.out⟩, ⟨zd3 HO1166.out⟩, ⟨zd3 HO1170.out⟩, ⟨zd3 HO1174.out⟩, ⟨zd4 HO1182.out⟩, ⟨zb⟩⟩
  rw [if_pos c26] at H
  have c26b0 : (t1180 == t1184) = true := beq_iff_eq.mpr c26
  have c26b1 : (t1180 != t1184) = false := bne_eq_false_iff_eq.mpr c26
  clear c26
  replace H := Option.bind_eq_some_iff.mp H
  obtain ⟨t1189, A270, H⟩ := H
  replace H : (laws_FnTurnNumbers.j0 k t1159 t1160 t1163 t1164 t1167 t1171 t1179 (!t1189)) = some r := H
  have A27 := aM A270
  clear A270
  have H' := aM H
  clear H
  obtain ⟨Ao28, co28, eo28⟩ := Kd.R_slice HO1166.out
  subst eo28
  obtain ⟨Ao29, co29, eo29⟩ := Kd.R_slice HO1170.out
  subst eo29
  go_wp2_with (first | (go_at_call 30; (with_reducible refine (laws_likeInts.calls k _ _ t1163 _ _ t1167 true _ ?side1 ?side2 ?side3 ?side4 A21.out).mono ?_); (case side1 => exact zc HO1166.out); (case side2 => exact (Kd.R_reads' HO1166.out).2.1); (case side3 => exact zc HO1170.out); (case side4 => exact (Kd.R_reads' HO1170.out).2.1); rintro e w' ⟨rfl, ⟨nd, rfl⟩⟩; obtain ⟨Ao30, co30, eo30⟩ := Kd.R_slice HO1174.out; subst eo30; obtain ⟨Ao31, co31, eo31⟩ := Kd.R_slice HO1178.out; subst eo31) | (go_at_call 30; (with_reducible refine (laws_likeInts.calls k _ _ t1171 _ _ t1175 true _ ?side1 ?side2 ?side3 ?side4 A24.out).mono ?_); (case side1 => exact zc HO1174.out); (case side2 => exact (Kd.R_reads' HO1174.out).2.1); (case side3 => exact zc HO1178.out); (case side4 => exact (Kd.R_reads' HO1178.out).2.1); rintro e w' ⟨rfl, ⟨nd, rfl⟩⟩; obtain ⟨Ao32, co32, eo32⟩ := Kd.R_slice HO1182.out; subst eo32; obtain ⟨Ao33, co33, eo33⟩ := Kd.R_slice HO1186.out; subst eo33) | (go_at_call 30; (with_reducible refine (laws_likeInts.calls k _ _ t1179 _ _ t1183 t1189 _ ?side1 ?side2 ?side3 ?side4 A27.out).mono ?_); (case side1 => exact zc HO1182.out); (case side2 => exact (Kd.R_reads' HO1182.out).2.1); (case side3 => exact zc HO1186.out); (case side4 => exact (Kd.R_reads' HO1186.out).2.1); rintro e w' ⟨rfl, ⟨nd, rfl⟩⟩))
  go_meet
  case rel => exact ⟨_, (!t1189), zr, H', ⟨by first | omega | exact Nat.le_refl _⟩, ⟨mR_ HO1162.out⟩, ⟨zd3 HO1166.out⟩, ⟨zd3 HO1170.out⟩, ⟨zd3 HO1174.out⟩, ⟨zd4 HO1182.out⟩, ⟨zb⟩⟩
 case rest =>
  clear HC11
  try clear c1
  try clear c2
  try clear p2
  try clear c3
  try clear c4
  try clear c7
  try clear c16
  try clear c20
  try clear c20b0
  try clear c20b1
  try clear c22
  try clear c23
  try clear c23b0
  try clear c23b1
  try clear c25
  try clear c26
  try clear c26b0
  try clear c26b1
  try clear c37
  try clear c38
  try clear c39
  try clear c40
  try clear c41
  try clear c42
  try clear c43
  obtain ⟨kq, x88_10, rfl, HA, HJ10, HO_3, HO_5, HO_7, HO_9, HO_13, HB⟩ := hcut
  cases kq with
  | zero => exact absurd HA.out (by simp [laws_FnTurnNumbers.j0])
  | succ kj10 =>
   have H := HA.out
   clear HA
   simp only [laws_FnTurnNumbers.j0] at H
   by_cases c46 : x88_10 = true
   ·subst c46
    have H1 : (some false) = some r := by rw [if_pos rfl] at H; exact H
    clear H
    have H := H1
    clear H1
    obtain rfl := Option.some.inj H
    go_wp2
    go_ret
    exact ⟨zw, zb⟩
   replace c46 := Bool.eq_false_iff.mpr c46
   subst c46
   have H1 : (if t1164 = 0 then (laws_FnTurnNumbers.l0 kj10 t1159 t1160 t1163 t1167 t1171 t1179 0) else (if t1164 = 5 then ((laws_hasInt.f kj10 t1171 t1160).bind fun t1190 => (some (!t1190))) else (some true))) = some r := by rw [if_neg (show ¬ (false = true) by decide)] at H; exact H
   clear H
   have H := H1
   clear H1
   by_cases c47 : t1164 = 0
   rotate_left
   ·rw [if_neg c47] at H
    have c47b0 : (t1164 == 0) = false := beq_eq_false_iff_ne.mpr c47
    have c47b1 : (t1164 != 0) = true := bne_iff_ne.mpr c47
    by_cases c88 : t1164 = 5
    rotate_left
    ·rw [if_neg c88] at H
     have c88b0 : (t1164 == 5) = false := beq_eq_false_iff_ne.mpr c88
     have c88b1 : (t1164 != 5) = true := bne_iff_ne.mpr c88
     obtain rfl := Option.some.inj H
     go_wp2
     go_ret
     exact ⟨zw, zb⟩
    rw [if_pos c88] at H
    have c88b0 : (t1164 == 5) = true := beq_iff_eq.mpr c88
    have c88b1 : (t1164 != 5) = false := bne_eq_false_iff_eq.mpr c88
    clear c88
    replace H := Option.bind_eq_some_iff.mp H
    obtain ⟨t1190, A890, H⟩ := H
    replace H : (some (!t1190)) = some r := H
    have A89 := aM A890
    clear A890
    obtain rfl := Option.some.inj H
    obtain ⟨Ao90, co90, eo90⟩ := Kd.R_slice HO_9.out
    subst eo90
    go_wp2_with (first | (go_at_call 44; (with_reducible refine (laws_hasInt.calls kj10 _ _ t1171 t1160 t1190 _ ?side1 ?side2 A89.out).mono ?_); (case side1 => exact zc HO_9.out); (case side2 => exact (Kd.R_reads' HO_9.out).2.1); rintro e w' ⟨rfl, ⟨nd, rfl⟩⟩))
    go_ret
    exact ⟨zw, zb⟩
   rw [if_pos c47] at H
   have c47b0 : (t1164 == 0) = true := beq_iff_eq.mpr c47
   have c47b1 : (t1164 != 0) = false := bne_eq_false_iff_eq.mpr c47
   clear c47
   have H' := aM H
   clear H
   go_wp2
   go_loopg [17] kj10 (fun kq v17 w' => ∃ (x17_2 : Int), v17 = .int .i64 x17_2 ∧ Aside0 (laws_FnTurnNumbers.l0 kq t1159 t1160 t1163 t1167 t1171 t1179 x17_2 = some r) ∧ Aside0 (kq ≤ kj10) ∧ Aside0 (Kd.R k59 59 w' w.heap.size (fun _ => True) (.slice Ao13 t1159.length co13) t1159) ∧ Aside0 (Kd.R (Kd.int .i64) 2 w' w.heap.size (fun k_ => some k_ ≠ (v1169 : Value).ownBlock ∧ some k_ ≠ (v1173 : Value).ownBlock ∧ some k_ ≠ (v1181 : Value).ownBlock) v1165 t1163) ∧ Aside0 (Kd.R (Kd.int .i64) 2 w' w.heap.size (fun k_ => some k_ ≠ (v1165 : Value).ownBlock ∧ some k_ ≠ (v1173 : Value).ownBlock ∧ some k_ ≠ (v1181 : Value).ownBlock) v1169 t1167) ∧ Aside0 (Kd.R (Kd.int .i64) 2 w' w.heap.size (fun k_ => some k_ ≠ (v1165 : Value).ownBlock ∧ some k_ ≠ (v1169 : Value).ownBlock ∧ some k_ ≠ (v1181 : Value).ownBlock) v1173 t1171) ∧ Aside0 (Kd.R (Kd.int .i64) 2 w' w.heap.size (fun k_ => some k_ ≠ (v1165 : Value).ownBlock ∧ some k_ ≠ (v1169 : Value).ownBlock ∧ some k_ ≠ (v1173 : Value).ownBlock) v1181 t1179) ∧ Aside0 (Below w.heap.size w w'))
   case atStart => exact ⟨(0), zr, H', ⟨Nat.le_refl _⟩, ⟨mR_ HO_3.out⟩, ⟨mR_ HO_5.out⟩, ⟨mR_ HO_7.out⟩, ⟨mR_ HO_9.out⟩, ⟨mR_ HO_13.out⟩, ⟨zb⟩⟩
   case round =>
    clear H'
    try clear c1
    try clear c2
    try clear p2
    try clear c3
    try clear c4
    try clear c7
    try clear c16
    try clear c20
    try clear c20b0
    try clear c20b1
    try clear c22
    try clear c23
    try clear c23b0
    try clear c23b1
    try clear c25
    try clear c26
    try clear c26b0
    try clear c26b1
    try clear c37
    try clear c38
    try clear c39
    try clear c40
    try clear c41
    try clear c42
    try clear c43
    try clear c46
    try clear c47
    try clear c47b0
    try clear c47b1
    try clear p2
    obtain ⟨x17_2, rfl, HA, HK2, HO_3, HO_5, HO_7, HO_9, HO_13, HB⟩ := hrel
    cases gk with
    | zero => exact absurd HA.out (by simp [laws_FnTurnNumbers.l0])
    | succ k2 =>
     have H := HA.out
     clear HA
     simp only [laws_FnTurnNumbers.l0] at H
     by_cases c48 : x17_2 < (t1159.length : Int)
     rotate_left
     ·rw [if_neg c48] at H
      have c48b0 : decide (x17_2 < (t1159.length : Int)) = false := decide_eq_false c48
      clear c48
      replace H := Option.bind_eq_some_iff.mp H
      obtain ⟨t1191, A800, H⟩ := H
      replace H : (if t1191 = true then ((laws_hasInt.f k2 t1171 t1160).bind fun t1192 => (some t1192)) else (some false)) = some r := H
      have A80 := aM A800
      clear A800
      by_cases c81 : t1191 = true
      rotate_left
      ·replace c81 := Bool.eq_false_iff.mpr c81
       subst c81
       have H1 : (some false) = some r := by rw [if_neg (show ¬ (false = true) by decide)] at H; exact H
       clear H
       have H := H1
       clear H1
       obtain rfl := Option.some.inj H
       obtain ⟨Ao86, co86, eo86⟩ := Kd.R_slice HO_5.out
       subst eo86
       go_wp2_with (first | ((with_reducible refine gate_callee (f := 46) rfl ?_); refine goesL_ (some 146) rfl rfl Try.func46 (by kernel_rfl) rfl #[.slice Ao86 t1163.length co86] rfl zm ?_; (with_reducible refine (impl_IsPermutation.calls _ _ t1163 false _ ?side1 ?side2 A80.out).mono ?_); (case side1 => exact zc HO_5.out); (case side2 => exact (Kd.R_reads' HO_5.out).2.1); rintro e w87 ⟨rfl, hb⟩; refine ⟨_, rfl, ?_⟩; have n0_ := aM (Kd.R_below (mR_ HO_3.out) hb); have n1_ := aM (Kd.R_below (mR_ HO_5.out) hb); have n2_ := aM (Kd.R_below (mR_ HO_7.out) hb); have n3_ := aM (Kd.R_below (mR_ HO_9.out) hb); have n4_ := aM (Kd.R_below (mR_ HO_13.out) hb); have n5_ := aM (below_step zb hb); clear HO_3 HO_5 HO_7 HO_9 HO_13 HB; have HO_3 := n0_; have HO_5 := n1_; have HO_7 := n2_; have HO_9 := n3_; have HO_13 := n4_; have HB := n5_; clear n0_ n1_ n2_ n3_ n4_ n5_; (try clear hb); (try clear hb2); (try clear hk); (try clear hi)))
       go_ret
       exact ⟨zw, zb⟩
      subst c81
      have H1 : ((laws_hasInt.f k2 t1171 t1160).bind fun t1192 => (some t1192)) = some r := by rw [if_pos rfl] at H; exact H
      clear H
      have H := H1
      clear H1
      replace H := Option.bind_eq_some_iff.mp H
      obtain ⟨t1192, A820, H⟩ := H
      replace H : (some t1192) = some r := H
      have A82 := aM A820
      clear A820
      obtain rfl := Option.some.inj H
      obtain ⟨Ao83, co83, eo83⟩ := Kd.R_slice HO_5.out
      subst eo83
      go_wp2_with (first | ((with_reducible refine gate_callee (f := 46) rfl ?_); refine goesL_ (some 146) rfl rfl Try.func46 (by kernel_rfl) rfl #[.slice Ao83 t1163.length co83] rfl zm ?_; (with_reducible refine (impl_IsPermutation.calls _ _ t1163 true _ ?side1 ?side2 A80.out).mono ?_); (case side1 => exact zc HO_5.out); (case side2 => exact (Kd.R_reads' HO_5.out).2.1); rintro e w84 ⟨rfl, hb⟩; refine ⟨_, rfl, ?_⟩; have n0_ := aM (Kd.R_below (mR_ HO_3.out) hb); have n1_ := aM (Kd.R_below (mR_ HO_5.out) hb); have n2_ := aM (Kd.R_below (mR_ HO_7.out) hb); have n3_ := aM (Kd.R_below (mR_ HO_9.out) hb); have n4_ := aM (Kd.R_below (mR_ HO_13.out) hb); have n5_ := aM (below_step zb hb); clear HO_3 HO_5 HO_7 HO_9 HO_13 HB; have HO_3 := n0_; have HO_5 := n1_; have HO_7 := n2_; have HO_9 := n3_; have HO_13 := n4_; have HB := n5_; clear n0_ n1_ n2_ n3_ n4_ n5_; (try clear hb); (try clear hb2); (try clear hk); (try clear hi); obtain ⟨Ao85, co85, eo85⟩ := Kd.R_slice HO_9.out; subst eo85) | (go_at_call 44; (with_reducible refine (laws_hasInt.calls k2 _ _ t1171 t1160 t1192 _ ?side1 ?side2 A82.out).mono ?_); (case side1 => exact zc HO_9.out); (case side2 => exact (Kd.R_reads' HO_9.out).2.1); rintro e w' ⟨rfl, ⟨nd, rfl⟩⟩))
      go_ret
      exact ⟨zw, zb⟩
     rw [if_pos c48] at H
     have c48b0 : decide (x17_2 < (t1159.length : Int)) = true := decide_eq_true c48
     clear c48
     replace H := Option.bind_eq_some_iff.mp H
     obtain ⟨t1193, A490, H⟩ := H
     replace H : (if 0 ≤ x17_2 then (if x17_2 < (t1167.length : Int) then ((laws_hasInt.f k2 t1179 (rd t1167 x17_2)).bind fun t1195 => (if (t1193 != t1195) = true then (some false) else (laws_FnTurnNumbers.l1 k2 t1159 t1160 t1163 t1167 t1171 t1179 x17_2 0))) else (none)) else (none)) = some r := H
     have A49 := aM A490
     clear A490
     by_cases c50 : 0 ≤ x17_2
     rotate_left
     ·rw [if_neg c50] at H
      exact absurd H (by simp)
     rw [if_pos c50] at H
     have c50b0 : decide (0 ≤ x17_2) = true := decide_eq_true c50
     clear c50
     by_cases c51 : x17_2 < (t1167.length : Int)
     rotate_left
     ·rw [if_neg c51] at H
      exact absurd H (by simp)
     rw [if_pos c51] at H
     have c51b0 : decide (x17_2 < (t1167.length : Int)) = true := decide_eq_true c51
     clear c51
     replace H := Option.bind_eq_some_iff.mp H
     obtain ⟨t1195, A520, H⟩ := H
     replace H : (if (t1193 != t1195) = true then (some false) else (laws_FnTurnNumbers.l1 k2 t1159 t1160 t1163 t1167 t1171 t1179 x17_2 0)) = some r := H
     have A52 := aM A520
     clear A520
     by_cases c53 : (t1193 != t1195) = true
     ·rw [if_pos c53] at H
      have c53b0 : (t1193 != t1195) = true := c53
      (try (have c53b1 : decide (t1193 = t1195) = false := by simpa using c53))
      (try (have c53b2 : (t1193 == t1195) = false := by simpa using c53))
      (try (have c53b3 : ¬ (t1193 = t1195) := by simpa using c53))
      clear c53
      obtain rfl := Option.some.inj H
      try go_wp2
      have n0_ := aM (Kd.R_drew HO_3.out)
      have n1_ := aM (Kd.R_drew HO_5.out)
      have n2_ := aM (Kd.R_drew HO_7.out)
      have n3_ := aM (Kd.R_drew HO_9.out)
      have n4_ := aM (Kd.R_drew HO_13.out)
      have n5_ := aM (below_drew1 HB.out)
      clear HO_3
      clear HO_5
      clear HO_7
      clear HO_9
      clear HO_13
      clear HB
      have HO_3 := n0_
      have HO_5 := n1_
      have HO_7 := n2_
      have HO_9 := n3_
      have HO_13 := n4_
      have HB := n5_
      clear n0_ n1_ n2_ n3_ n4_ n5_
      obtain ⟨Ao55, co55, eo55⟩ := Kd.R_slice HO_7.out
      (first | subst eo55 | (injection eo55 with f1_ f2_ f3_; have f4_ := f1_.symm; have f5_ := f3_.symm; clear f1_ f2_ f3_; subst f4_; subst f5_))
      have p1194 : 0 ≤ (x17_2 : Int) := of_decide_eq_true za
      have q1194 : x17_2 < (t1167.length : Int) := of_decide_eq_true za
      obtain ⟨ad1194, e1194, hx1194_0⟩ := Kd.at_int (Kd.R_reads' HO_7.out).2.2 x17_2 p1194 q1194
      cases e1194
      replace p1194 := eq_true p1194
      replace q1194 := eq_true q1194
      obtain ⟨Ao56, co56, eo56⟩ := Kd.R_slice HO_13.out
      (first | subst eo56 | (injection eo56 with f1_ f2_ f3_; have f4_ := f1_.symm; have f5_ := f3_.symm; clear f1_ f2_ f3_; subst f4_; subst f5_))
      refine start_ (n := 10) (S := fun w' => w'.cell? (ad1194.add (x17_2).toNat) = some (.int .i64 (rd t1167 x17_2))) (ds := []) zA20 (by kernel_rfl) rfl rfl (hx1194_0) (fun hHeld => ?_); refine with_tabW laws_FnTurnNumbers.tab17 laws_FnTurnNumbers.bits17 (fun HT_ HW_ => ?_)
      generalize wr.drew = w54 at HO_3 HO_5 HO_7 HO_9 HO_13 HB hx1194_0 hHeld ⊢
      refine zp 0 (some 105) ?_ zA21 rfl rfl (Or.inl ⟨by rfl, ?_⟩) ?_ ?_ ?_
      rotate_left
      ·intro w'
       go_simp
       with_reducible rfl
      rotate_left
      ·simp only [Act.put, xA, xB, xC, i64_w, i32_w]
       rfl
      refine zp 1 (some 106) ?_ zA22 rfl rfl (Or.inl ⟨by rfl, ?_⟩) ?_ ?_ ?_
      rotate_left
      ·intro w'
       go_simp
       with_reducible rfl
      rotate_left
      ·simp only [Act.put, xA, xB, xC, i64_w, i32_w]
       rfl
      refine zp 3 (some 108) ?_ zA147 rfl rfl (Or.inl ⟨by rfl, ?_⟩) ?_ ?_ ?_
      rotate_left
      ·intro w'
       go_simp
       with_reducible rfl
      rotate_left
      ·simp only [Act.put, xA, xB, xC, i64_w, i32_w]
       rfl
      refine zp 4 (some 109) ?_ zA148 rfl rfl (Or.inl ⟨by rfl, ?_⟩) ?_ ?_ ?_
      rotate_left
      ·intro w'
       go_simp
       with_reducible rfl
      rotate_left
      ·simp only [Act.put, xA, xB, xC, i64_w, i32_w]
       rfl
      refine zp 5 (some 110) ?_ zA149 rfl rfl (Or.inl ⟨by rfl, ?_⟩) ?_ ?_ ?_
      rotate_left
      ·intro w'
       go_simp
       with_reducible rfl
      rotate_left
      ·simp only [Act.put, xA, xB, xC, i64_w, i32_w]
       rfl
      refine zp 6 (some 111) ?_ zA150 rfl rfl (Or.inl ⟨by rfl, ?_⟩) ?_ ?_ ?_
      rotate_left
      ·intro w'
       go_simp
       with_reducible rfl
      rotate_left
      ·simp only [Act.put, xA, xB, xC, i64_w, i32_w]
       rfl
      refine zu 7 (some 112) ?_ zA151 rfl rfl (Or.inl ⟨by rfl, ?_⟩) hHeld ?_ ?_ ?_
      rotate_left
      ·intro w' s0
       go_simp
       with_reducible rfl
      rotate_left
      ·simp only [Act.put, xA, xB, xC, i64_w, i32_w]
       rfl
      refine one_ (i := 2) (N := some 107) zA28 rfl rfl (one_of HT_.out (by kernel_rfl)) (by decide) (fun K hK => ?_)
      refine goes_ Try.func44 (by kernel_rfl) rfl #[.slice Ao56 t1179.length co56, .int .i64 x17_2] (by rfl) rfl rfl zm ?_
      with_reducible refine (laws_hasInt.calls k2 _ _ t1179 x17_2 t1193 _ ?side1 ?side2 A49.out).mono ?_
      (case side1 => exact zc HO_13.out)
      (case side2 => exact (Kd.R_reads' HO_13.out).2.1)
      rintro e w' ⟨rfl, ⟨nd, rfl⟩⟩
      refine ⟨_, rfl, ?_⟩
      refine hK.out _ _ (hHeld) (fun hHeld => ?_)
      clear hK K
      refine norm_ (a' := ?_) ?_ ?_
      rotate_left
      ·show Act.put _ (some 107) _ = _
       simp only [Act.put, xA, xB, xC, i64_w, i32_w]
       rfl
      refine one_ (i := 8) (N := some 113) zA29 rfl rfl (one_of HT_.out (by kernel_rfl)) (by decide) (fun K hK => ?_)
      refine goes_ Try.func44 (by kernel_rfl) rfl #[.slice Ao56 t1179.length co56, .int .i64 (rd t1167 x17_2)] (by rfl) rfl rfl zm ?_
      with_reducible refine (laws_hasInt.calls k2 _ _ t1179 (rd t1167 x17_2) t1195 _ ?side1 ?side2 A52.out).mono ?_
      (case side1 => exact zc HO_13.out)
      (case side2 => exact (Kd.R_reads' HO_13.out).2.1)
      rintro e w' ⟨rfl, ⟨nd, rfl⟩⟩
      refine ⟨_, rfl, ?_⟩
      refine hK.out _ _ (hHeld) (fun hHeld => ?_)
      clear hK K
      refine norm_ (a' := ?_) ?_ ?_
      rotate_left
      ·show Act.put _ (some 113) _ = _
       simp only [Act.put, xA, xB, xC, i64_w, i32_w]
       rfl
      refine zp 9 (some 114) ?_ zA30 rfl rfl (Or.inl ⟨by rfl, ?_⟩) ?_ ?_ ?_
      rotate_left
      ·intro w'
       go_simp
       with_reducible rfl
      rotate_left
      ·simp only [Act.put, xA, xB, xC, i64_w, i32_w]
       rfl
      refine done_ (done_of HT_.out (by kernel_rfl)) ?_
      try go_wp2
      go_ret
      exact ⟨zw, zb⟩
     rw [if_neg c53] at H
     have c53b0 : (t1193 != t1195) = false := by simpa using c53
     (try (have c53b1 : decide (t1193 = t1195) = true := by simpa using c53))
     (try (have c53b2 : (t1193 == t1195) = true := by simpa using c53))
     clear c53
     have H' := aM H
     clear H
     try go_wp2
     have n0_ := aM (Kd.R_drew HO_3.out)
     have n1_ := aM (Kd.R_drew HO_5.out)
     have n2_ := aM (Kd.R_drew HO_7.out)
     have n3_ := aM (Kd.R_drew HO_9.out)
     have n4_ := aM (Kd.R_drew HO_13.out)
     have n5_ := aM (below_drew1 HB.out)
     clear HO_3
     clear HO_5
     clear HO_7
     clear HO_9
     clear HO_13
     clear HB
     have HO_3 := n0_
     have HO_5 := n1_
     have HO_7 := n2_
     have HO_9 := n3_
     have HO_13 := n4_
     have HB := n5_
     clear n0_ n1_ n2_ n3_ n4_ n5_
     obtain ⟨Ao58, co58, eo58⟩ := Kd.R_slice HO_7.out
     (first | subst eo58 | (injection eo58 with f1_ f2_ f3_; have f4_ := f1_.symm; have f5_ := f3_.symm; clear f1_ f2_ f3_; subst f4_; subst f5_))
     have p1194 : 0 ≤ (x17_2 : Int) := of_decide_eq_true za
     have q1194 : x17_2 < (t1167.length : Int) := of_decide_eq_true za
     obtain ⟨ad1194, e1194, hx1194_0⟩ := Kd.at_int (Kd.R_reads' HO_7.out).2.2 x17_2 p1194 q1194
     cases e1194
     replace p1194 := eq_true p1194
     replace q1194 := eq_true q1194
     obtain ⟨Ao59, co59, eo59⟩ := Kd.R_slice HO_13.out
     (first | subst eo59 | (injection eo59 with f1_ f2_ f3_; have f4_ := f1_.symm; have f5_ := f3_.symm; clear f1_ f2_ f3_; subst f4_; subst f5_))
     refine start_ (n := 10) (S := fun w' => w'.cell? (ad1194.add (x17_2).toNat) = some (.int .i64 (rd t1167 x17_2))) (ds := []) zA20 (by kernel_rfl) rfl rfl (hx1194_0) (fun hHeld => ?_); refine with_tabW laws_FnTurnNumbers.tab17 laws_FnTurnNumbers.bits17 (fun HT_ HW_ => ?_)
     generalize wr.drew = w57 at HO_3 HO_5 HO_7 HO_9 HO_13 HB hx1194_0 hHeld ⊢
     refine zp 0 (some 105) ?_ zA21 rfl rfl (Or.inl ⟨by rfl, ?_⟩) ?_ ?_ ?_
     rotate_left
     ·intro w'
      go_simp
      with_reducible rfl
     rotate_left
     ·simp only [Act.put, xA, xB, xC, i64_w, i32_w]
      rfl
     refine zp 1 (some 106) ?_ zA22 rfl rfl (Or.inl ⟨by rfl, ?_⟩) ?_ ?_ ?_
     rotate_left
     ·intro w'
      go_simp
      with_reducible rfl
     rotate_left
     ·simp only [Act.put, xA, xB, xC, i64_w, i32_w]
      rfl
     refine zp 3 (some 108) ?_ zA147 rfl rfl (Or.inl ⟨by rfl, ?_⟩) ?_ ?_ ?_
     rotate_left
     ·intro w'
      go_simp
      with_reducible rfl
     rotate_left
     ·simp only [Act.put, xA, xB, xC, i64_w, i32_w]
      rfl
     refine zp 4 (some 109) ?_ zA148 rfl rfl (Or.inl ⟨by rfl, ?_⟩) ?_ ?_ ?_
     rotate_left
     ·intro w'
      go_simp
      with_reducible rfl
     rotate_left
     ·simp only [Act.put, xA, xB, xC, i64_w, i32_w]
      rfl
     refine zp 5 (some 110) ?_ zA149 rfl rfl (Or.inl ⟨by rfl, ?_⟩) ?_ ?_ ?_
     rotate_left
     ·intro w'
      go_simp
      with_reducible rfl
     rotate_left
     ·simp only [Act.put, xA, xB, xC, i64_w, i32_w]
      rfl
     refine zp 6 (some 111) ?_ zA150 rfl rfl (Or.inl ⟨by rfl, ?_⟩) ?_ ?_ ?_
     rotate_left
     ·intro w'
      go_simp
      with_reducible rfl
     rotate_left
     ·simp only [Act.put, xA, xB, xC, i64_w, i32_w]
      rfl
     refine zu 7 (some 112) ?_ zA151 rfl rfl (Or.inl ⟨by rfl, ?_⟩) hHeld ?_ ?_ ?_
     rotate_left
     ·intro w' s0
      go_simp
      with_reducible rfl
     rotate_left
     ·simp only [Act.put, xA, xB, xC, i64_w, i32_w]
      rfl
     refine one_ (i := 2) (N := some 107) zA28 rfl rfl (one_of HT_.out (by kernel_rfl)) (by decide) (fun K hK => ?_)
     refine goes_ Try.func44 (by kernel_rfl) rfl #[.slice Ao59 t1179.length co59, .int .i64 x17_2] (by rfl) rfl rfl zm ?_
     with_reducible refine (laws_hasInt.calls k2 _ _ t1179 x17_2 t1193 _ ?side1 ?side2 A49.out).mono ?_
     (case side1 => exact zc HO_13.out)
     (case side2 => exact (Kd.R_reads' HO_13.out).2.1)
     rintro e w' ⟨rfl, ⟨nd, rfl⟩⟩
     refine ⟨_, rfl, ?_⟩
     refine hK.out _ _ (hHeld) (fun hHeld => ?_)
     clear hK K
     refine norm_ (a' := ?_) ?_ ?_
     rotate_left
     ·show Act.put _ (some 107) _ = _
      simp only [Act.put, xA, xB, xC, i64_w, i32_w]
      rfl
     refine one_ (i := 8) (N := some 113) zA29 rfl rfl (one_of HT_.out (by kernel_rfl)) (by decide) (fun K hK => ?_)
     refine goes_ Try.func44 (by kernel_rfl) rfl #[.slice Ao59 t1179.length co59, .int .i64 (rd t1167 x17_2)] (by rfl) rfl rfl zm ?_
     with_reducible refine (laws_hasInt.calls k2 _ _ t1179 (rd t1167 x17_2) t1195 _ ?side1 ?side2 A52.out).mono ?_
     (case side1 => exact zc HO_13.out)
     (case side2 => exact (Kd.R_reads' HO_13.out).2.1)
     rintro e w' ⟨rfl, ⟨nd, rfl⟩⟩
     refine ⟨_, rfl, ?_⟩
     refine hK.out _ _ (hHeld) (fun hHeld => ?_)
     clear hK K
     refine norm_ (a' := ?_) ?_ ?_
     rotate_left
     ·show Act.put _ (some 113) _ = _
      simp only [Act.put, xA, xB, xC, i64_w, i32_w]
      rfl
     refine zp 9 (some 114) ?_ zA30 rfl rfl (Or.inl ⟨by rfl, ?_⟩) ?_ ?_ ?_
     rotate_left
     ·intro w'
      go_simp
      with_reducible rfl
     rotate_left
     ·simp only [Act.put, xA, xB, xC, i64_w, i32_w]
      rfl
     refine done_ (done_of HT_.out (by kernel_rfl)) ?_
     try go_wp2
     go_loopg [18] k2 (fun kq v18 w' => ∃ (x18_3 : Int), v18 = .int .i64 x18_3 ∧ Aside0 (laws_FnTurnNumbers.l1 kq t1159 t1160 t1163 t1167 t1171 t1179 x17_2 x18_3 = some r) ∧ Aside0 (kq ≤ k2) ∧ Aside0 (Kd.R k59 59 w' w.heap.size (fun _ => True) (.slice Ao13 t1159.length co13) t1159) ∧ Aside0 (Kd.R (Kd.int .i64) 2 w' w.heap.size (fun k_ => some k_ ≠ ((.slice (some ad1194) t1167.length co58) : Value).ownBlock ∧ some k_ ≠ (v1173 : Value).ownBlock ∧ some k_ ≠ ((.slice Ao59 t1179.length co59) : Value).ownBlock) v1165 t1163) ∧ Aside0 (Kd.R (Kd.int .i64) 2 w' w.heap.size (fun k_ => some k_ ≠ (v1165 : Value).ownBlock ∧ some k_ ≠ (v1173 : Value).ownBlock ∧ some k_ ≠ ((.slice Ao59 t1179.length co59) : Value).ownBlock) (.slice (some ad1194) t1167.length co58) t1167) ∧ Aside0 (Kd.R (Kd.int .i64) 2 w' w.heap.size (fun k_ => some k_ ≠ (v1165 : Value).ownBlock ∧ some k_ ≠ ((.slice (some ad1194) t1167.length co58) : Value).ownBlock ∧ some k_ ≠ ((.slice Ao59 t1179.length co59) : Value).ownBlock) v1173 t1171) ∧ Aside0 (Kd.R (Kd.int .i64) 2 w' w.heap.size (fun k_ => some k_ ≠ (v1165 : Value).ownBlock ∧ some k_ ≠ ((.slice (some ad1194) t1167.length co58) : Value).ownBlock ∧ some k_ ≠ (v1173 : Value).ownBlock) (.slice Ao59 t1179.length co59) t1179) ∧ Aside0 (Below w.heap.size w w'))
     case atStart => exact ⟨(0), zr, H', ⟨Nat.le_refl _⟩, ⟨mR_ HO_3.out⟩, ⟨mR_ HO_5.out⟩, ⟨mR_ HO_7.out⟩, ⟨mR_ HO_9.out⟩, ⟨mR_ HO_13.out⟩, ⟨zb⟩⟩
     case round =>
      clear H'
      try clear c1
      try clear p1
      try clear q1
      try clear hx1
      try clear c2
      try clear p2
      try clear c3
      try clear c4
      try clear c5
      try clear c7
      try clear p11
      try clear q11
      try clear hx11
      try clear c16
      try clear c20
      try clear c20b0
      try clear c20b1
      try clear c22
      try clear c23
      try clear c23b0
      try clear c23b1
      try clear c25
      try clear c26
      try clear c26b0
      try clear c26b1
      try clear c37
      try clear c38
      try clear c39
      try clear c40
      try clear c41
      try clear c42
      try clear c43
      try clear c44
      try clear c46
      try clear c47
      try clear c47b0
      try clear c47b1
      try clear c48
      try clear c48b0
      try clear c50
      try clear c50b0
      try clear c51
      try clear c51b0
      try clear c53
      try clear c53b0
      try clear c53b1
      try clear c53b2
      try clear hx1194_0
      try clear p1194
      try clear p2
      try clear q1194
      obtain ⟨x18_3, rfl, HA, HK3, HO_3, HO_5, HO_7, HO_9, HO_13, HB⟩ := hrel
      cases gk with
      | zero => exact absurd HA.out (by simp [laws_FnTurnNumbers.l1])
      | succ k3 =>
       have H := HA.out
       clear HA
       simp only [laws_FnTurnNumbers.l1] at H
       by_cases c60 : x18_3 < x17_2
       rotate_left
       ·rw [if_neg c60] at H
        have c60b0 : decide (x18_3 < x17_2) = false := decide_eq_false c60
        clear c60
        have H' := aM H
        clear H
        go_wp2
        go_roundg k3
        case measure => have := HJ10.out; have := HK2.out; have := HK3.out; omega
        case rel => exact ⟨(wrap64 (x17_2 + 1)), zr, H', ⟨by have := HJ10.out; have := HK2.out; have := HK3.out; omega⟩, ⟨mR_ HO_3.out⟩, ⟨mR_ HO_5.out⟩, ⟨mR_ HO_7.out⟩, ⟨mR_ HO_9.out⟩, ⟨mR_ HO_13.out⟩, ⟨zb⟩⟩
       rw [if_pos c60] at H
       have c60b0 : decide (x18_3 < x17_2) = true := decide_eq_true c60
       clear c60
       by_cases c61 : 0 ≤ x17_2
       rotate_left
       ·rw [if_neg c61] at H
        exact absurd H (by simp)
       rw [if_pos c61] at H
       have c61b0 : decide (0 ≤ x17_2) = true := decide_eq_true c61
       clear c61
       by_cases c62 : x17_2 < (t1159.length : Int)
       rotate_left
       ·rw [if_neg c62] at H
        exact absurd H (by simp)
       rw [if_pos c62] at H
       have c62b0 : decide (x17_2 < (t1159.length : Int)) = true := decide_eq_true c62
       clear c62
       by_cases c63 : 0 ≤ x18_3
       rotate_left
       ·rw [if_neg c63] at H
        exact absurd H (by simp)
       rw [if_pos c63] at H
       have c63b0 : decide (0 ≤ x18_3) = true := decide_eq_true c63
       clear c63
       by_cases c64 : x18_3 < (t1159.length : Int)
       rotate_left
       ·rw [if_neg c64] at H
        exact absurd H (by simp)
       rw [if_pos c64] at H
       have c64b0 : decide (x18_3 < (t1159.length : Int)) = true := decide_eq_true c64
       clear c64
       replace H := Option.bind_eq_some_iff.mp H
       obtain ⟨t1198, A650, H⟩ := H
       replace H : (if x17_2 < (t1167.length : Int) then (if 0 ≤ (rd t1167 x17_2) then (if (rd t1167 x17_2) < (t1159.length : Int) then (if x18_3 < (t1167.length : Int) then (if 0 ≤ (rd t1167 x18_3) then (if (rd t1167 x18_3) < (t1159.length : Int) then ((laws_near.f ((rd_T59 t1159 (rd t1167 x17_2)).f0) ((rd_T59 t1159 (rd t1167 x17_2)).f1) ((rd_T59 t1159 (rd t1167 x18_3)).f0) ((rd_T59 t1159 (rd t1167 x18_3)).f1)).bind fun t1203 => (if (t1198 != t1203) = true then (some false) else (laws_FnTurnNumbers.l1 k3 t1159 t1160 t1163 t1167 t1171 t1179 x17_2 (wrap64 (x18_3 + 1))))) else (none)) else (none)) else (none)) else (none)) else (none)) else (none)) = some r := H
       have A65 := aM A650
       clear A650
       by_cases c66 : x17_2 < (t1167.length : Int)
       rotate_left
       ·rw [if_neg c66] at H
        exact absurd H (by simp)
       rw [if_pos c66] at H
       have c66b0 : decide (x17_2 < (t1167.length : Int)) = true := decide_eq_true c66
       clear c66
       by_cases c67 : 0 ≤ (rd t1167 x17_2)
       rotate_left
       ·rw [if_neg c67] at H
        exact absurd H (by simp)
       rw [if_pos c67] at H
       have c67b0 : decide (0 ≤ (rd t1167 x17_2)) = true := decide_eq_true c67
       clear c67
       by_cases c68 : (rd t1167 x17_2) < (t1159.length : Int)
       rotate_left
       ·rw [if_neg c68] at H
        exact absurd H (by simp)
       rw [if_pos c68] at H
       have c68b0 : decide ((rd t1167 x17_2) < (t1159.length : Int)) = true := decide_eq_true c68
       clear c68
       by_cases c69 : x18_3 < (t1167.length : Int)
       rotate_left
       ·rw [if_neg c69] at H
        exact absurd H (by simp)
       rw [if_pos c69] at H
       have c69b0 : decide (x18_3 < (t1167.length : Int)) = true := decide_eq_true c69
       clear c69
       by_cases c70 : 0 ≤ (rd t1167 x18_3)
       rotate_left
       ·rw [if_neg c70] at H
        exact absurd H (by simp)
       rw [if_pos c70] at H
       have c70b0 : decide (0 ≤ (rd t1167 x18_3)) = true := decide_eq_true c70
       clear c70
       by_cases c71 : (rd t1167 x18_3) < (t1159.length : Int)
       rotate_left
       ·rw [if_neg c71] at H
        exact absurd H (by simp)
       rw [if_pos c71] at H
       have c71b0 : decide ((rd t1167 x18_3) < (t1159.length : Int)) = true := decide_eq_true c71
       clear c71
       replace H := Option.bind_eq_some_iff.mp H
       obtain ⟨t1203, A720, H⟩ := H
       replace H : (if (t1198 != t1203) = true then (some false) else (laws_FnTurnNumbers.l1 k3 t1159 t1160 t1163 t1167 t1171 t1179 x17_2 (wrap64 (x18_3 + 1)))) = some r := H
       have A72 := aM A720
       clear A720
       by_cases c73 : (t1198 != t1203) = true
       ·rw [if_pos c73] at H
        have c73b0 : (t1198 != t1203) = true := c73
        (try (have c73b1 : decide (t1198 = t1203) = false := by simpa using c73))
        (try (have c73b2 : (t1198 == t1203) = false := by simpa using c73))
        (try (have c73b3 : ¬ (t1198 = t1203) := by simpa using c73))
        clear c73
        obtain rfl := Option.some.inj H
        try go_wp2
        have n0_ := aM (Kd.R_drew HO_3.out)
        have n1_ := aM (Kd.R_drew HO_5.out)
        have n2_ := aM (Kd.R_drew HO_7.out)
        have n3_ := aM (Kd.R_drew HO_9.out)
        have n4_ := aM (Kd.R_drew HO_13.out)
        have n5_ := aM (below_drew1 HB.out)
        clear HO_3
        clear HO_5
        clear HO_7
        clear HO_9
        clear HO_13
        clear HB
        have HO_3 := n0_
        have HO_5 := n1_
        have HO_7 := n2_
        have HO_9 := n3_
        have HO_13 := n4_
        have HB := n5_
        clear n0_ n1_ n2_ n3_ n4_ n5_
        have p1196 : 0 ≤ (x17_2 : Int) := of_decide_eq_true za
        have q1196 : x17_2 < (t1159.length : Int) := of_decide_eq_true za
        obtain ⟨ad1196, e1196, hx1196_0, hx1196_1⟩ := at_T59 (Kd.R_reads' HO_3.out).2.2 x17_2 p1196 q1196
        cases e1196
        replace p1196 := eq_true p1196
        replace q1196 := eq_true q1196
        have p1197 : 0 ≤ (x18_3 : Int) := of_decide_eq_true za
        have q1197 : x18_3 < (t1159.length : Int) := of_decide_eq_true za
        obtain ⟨ad1197, e1197, hx1197_0, hx1197_1⟩ := at_T59 (Kd.R_reads' HO_3.out).2.2 x18_3 p1197 q1197
        obtain rfl : ad1196 = ad1197 := (by injection e1197)
        replace p1197 := eq_true p1197
        replace q1197 := eq_true q1197
        have p1199 : 0 ≤ (x17_2 : Int) := of_decide_eq_true za
        have q1199 : x17_2 < (t1167.length : Int) := of_decide_eq_true za
        obtain ⟨ad1199, e1199, hx1199_0⟩ := Kd.at_int (Kd.R_reads' HO_7.out).2.2 x17_2 p1199 q1199
        obtain rfl : ad1194 = ad1199 := (by injection e1199)
        replace p1199 := eq_true p1199
        replace q1199 := eq_true q1199
        have p1200 : 0 ≤ ((rd t1167 x17_2) : Int) := of_decide_eq_true za
        have q1200 : (rd t1167 x17_2) < (t1159.length : Int) := of_decide_eq_true za
        obtain ⟨ad1200, e1200, hx1200_0, hx1200_1⟩ := at_T59 (Kd.R_reads' HO_3.out).2.2 (rd t1167 x17_2) p1200 q1200
        obtain rfl : ad1196 = ad1200 := (by injection e1200)
        replace p1200 := eq_true p1200
        replace q1200 := eq_true q1200
        have p1201 : 0 ≤ (x18_3 : Int) := of_decide_eq_true za
        have q1201 : x18_3 < (t1167.length : Int) := of_decide_eq_true za
        obtain ⟨ad1201, e1201, hx1201_0⟩ := Kd.at_int (Kd.R_reads' HO_7.out).2.2 x18_3 p1201 q1201
        obtain rfl : ad1194 = ad1201 := (by injection e1201)
        replace p1201 := eq_true p1201
        replace q1201 := eq_true q1201
        have p1202 : 0 ≤ ((rd t1167 x18_3) : Int) := of_decide_eq_true za
        have q1202 : (rd t1167 x18_3) < (t1159.length : Int) := of_decide_eq_true za
        obtain ⟨ad1202, e1202, hx1202_0, hx1202_1⟩ := at_T59 (Kd.R_reads' HO_3.out).2.2 (rd t1167 x18_3) p1202 q1202
        obtain rfl : ad1196 = ad1202 := (by injection e1202)
        replace p1202 := eq_true p1202
        replace q1202 := eq_true q1202
        refine start_ (n := 25) (S := fun w' => w'.cell? (ad1196.add ((x17_2).toNat * 2)) = some (.int .i64 ((rd_T59 t1159 x17_2).f0)) ∧ w'.cell? ⟨(ad1196.add ((x17_2).toNat * 2)).block, (ad1196.add ((x17_2).toNat * 2)).off + 1, none⟩ = some (.int .i64 ((rd_T59 t1159 x17_2).f1)) ∧ w'.cell? (ad1196.add ((x18_3).toNat * 2)) = some (.int .i64 ((rd_T59 t1159 x18_3).f0)) ∧ w'.cell? ⟨(ad1196.add ((x18_3).toNat * 2)).block, (ad1196.add ((x18_3).toNat * 2)).off + 1, none⟩ = some (.int .i64 ((rd_T59 t1159 x18_3).f1)) ∧ w'.cell? (ad1194.add (x17_2).toNat) = some (.int .i64 (rd t1167 x17_2)) ∧ w'.cell? (ad1196.add (((rd t1167 x17_2)).toNat * 2)) = some (.int .i64 ((rd_T59 t1159 (rd t1167 x17_2)).f0)) ∧ w'.cell? ⟨(ad1196.add (((rd t1167 x17_2)).toNat * 2)).block, (ad1196.add (((rd t1167 x17_2)).toNat * 2)).off + 1, none⟩ = some (.int .i64 ((rd_T59 t1159 (rd t1167 x17_2)).f1)) ∧ w'.cell? (ad1194.add (x18_3).toNat) = some (.int .i64 (rd t1167 x18_3)) ∧ w'.cell? (ad1196.add (((rd t1167 x18_3)).toNat * 2)) = some (.int .i64 ((rd_T59 t1159 (rd t1167 x18_3)).f0)) ∧ w'.cell? ⟨(ad1196.add (((rd t1167 x18_3)).toNat * 2)).block, (ad1196.add (((rd t1167 x18_3)).toNat * 2)).off + 1, none⟩ = some (.int .i64 ((rd_T59 t1159 (rd t1167 x18_3)).f1))) (ds := []) zA152 (by kernel_rfl) rfl rfl ⟨hx1196_0, hx1196_1, hx1197_0, hx1197_1, hx1199_0, hx1200_0, hx1200_1, hx1201_0, hx1202_0, hx1202_1⟩ (fun hHeld => ?_); refine with_tabW laws_FnTurnNumbers.tab22 laws_FnTurnNumbers.bits22 (fun HT_ HW_ => ?_)
        generalize wr.drew = w74 at HO_3 HO_5 HO_7 HO_9 HO_13 HB hx1196_0 hx1196_1 hx1197_0 hx1197_1 hx1199_0 hx1200_0 hx1200_1 hx1201_0 hx1202_0 hx1202_1 hHeld ⊢
        refine zp 0 (some 120) ?_ zA153 rfl rfl (Or.inl ⟨by rfl, ?_⟩) ?_ ?_ ?_
        rotate_left
        ·intro w'
         go_simp
         with_reducible rfl
        rotate_left
        ·simp only [Act.put, xA, xB, xC, i64_w, i32_w]
         rfl
        refine zp 1 (some 121) ?_ zA154 rfl rfl (Or.inl ⟨by rfl, ?_⟩) ?_ ?_ ?_
        rotate_left
        ·intro w'
         go_simp
         with_reducible rfl
        rotate_left
        ·simp only [Act.put, xA, xB, xC, i64_w, i32_w]
         rfl
        refine zp 2 (some 122) ?_ zA155 rfl rfl (Or.inl ⟨by rfl, ?_⟩) ?_ ?_ ?_
        rotate_left
        ·intro w'
         go_simp
         with_reducible rfl
        rotate_left
        ·simp only [Act.put, xA, xB, xC, i64_w, i32_w]
         rfl
        refine zp 4 (some 124) ?_ zA156 rfl rfl (Or.inl ⟨by rfl, ?_⟩) ?_ ?_ ?_
        rotate_left
        ·intro w'
         go_simp
         with_reducible rfl
        rotate_left
        ·simp only [Act.put, xA, xB, xC, i64_w, i32_w]
         rfl
        refine zp 5 (some 125) ?_ zA157 rfl rfl (Or.inl ⟨by rfl, ?_⟩) ?_ ?_ ?_
        rotate_left
        ·intro w'
         go_simp
         with_reducible rfl
        rotate_left
        ·simp only [Act.put, xA, xB, xC, i64_w, i32_w]
         rfl
        refine zp 6 (some 126) ?_ zA158 rfl rfl (Or.inl ⟨by rfl, ?_⟩) ?_ ?_ ?_
        rotate_left
        ·intro w'
         go_simp
         with_reducible rfl
        rotate_left
        ·simp only [Act.put, xA, xB, xC, i64_w, i32_w]
         rfl
        refine zp 9 (some 129) ?_ zA159 rfl rfl (Or.inl ⟨by rfl, ?_⟩) ?_ ?_ ?_
        rotate_left
        ·intro w'
         go_simp
         with_reducible rfl
        rotate_left
        ·simp only [Act.put, xA, xB, xC, i64_w, i32_w]
         rfl
        refine zp 10 (some 130) ?_ zA160 rfl rfl (Or.inl ⟨by rfl, ?_⟩) ?_ ?_ ?_
        rotate_left
        ·intro w'
         go_simp
         with_reducible rfl
        rotate_left
        ·simp only [Act.put, xA, xB, xC, i64_w, i32_w]
         rfl
        refine zp 11 (some 131) ?_ zA161 rfl rfl (Or.inl ⟨by rfl, ?_⟩) ?_ ?_ ?_
        rotate_left
        ·intro w'
         go_simp
         with_reducible rfl
        rotate_left
        ·simp only [Act.put, xA, xB, xC, i64_w, i32_w]
         rfl
        refine zp 12 (some 132) ?_ zA162 rfl rfl (Or.inl ⟨by rfl, ?_⟩) ?_ ?_ ?_
        rotate_left
        ·intro w'
         go_simp
         with_reducible rfl
        rotate_left
        ·simp only [Act.put, xA, xB, xC, i64_w, i32_w]
         rfl
        refine zp 16 (some 136) ?_ zA163 rfl rfl (Or.inl ⟨by rfl, ?_⟩) ?_ ?_ ?_
        rotate_left
        ·intro w'
         go_simp
         with_reducible rfl
        rotate_left
        ·simp only [Act.put, xA, xB, xC, i64_w, i32_w]
         rfl
        refine zp 17 (some 137) ?_ zA164 rfl rfl (Or.inl ⟨by rfl, ?_⟩) ?_ ?_ ?_
        rotate_left
        ·intro w'
         go_simp
         with_reducible rfl
        rotate_left
        ·simp only [Act.put, xA, xB, xC, i64_w, i32_w]
         rfl
        refine zp 18 (some 138) ?_ zA165 rfl rfl (Or.inl ⟨by rfl, ?_⟩) ?_ ?_ ?_
        rotate_left
        ·intro w'
         go_simp
         with_reducible rfl
        rotate_left
        ·simp only [Act.put, xA, xB, xC, i64_w, i32_w]
         rfl
        refine zp 19 (some 139) ?_ zA166 rfl rfl (Or.inl ⟨by rfl, ?_⟩) ?_ ?_ ?_
        rotate_left
        ·intro w'
         go_simp
         with_reducible rfl
        rotate_left
        ·simp only [Act.put, xA, xB, xC, i64_w, i32_w]
         rfl
        refine zu 3 (some 123) ?_ zA167 rfl rfl (Or.inl ⟨by rfl, ?_⟩) hHeld ?_ ?_ ?_
        rotate_left
        ·rintro w' ⟨s0, s1, s2, s3, s4, s5, s6, s7, s8, s9⟩
         go_simp
         with_reducible rfl
        rotate_left
        ·simp only [Act.put, xA, xB, xC, i64_w, i32_w]
         rfl
        refine zu 7 (some 127) ?_ zA168 rfl rfl (Or.inl ⟨by rfl, ?_⟩) hHeld ?_ ?_ ?_
        rotate_left
        ·rintro w' ⟨s0, s1, s2, s3, s4, s5, s6, s7, s8, s9⟩
         go_simp
         with_reducible rfl
        rotate_left
        ·simp only [Act.put, xA, xB, xC, i64_w, i32_w]
         rfl
        refine zu 13 (some 133) ?_ zA169 rfl rfl (Or.inl ⟨by rfl, ?_⟩) hHeld ?_ ?_ ?_
        rotate_left
        ·rintro w' ⟨s0, s1, s2, s3, s4, s5, s6, s7, s8, s9⟩
         go_simp
         with_reducible rfl
        rotate_left
        ·simp only [Act.put, xA, xB, xC, i64_w, i32_w]
         rfl
        refine zp 14 (some 134) ?_ zA170 rfl rfl (Or.inl ⟨by rfl, ?_⟩) ?_ ?_ ?_
        rotate_left
        ·intro w'
         go_simp
         with_reducible rfl
        rotate_left
        ·simp only [Act.put, xA, xB, xC, i64_w, i32_w]
         rfl
        refine zu 15 (some 135) ?_ zA171 rfl rfl (Or.inl ⟨by rfl, ?_⟩) hHeld ?_ ?_ ?_
        rotate_left
        ·rintro w' ⟨s0, s1, s2, s3, s4, s5, s6, s7, s8, s9⟩
         go_simp
         with_reducible rfl
        rotate_left
        ·simp only [Act.put, xA, xB, xC, i64_w, i32_w]
         rfl
        refine zu 20 (some 140) ?_ zA172 rfl rfl (Or.inl ⟨by rfl, ?_⟩) hHeld ?_ ?_ ?_
        rotate_left
        ·rintro w' ⟨s0, s1, s2, s3, s4, s5, s6, s7, s8, s9⟩
         go_simp
         with_reducible rfl
        rotate_left
        ·simp only [Act.put, xA, xB, xC, i64_w, i32_w]
         rfl
        refine zp 21 (some 141) ?_ zA173 rfl rfl (Or.inl ⟨by rfl, ?_⟩) ?_ ?_ ?_
        rotate_left
        ·intro w'
         go_simp
         with_reducible rfl
        rotate_left
        ·simp only [Act.put, xA, xB, xC, i64_w, i32_w]
         rfl
        refine zu 22 (some 142) ?_ zA174 rfl rfl (Or.inl ⟨by rfl, ?_⟩) hHeld ?_ ?_ ?_
        rotate_left
        ·rintro w' ⟨s0, s1, s2, s3, s4, s5, s6, s7, s8, s9⟩
         go_simp
         with_reducible rfl
        rotate_left
        ·simp only [Act.put, xA, xB, xC, i64_w, i32_w]
         rfl
        refine one_ (i := 8) (N := some 128) zA175 rfl rfl (one_of HT_.out (by kernel_rfl)) (by decide) (fun K hK => ?_)
        refine goes_ Try.func45 (by kernel_rfl) rfl #[.agg #[.int .i64 ((rd_T59 t1159 x17_2).f0), .int .i64 ((rd_T59 t1159 x17_2).f1)], .agg #[.int .i64 ((rd_T59 t1159 x18_3).f0), .int .i64 ((rd_T59 t1159 x18_3).f1)]] (by rfl) rfl rfl zm ?_
        with_reducible refine (laws_near.calls ((rd_T59 t1159 x17_2).f0) ((rd_T59 t1159 x17_2).f1) ((rd_T59 t1159 x18_3).f0) ((rd_T59 t1159 x18_3).f1) t1198 _ A65.out).mono ?_
        rintro e w75 ⟨rfl, hb⟩
        have HS0_ := zk hb (hHeld.1)
        have HS1_ := zk hb (hHeld.2.1)
        have HS2_ := zk hb (hHeld.2.2.1)
        have HS3_ := zk hb (hHeld.2.2.2.1)
        have HS4_ := zk hb (hHeld.2.2.2.2.1)
        have HS5_ := zk hb (hHeld.2.2.2.2.2.1)
        have HS6_ := zk hb (hHeld.2.2.2.2.2.2.1)
        have HS7_ := zk hb (hHeld.2.2.2.2.2.2.2.1)
        have HS8_ := zk hb (hHeld.2.2.2.2.2.2.2.2.1)
        have HS9_ := zk hb (hHeld.2.2.2.2.2.2.2.2.2)
        refine ⟨_, rfl, ?_⟩
        have n0_ := aM (Kd.R_below (mR_ HO_3.out) hb)
        have n1_ := aM (Kd.R_below (mR_ HO_5.out) hb)
        have n2_ := aM (Kd.R_below (mR_ HO_7.out) hb)
        have n3_ := aM (Kd.R_below (mR_ HO_9.out) hb)
        have n4_ := aM (Kd.R_below (mR_ HO_13.out) hb)
        have n5_ := aM (below_step zb hb)
        clear HO_3
        clear HO_5
        clear HO_7
        clear HO_9
        clear HO_13
        clear HB
        have HO_3 := n0_
        have HO_5 := n1_
        have HO_7 := n2_
        have HO_9 := n3_
        have HO_13 := n4_
        have HB := n5_
        clear n0_ n1_ n2_ n3_ n4_ n5_
        (try clear hb)
        (try clear hb2)
        (try clear hk)
        (try clear hi)
        refine hK.out _ _ ⟨HS0_, HS1_, HS2_, HS3_, HS4_, HS5_, HS6_, HS7_, HS8_, HS9_⟩ (fun hHeld => ?_)
        clear hK K
        refine norm_ (a' := ?_) ?_ ?_
        rotate_left
        ·show Act.put _ (some 128) _ = _
         simp only [Act.put, xA, xB, xC, i64_w, i32_w]
         rfl
        refine one_ (i := 23) (N := some 143) zA176 rfl rfl (one_of HT_.out (by kernel_rfl)) (by decide) (fun K hK => ?_)
        refine goes_ Try.func45 (by kernel_rfl) rfl #[.agg #[.int .i64 ((rd_T59 t1159 (rd t1167 x17_2)).f0), .int .i64 ((rd_T59 t1159 (rd t1167 x17_2)).f1)], .agg #[.int .i64 ((rd_T59 t1159 (rd t1167 x18_3)).f0), .int .i64 ((rd_T59 t1159 (rd t1167 x18_3)).f1)]] (by rfl) rfl rfl zm ?_
        with_reducible refine (laws_near.calls ((rd_T59 t1159 (rd t1167 x17_2)).f0) ((rd_T59 t1159 (rd t1167 x17_2)).f1) ((rd_T59 t1159 (rd t1167 x18_3)).f0) ((rd_T59 t1159 (rd t1167 x18_3)).f1) t1203 _ A72.out).mono ?_
        rintro e w76 ⟨rfl, hb⟩
        have HS0_ := zk hb (hHeld.1)
        have HS1_ := zk hb (hHeld.2.1)
        have HS2_ := zk hb (hHeld.2.2.1)
        have HS3_ := zk hb (hHeld.2.2.2.1)
        have HS4_ := zk hb (hHeld.2.2.2.2.1)
        have HS5_ := zk hb (hHeld.2.2.2.2.2.1)
        have HS6_ := zk hb (hHeld.2.2.2.2.2.2.1)
        have HS7_ := zk hb (hHeld.2.2.2.2.2.2.2.1)
        have HS8_ := zk hb (hHeld.2.2.2.2.2.2.2.2.1)
        have HS9_ := zk hb (hHeld.2.2.2.2.2.2.2.2.2)
        refine ⟨_, rfl, ?_⟩
        have n0_ := aM (Kd.R_below (mR_ HO_3.out) hb)
        have n1_ := aM (Kd.R_below (mR_ HO_5.out) hb)
        have n2_ := aM (Kd.R_below (mR_ HO_7.out) hb)
        have n3_ := aM (Kd.R_below (mR_ HO_9.out) hb)
        have n4_ := aM (Kd.R_below (mR_ HO_13.out) hb)
        have n5_ := aM (below_step zb hb)
        clear HO_3
        clear HO_5
        clear HO_7
        clear HO_9
        clear HO_13
        clear HB
        have HO_3 := n0_
        have HO_5 := n1_
        have HO_7 := n2_
        have HO_9 := n3_
        have HO_13 := n4_
        have HB := n5_
        clear n0_ n1_ n2_ n3_ n4_ n5_
        (try clear hb)
        (try clear hb2)
        (try clear hk)
        (try clear hi)
        refine hK.out _ _ ⟨HS0_, HS1_, HS2_, HS3_, HS4_, HS5_, HS6_, HS7_, HS8_, HS9_⟩ (fun hHeld => ?_)
        clear hK K
        refine norm_ (a' := ?_) ?_ ?_
        rotate_left
        ·show Act.put _ (some 143) _ = _
         simp only [Act.put, xA, xB, xC, i64_w, i32_w]
         rfl
        refine zp 24 (some 144) ?_ zA177 rfl rfl (Or.inl ⟨by rfl, ?_⟩) ?_ ?_ ?_
        rotate_left
        ·intro w'
         go_simp
         with_reducible rfl
        rotate_left
        ·simp only [Act.put, xA, xB, xC, i64_w, i32_w]
         rfl
        refine done_ (done_of HT_.out (by kernel_rfl)) ?_
        try go_wp2
        go_ret
        exact ⟨zw, zb⟩
       rw [if_neg c73] at H
       have c73b0 : (t1198 != t1203) = false := by simpa using c73
       (try (have c73b1 : decide (t1198 = t1203) = true := by simpa using c73))
       (try (have c73b2 : (t1198 == t1203) = true := by simpa using c73))
       clear c73
       have H' := aM H
       clear H
       try go_wp2
       have n0_ := aM (Kd.R_drew HO_3.out)
       have n1_ := aM (Kd.R_drew HO_5.out)
       have n2_ := aM (Kd.R_drew HO_7.out)
       have n3_ := aM (Kd.R_drew HO_9.out)
       have n4_ := aM (Kd.R_drew HO_13.out)
       have n5_ := aM (below_drew1 HB.out)
       clear HO_3
       clear HO_5
       clear HO_7
       clear HO_9
       clear HO_13
       clear HB
       have HO_3 := n0_
       have HO_5 := n1_
       have HO_7 := n2_
       have HO_9 := n3_
       have HO_13 := n4_
       have HB := n5_
       clear n0_ n1_ n2_ n3_ n4_ n5_
       have p1196 : 0 ≤ (x17_2 : Int) := of_decide_eq_true za
       have q1196 : x17_2 < (t1159.length : Int) := of_decide_eq_true za
       obtain ⟨ad1196, e1196, hx1196_0, hx1196_1⟩ := at_T59 (Kd.R_reads' HO_3.out).2.2 x17_2 p1196 q1196
       cases e1196
       replace p1196 := eq_true p1196
       replace q1196 := eq_true q1196
       have p1197 : 0 ≤ (x18_3 : Int) := of_decide_eq_true za
       have q1197 : x18_3 < (t1159.length : Int) := of_decide_eq_true za
       obtain ⟨ad1197, e1197, hx1197_0, hx1197_1⟩ := at_T59 (Kd.R_reads' HO_3.out).2.2 x18_3 p1197 q1197
       obtain rfl : ad1196 = ad1197 := (by injection e1197)
       replace p1197 := eq_true p1197
       replace q1197 := eq_true q1197
       have p1199 : 0 ≤ (x17_2 : Int) := of_decide_eq_true za
       have q1199 : x17_2 < (t1167.length : Int) := of_decide_eq_true za
       obtain ⟨ad1199, e1199, hx1199_0⟩ := Kd.at_int (Kd.R_reads' HO_7.out).2.2 x17_2 p1199 q1199
       obtain rfl : ad1194 = ad1199 := (by injection e1199)
       replace p1199 := eq_true p1199
       replace q1199 := eq_true q1199
       have p1200 : 0 ≤ ((rd t1167 x17_2) : Int) := of_decide_eq_true za
       have q1200 : (rd t1167 x17_2) < (t1159.length : Int) := of_decide_eq_true za
       obtain ⟨ad1200, e1200, hx1200_0, hx1200_1⟩ := at_T59 (Kd.R_reads' HO_3.out).2.2 (rd t1167 x17_2) p1200 q1200
       obtain rfl : ad1196 = ad1200 := (by injection e1200)
       replace p1200 := eq_true p1200
       replace q1200 := eq_true q1200
       have p1201 : 0 ≤ (x18_3 : Int) := of_decide_eq_true za
       have q1201 : x18_3 < (t1167.length : Int) := of_decide_eq_true za
       obtain ⟨ad1201, e1201, hx1201_0⟩ := Kd.at_int (Kd.R_reads' HO_7.out).2.2 x18_3 p1201 q1201
       obtain rfl : ad1194 = ad1201 := (by injection e1201)
       replace p1201 := eq_true p1201
       replace q1201 := eq_true q1201
       have p1202 : 0 ≤ ((rd t1167 x18_3) : Int) := of_decide_eq_true za
       have q1202 : (rd t1167 x18_3) < (t1159.length : Int) := of_decide_eq_true za
       obtain ⟨ad1202, e1202, hx1202_0, hx1202_1⟩ := at_T59 (Kd.R_reads' HO_3.out).2.2 (rd t1167 x18_3) p1202 q1202
       obtain rfl : ad1196 = ad1202 := (by injection e1202)
       replace p1202 := eq_true p1202
       replace q1202 := eq_true q1202
       refine start_ (n := 25) (S := fun w' => w'.cell? (ad1196.add ((x17_2).toNat * 2)) = some (.int .i64 ((rd_T59 t1159 x17_2).f0)) ∧ w'.cell? ⟨(ad1196.add ((x17_2).toNat * 2)).block, (ad1196.add ((x17_2).toNat * 2)).off + 1, none⟩ = some (.int .i64 ((rd_T59 t1159 x17_2).f1)) ∧ w'.cell? (ad1196.add ((x18_3).toNat * 2)) = some (.int .i64 ((rd_T59 t1159 x18_3).f0)) ∧ w'.cell? ⟨(ad1196.add ((x18_3).toNat * 2)).block, (ad1196.add ((x18_3).toNat * 2)).off + 1, none⟩ = some (.int .i64 ((rd_T59 t1159 x18_3).f1)) ∧ w'.cell? (ad1194.add (x17_2).toNat) = some (.int .i64 (rd t1167 x17_2)) ∧ w'.cell? (ad1196.add (((rd t1167 x17_2)).toNat * 2)) = some (.int .i64 ((rd_T59 t1159 (rd t1167 x17_2)).f0)) ∧ w'.cell? ⟨(ad1196.add (((rd t1167 x17_2)).toNat * 2)).block, (ad1196.add (((rd t1167 x17_2)).toNat * 2)).off + 1, none⟩ = some (.int .i64 ((rd_T59 t1159 (rd t1167 x17_2)).f1)) ∧ w'.cell? (ad1194.add (x18_3).toNat) = some (.int .i64 (rd t1167 x18_3)) ∧ w'.cell? (ad1196.add (((rd t1167 x18_3)).toNat * 2)) = some (.int .i64 ((rd_T59 t1159 (rd t1167 x18_3)).f0)) ∧ w'.cell? ⟨(ad1196.add (((rd t1167 x18_3)).toNat * 2)).block, (ad1196.add (((rd t1167 x18_3)).toNat * 2)).off + 1, none⟩ = some (.int .i64 ((rd_T59 t1159 (rd t1167 x18_3)).f1))) (ds := []) zA152 (by kernel_rfl) rfl rfl ⟨hx1196_0, hx1196_1, hx1197_0, hx1197_1, hx1199_0, hx1200_0, hx1200_1, hx1201_0, hx1202_0, hx1202_1⟩ (fun hHeld => ?_); refine with_tabW laws_FnTurnNumbers.tab22 laws_FnTurnNumbers.bits22 (fun HT_ HW_ => ?_)
       generalize wr.drew = w77 at HO_3 HO_5 HO_7 HO_9 HO_13 HB hx1196_0 hx1196_1 hx1197_0 hx1197_1 hx1199_0 hx1200_0 hx1200_1 hx1201_0 hx1202_0 hx1202_1 hHeld ⊢
       refine zp 0 (some 120) ?_ zA153 rfl rfl (Or.inl ⟨by rfl, ?_⟩) ?_ ?_ ?_
       rotate_left
       ·intro w'
        go_simp
        with_reducible rfl
       rotate_left
       ·simp only [Act.put, xA, xB, xC, i64_w, i32_w]
        rfl
       refine zp 1 (some 121) ?_ zA154 rfl rfl (Or.inl ⟨by rfl, ?_⟩) ?_ ?_ ?_
       rotate_left
       ·intro w'
        go_simp
        with_reducible rfl
       rotate_left
       ·simp only [Act.put, xA, xB, xC, i64_w, i32_w]
        rfl
       refine zp 2 (some 122) ?_ zA155 rfl rfl (Or.inl ⟨by rfl, ?_⟩) ?_ ?_ ?_
       rotate_left
       ·intro w'
        go_simp
        with_reducible rfl
       rotate_left
       ·simp only [Act.put, xA, xB, xC, i64_w, i32_w]
        rfl
       refine zp 4 (some 124) ?_ zA156 rfl rfl (Or.inl ⟨by rfl, ?_⟩) ?_ ?_ ?_
       rotate_left
       ·intro w'
        go_simp
        with_reducible rfl
       rotate_left
       ·simp only [Act.put, xA, xB, xC, i64_w, i32_w]
        rfl
       refine zp 5 (some 125) ?_ zA157 rfl rfl (Or.inl ⟨by rfl, ?_⟩) ?_ ?_ ?_
       rotate_left
       ·intro w'
        go_simp
        with_reducible rfl
       rotate_left
       ·simp only [Act.put, xA, xB, xC, i64_w, i32_w]
        rfl
       refine zp 6 (some 126) ?_ zA158 rfl rfl (Or.inl ⟨by rfl, ?_⟩) ?_ ?_ ?_
       rotate_left
       ·intro w'
        go_simp
        with_reducible rfl
       rotate_left
       ·simp only [Act.put, xA, xB, xC, i64_w, i32_w]
        rfl
       refine zp 9 (some 129) ?_ zA159 rfl rfl (Or.inl ⟨by rfl, ?_⟩) ?_ ?_ ?_
       rotate_left
       ·intro w'
        go_simp
        with_reducible rfl
       rotate_left
       ·simp only [Act.put, xA, xB, xC, i64_w, i32_w]
        rfl
       refine zp 10 (some 130) ?_ zA160 rfl rfl (Or.inl ⟨by rfl, ?_⟩) ?_ ?_ ?_
       rotate_left
       ·intro w'
        go_simp
        with_reducible rfl
       rotate_left
       ·simp only [Act.put, xA, xB, xC, i64_w, i32_w]
        rfl
       refine zp 11 (some 131) ?_ zA161 rfl rfl (Or.inl ⟨by rfl, ?_⟩) ?_ ?_ ?_
       rotate_left
       ·intro w'
        go_simp
        with_reducible rfl
       rotate_left
       ·simp only [Act.put, xA, xB, xC, i64_w, i32_w]
        rfl
       refine zp 12 (some 132) ?_ zA162 rfl rfl (Or.inl ⟨by rfl, ?_⟩) ?_ ?_ ?_
       rotate_left
       ·intro w'
        go_simp
        with_reducible rfl
       rotate_left
       ·simp only [Act.put, xA, xB, xC, i64_w, i32_w]
        rfl
       refine zp 16 (some 136) ?_ zA163 rfl rfl (Or.inl ⟨by rfl, ?_⟩) ?_ ?_ ?_
       rotate_left
       ·intro w'
        go_simp
        with_reducible rfl
       rotate_left
       ·simp only [Act.put, xA, xB, xC, i64_w, i32_w]
        rfl
       refine zp 17 (some 137) ?_ zA164 rfl rfl (Or.inl ⟨by rfl, ?_⟩) ?_ ?_ ?_
       rotate_left
       ·intro w'
        go_simp
        with_reducible rfl
       rotate_left
       ·simp only [Act.put, xA, xB, xC, i64_w, i32_w]
        rfl
       refine zp 18 (some 138) ?_ zA165 rfl rfl (Or.inl ⟨by rfl, ?_⟩) ?_ ?_ ?_
       rotate_left
       ·intro w'
        go_simp
        with_reducible rfl
       rotate_left
       ·simp only [Act.put, xA, xB, xC, i64_w, i32_w]
        rfl
       refine zp 19 (some 139) ?_ zA166 rfl rfl (Or.inl ⟨by rfl, ?_⟩) ?_ ?_ ?_
       rotate_left
       ·intro w'
        go_simp
        with_reducible rfl
       rotate_left
       ·simp only [Act.put, xA, xB, xC, i64_w, i32_w]
        rfl
       refine zu 3 (some 123) ?_ zA167 rfl rfl (Or.inl ⟨by rfl, ?_⟩) hHeld ?_ ?_ ?_
       rotate_left
       ·rintro w' ⟨s0, s1, s2, s3, s4, s5, s6, s7, s8, s9⟩
        go_simp
        with_reducible rfl
       rotate_left
       ·simp only [Act.put, xA, xB, xC, i64_w, i32_w]
        rfl
       refine zu 7 (some 127) ?_ zA168 rfl rfl (Or.inl ⟨by rfl, ?_⟩) hHeld ?_ ?_ ?_
       rotate_left
       ·rintro w' ⟨s0, s1, s2, s3, s4, s5, s6, s7, s8, s9⟩
        go_simp
        with_reducible rfl
       rotate_left
       ·simp only [Act.put, xA, xB, xC, i64_w, i32_w]
        rfl
       refine zu 13 (some 133) ?_ zA169 rfl rfl (Or.inl ⟨by rfl, ?_⟩) hHeld ?_ ?_ ?_
       rotate_left
       ·rintro w' ⟨s0, s1, s2, s3, s4, s5, s6, s7, s8, s9⟩
        go_simp
        with_reducible rfl
       rotate_left
       ·simp only [Act.put, xA, xB, xC, i64_w, i32_w]
        rfl
       refine zp 14 (some 134) ?_ zA170 rfl rfl (Or.inl ⟨by rfl, ?_⟩) ?_ ?_ ?_
       rotate_left
       ·intro w'
        go_simp
        with_reducible rfl
       rotate_left
       ·simp only [Act.put, xA, xB, xC, i64_w, i32_w]
        rfl
       refine zu 15 (some 135) ?_ zA171 rfl rfl (Or.inl ⟨by rfl, ?_⟩) hHeld ?_ ?_ ?_
       rotate_left
       ·rintro w' ⟨s0, s1, s2, s3, s4, s5, s6, s7, s8, s9⟩
        go_simp
        with_reducible rfl
       rotate_left
       ·simp only [Act.put, xA, xB, xC, i64_w, i32_w]
        rfl
       refine zu 20 (some 140) ?_ zA172 rfl rfl (Or.inl ⟨by rfl, ?_⟩) hHeld ?_ ?_ ?_
       rotate_left
       ·rintro w' ⟨s0, s1, s2, s3, s4, s5, s6, s7, s8, s9⟩
        go_simp
        with_reducible rfl
       rotate_left
       ·simp only [Act.put, xA, xB, xC, i64_w, i32_w]
        rfl
       refine zp 21 (some 141) ?_ zA173 rfl rfl (Or.inl ⟨by rfl, ?_⟩) ?_ ?_ ?_
       rotate_left
       ·intro w'
        go_simp
        with_reducible rfl
       rotate_left
       ·simp only [Act.put, xA, xB, xC, i64_w, i32_w]
        rfl
       refine zu 22 (some 142) ?_ zA174 rfl rfl (Or.inl ⟨by rfl, ?_⟩) hHeld ?_ ?_ ?_
       rotate_left
       ·rintro w' ⟨s0, s1, s2, s3, s4, s5, s6, s7, s8, s9⟩
        go_simp
        with_reducible rfl
       rotate_left
       ·simp only [Act.put, xA, xB, xC, i64_w, i32_w]
        rfl
       refine one_ (i := 8) (N := some 128) zA175 rfl rfl (one_of HT_.out (by kernel_rfl)) (by decide) (fun K hK => ?_)
       refine goes_ Try.func45 (by kernel_rfl) rfl #[.agg #[.int .i64 ((rd_T59 t1159 x17_2).f0), .int .i64 ((rd_T59 t1159 x17_2).f1)], .agg #[.int .i64 ((rd_T59 t1159 x18_3).f0), .int .i64 ((rd_T59 t1159 x18_3).f1)]] (by rfl) rfl rfl zm ?_
       with_reducible refine (laws_near.calls ((rd_T59 t1159 x17_2).f0) ((rd_T59 t1159 x17_2).f1) ((rd_T59 t1159 x18_3).f0) ((rd_T59 t1159 x18_3).f1) t1198 _ A65.out).mono ?_
       rintro e w78 ⟨rfl, hb⟩
       have HS0_ := zk hb (hHeld.1)
       have HS1_ := zk hb (hHeld.2.1)
       have HS2_ := zk hb (hHeld.2.2.1)
       have HS3_ := zk hb (hHeld.2.2.2.1)
       have HS4_ := zk hb (hHeld.2.2.2.2.1)
       have HS5_ := zk hb (hHeld.2.2.2.2.2.1)
       have HS6_ := zk hb (hHeld.2.2.2.2.2.2.1)
       have HS7_ := zk hb (hHeld.2.2.2.2.2.2.2.1)
       have HS8_ := zk hb (hHeld.2.2.2.2.2.2.2.2.1)
       have HS9_ := zk hb (hHeld.2.2.2.2.2.2.2.2.2)
       refine ⟨_, rfl, ?_⟩
       have n0_ := aM (Kd.R_below (mR_ HO_3.out) hb)
       have n1_ := aM (Kd.R_below (mR_ HO_5.out) hb)
       have n2_ := aM (Kd.R_below (mR_ HO_7.out) hb)
       have n3_ := aM (Kd.R_below (mR_ HO_9.out) hb)
       have n4_ := aM (Kd.R_below (mR_ HO_13.out) hb)
       have n5_ := aM (below_step zb hb)
       clear HO_3
       clear HO_5
       clear HO_7
       clear HO_9
       clear HO_13
       clear HB
       have HO_3 := n0_
       have HO_5 := n1_
       have HO_7 := n2_
       have HO_9 := n3_
       have HO_13 := n4_
       have HB := n5_
       clear n0_ n1_ n2_ n3_ n4_ n5_
       (try clear hb)
       (try clear hb2)
       (try clear hk)
       (try clear hi)
       refine hK.out _ _ ⟨HS0_, HS1_, HS2_, HS3_, HS4_, HS5_, HS6_, HS7_, HS8_, HS9_⟩ (fun hHeld => ?_)
       clear hK K
       refine norm_ (a' := ?_) ?_ ?_
       rotate_left
       ·show Act.put _ (some 128) _ = _
        simp only [Act.put, xA, xB, xC, i64_w, i32_w]
        rfl
       refine one_ (i := 23) (N := some 143) zA176 rfl rfl (one_of HT_.out (by kernel_rfl)) (by decide) (fun K hK => ?_)
       refine goes_ Try.func45 (by kernel_rfl) rfl #[.agg #[.int .i64 ((rd_T59 t1159 (rd t1167 x17_2)).f0), .int .i64 ((rd_T59 t1159 (rd t1167 x17_2)).f1)], .agg #[.int .i64 ((rd_T59 t1159 (rd t1167 x18_3)).f0), .int .i64 ((rd_T59 t1159 (rd t1167 x18_3)).f1)]] (by rfl) rfl rfl zm ?_
       with_reducible refine (laws_near.calls ((rd_T59 t1159 (rd t1167 x17_2)).f0) ((rd_T59 t1159 (rd t1167 x17_2)).f1) ((rd_T59 t1159 (rd t1167 x18_3)).f0) ((rd_T59 t1159 (rd t1167 x18_3)).f1) t1203 _ A72.out).mono ?_
       rintro e w79 ⟨rfl, hb⟩
       have HS0_ := zk hb (hHeld.1)
       have HS1_ := zk hb (hHeld.2.1)
       have HS2_ := zk hb (hHeld.2.2.1)
       have HS3_ := zk hb (hHeld.2.2.2.1)
       have HS4_ := zk hb (hHeld.2.2.2.2.1)
       have HS5_ := zk hb (hHeld.2.2.2.2.2.1)
       have HS6_ := zk hb (hHeld.2.2.2.2.2.2.1)
       have HS7_ := zk hb (hHeld.2.2.2.2.2.2.2.1)
       have HS8_ := zk hb (hHeld.2.2.2.2.2.2.2.2.1)
       have HS9_ := zk hb (hHeld.2.2.2.2.2.2.2.2.2)
       refine ⟨_, rfl, ?_⟩
       have n0_ := aM (Kd.R_below (mR_ HO_3.out) hb)
       have n1_ := aM (Kd.R_below (mR_ HO_5.out) hb)
       have n2_ := aM (Kd.R_below (mR_ HO_7.out) hb)
       have n3_ := aM (Kd.R_below (mR_ HO_9.out) hb)
       have n4_ := aM (Kd.R_below (mR_ HO_13.out) hb)
       have n5_ := aM (below_step zb hb)
       clear HO_3
       clear HO_5
       clear HO_7
       clear HO_9
       clear HO_13
       clear HB
       have HO_3 := n0_
       have HO_5 := n1_
       have HO_7 := n2_
       have HO_9 := n3_
       have HO_13 := n4_
       have HB := n5_
       clear n0_ n1_ n2_ n3_ n4_ n5_
       (try clear hb)
       (try clear hb2)
       (try clear hk)
       (try clear hi)
       refine hK.out _ _ ⟨HS0_, HS1_, HS2_, HS3_, HS4_, HS5_, HS6_, HS7_, HS8_, HS9_⟩ (fun hHeld => ?_)
       clear hK K
       refine norm_ (a' := ?_) ?_ ?_
       rotate_left
       ·show Act.put _ (some 143) _ = _
        simp only [Act.put, xA, xB, xC, i64_w, i32_w]
        rfl
       refine zp 24 (some 144) ?_ zA177 rfl rfl (Or.inl ⟨by rfl, ?_⟩) ?_ ?_ ?_
       rotate_left
       ·intro w'
        go_simp
        with_reducible rfl
       rotate_left
       ·simp only [Act.put, xA, xB, xC, i64_w, i32_w]
        rfl
       refine done_ (done_of HT_.out (by kernel_rfl)) ?_
       try go_wp2
       go_roundg k3
       case measure => have := HJ10.out; have := HK2.out; have := HK3.out; omega
       case rel => exact ⟨(wrap64 (x18_3 + 1)), zr, H', ⟨by have := HJ10.out; have := HK2.out; have := HK3.out; omega⟩, ⟨mR_ HO_3.out⟩, ⟨mR_ HO_5.out⟩, ⟨mR_ HO_7.out⟩, ⟨mR_ HO_9.out⟩, ⟨mR_ HO_13.out⟩, ⟨zb⟩⟩
end Go.Proofs.Ytfdfdifjkaaeoaa.F
end
section
namespace Go.Proofs.Ytfdfdifjkaaeoaa.Open
open Go.ChangeShapes Go.WideShapes Go.Deep Go.RowKit Go.Proofs.YtfdfdifjkaaeoaaW.PrintWords
def Opens {α : Type} (P : Program) (d : Kd α) (t : TypeId) (V : α → Prop) : Prop :=
  ∀ (H : Type) (enc : TypeId × Value → H) (w : World) (base : Nat) (spare : Nat → Bool) (held : Bool) (fuel : Nat) (cs : List Value) (x : DataW H × List MemPlace),
    DataW.trod enc P w base spare held fuel t cs = some x → ∃ a : α, d.K w a cs ∧ V a
theorem Opens.int {P : Program} {t : TypeId} {k : IntKind} (ht : P.underlying t = some (.int k)) : Opens P (Kd.int k) t (fun a => (Lit.int k a).wf = true) := by
  intro H enc w base spare held fuel cs x h
  obtain ⟨n, hcs, _, hw⟩ := DataW.trod_int ht h
  exact ⟨n, hcs, hw⟩
theorem Opens.bool {P : Program} {t : TypeId} (ht : P.underlying t = some .bool) : Opens P Kd.bool t (fun _ => True) := by
  intro H enc w base spare held fuel cs x h
  obtain ⟨b, hcs, _⟩ := DataW.trod_bool ht h
  exact ⟨b, hcs, trivial⟩
theorem Opens.slice {α : Type} [Inhabited α] {P : Program} {t e : TypeId} {d : Kd α} {V : α → Prop} (ht : P.underlying t = some (.slice e)) (hsz : P.cellsOf e = d.sz) (ho : Opens P d e V) :
    Opens P (Kd.slice e d) t (fun l => l.length ≤ 9223372036854775807 ∧ ∀ a ∈ l, V a) := by
  intro H enc w base spare held fuel cs x h
  rcases open_slice ht h with ⟨rfl, _⟩ | ⟨a, len, cap, m, n, D, Pl, rfl, hb, hl, hm, hmm, _, hi⟩
  · exact ⟨[], ⟨none, 0, rfl, Nat.le_refl _, rfl, by simp, fun hp => absurd hp (by simp)⟩, by simp, by simp⟩
  · have hlm : len ≤ m := by rw [hmm]; split <;> omega
    have hx : ∀ i, i < len → ∃ y : α, V y ∧ ∃ c : List Value, c.length = d.sz ∧ d.K w y c ∧ ∀ j u, c[j]? = some u → w.cell? (a.add (i * d.sz + j)) = some u := by
      intro i hil
      obtain ⟨cs', hc, ht'⟩ := hi i (by omega)
      obtain ⟨y, hk, hv⟩ := ho H enc w base spare held n cs' _ ht'
      obtain ⟨_, hcl, hat⟩ := World.cells?_some hc
      refine ⟨y, hv, cs', d.K_len hk, hk, fun j u hj => ?_⟩
      have hjl : j < cs'.length := (List.getElem?_eq_some_iff.1 hj).1
      have := hat j (by rw [hsz, ← d.K_len hk]; exact hjl)
      rw [Go.Deep.add_add, hsz] at this
      rw [this, hj]
    obtain ⟨f, hf⟩ := choose_lt hx
    have hlen : ((List.range len).map f).length = len := by simp
    refine ⟨(List.range len).map f, ⟨some a, cap, by rw [hlen], by rw [hlen]; exact hl, rfl, ?_, fun _ => ⟨a, rfl, fun j p hj => ?_⟩⟩, ?_⟩
    · rw [hlen]; unfold maxLen at hm; omega
    · have hjl : j < len := by
        have := (List.getElem?_eq_some_iff.1 hj).1
        rwa [hlen] at this
      have hp : f j = p := by
        rw [List.getElem?_map, List.getElem?_range hjl] at hj
        simpa using hj
      obtain ⟨_, c, h1, h2, h3⟩ := hf j hjl
      rw [hp] at h2
      exact ⟨c, h1, h2, h3⟩
    · refine ⟨by rw [hlen]; unfold maxLen at hm; omega, fun y hy => ?_⟩
      obtain ⟨i, hi', rfl⟩ := List.mem_map.1 hy
      exact (hf i (List.mem_range.1 hi')).1
theorem arg_open {α : Type} {P : Program} {t : TypeId} {d : Kd α} {V : α → Prop} (ho : Opens P d t V) {H : Type} {enc : TypeId × Value → H} {w : World} {base : Nat} {spare : Nat → Bool} {held : Bool} {v : Value} {x : DataW H} {p : List MemPlace}
    (h : DataW.Trod enc P w base spare held t v x p) : ∃ a : α, d.K w a v.cells.toList ∧ V a := by
  obtain ⟨fuel, hf⟩ := h
  exact ho _ _ _ _ _ _ _ _ _ hf
theorem slice_arg {α : Type} {d : Kd α} {e : Nat} {w : World} {l : List α} {a : Option Addr} {len cap : Nat} (h : (Kd.slice e d).K w l (Value.slice a len cap).cells.toList) : l.length = len ∧ l.length ≤ cap ∧ d.C w a l.length l := by
  obtain ⟨A, c, hcs, hl, hr⟩ := h
  simp [Value.cells] at hcs
  obtain ⟨rfl, rfl, rfl⟩ := hcs
  exact ⟨rfl, hl, hr⟩
end Go.Proofs.Ytfdfdifjkaaeoaa.Open
end
section
namespace Go.Proofs.Ytfdfdifjkaaeoaa.L
open Go.RowKit Go.Proofs.YtfdfdifjkaaeoaaW.PrintWords
theorem Ev.pos {α : Type} {c : Prop} [Decidable c] {f g : Nat → Option α} {r : α} (h : c) (e : Ev f r) : Ev (fun k => if c then f k else g k) r := by
  obtain ⟨K, e⟩ := e
  exact ⟨K, fun k hk => (if_pos h).trans (e k hk)⟩
theorem Ev.neg {α : Type} {c : Prop} [Decidable c] {f g : Nat → Option α} {r : α} (h : ¬ c) (e : Ev g r) : Ev (fun k => if c then f k else g k) r := by
  obtain ⟨K, e⟩ := e
  exact ⟨K, fun k hk => (if_neg h).trans (e k hk)⟩
theorem Ev.if_ {α : Type} {c : Prop} [Decidable c] {f g : Nat → Option α} {r s : α} (h : c → Ev f r) (h' : ¬ c → Ev g s) : Ev (fun k => if c then f k else g k) (if c then r else s) := by
  by_cases hc : c
  · rw [if_pos hc]; exact Ev.pos hc (h hc)
  · rw [if_neg hc]; exact Ev.neg hc (h' hc)
theorem Ev.of_eq {α : Type} {g : Nat → Option α} {r s : α} (h : Ev g r) (e : r = s) : Ev g s := e ▸ h
theorem Ev.bind0 {α β : Type} {o : Option α} {f : Nat → α → Option β} {a : α} {r : β} (h : o = some a) (k : Ev (fun n => f n a) r) : Ev (fun n => o.bind (f n)) r := by
  subst h
  exact k
theorem Ev.succ {α : Type} {g : Nat → Option α} {r : α} (h : Ev (fun k => g (k + 1)) r) : Ev g r := by
  obtain ⟨K, h⟩ := h
  refine ⟨K + 1, fun n hn => ?_⟩
  obtain ⟨m, rfl⟩ : ∃ m, n = m + 1 := ⟨n - 1, by omega⟩
  exact h m (by omega)
theorem w64 {n : Int} (h : -9223372036854775808 ≤ n) (h' : n ≤ 9223372036854775807) : wrap64 n = n := by
  unfold wrap64
  omega
theorem getD_at {α : Type} (pre suf : List α) (c d : α) : (pre ++ c :: suf).getD (pre.length : Int).toNat d = c := by
  simp [List.getD]
end Go.Proofs.Ytfdfdifjkaaeoaa.L
namespace Go.Proofs.Ytfdfdifjkaaeoaa.L
open Go.RowKit Go.Proofs.YtfdfdifjkaaeoaaW.PrintWords
theorem loop_list {α σ ρ : Type} (xs : List α) (l : Nat → Int → σ → Option ρ) (g : List α → List α → σ → ρ) (Inv : List α → σ → Prop)
    (hn : ∀ s, Inv xs s → Ev (fun k => l (k + 1) (xs.length : Int) s) (g xs [] s))
    (hs : ∀ (pre : List α) (c : α) (suf : List α) (s : σ), xs = pre ++ c :: suf → Inv pre s → (∀ s', Inv (pre ++ [c]) s' → Ev (fun k => l k ((pre.length : Int) + 1) s') (g (pre ++ [c]) suf s')) → Ev (fun k => l (k + 1) (pre.length : Int) s) (g pre (c :: suf) s)) :
    ∀ s, Inv [] s → Ev (fun k => l k 0 s) (g [] xs s) := by
  have key : ∀ (suf pre : List α), xs = pre ++ suf → ∀ s, Inv pre s → Ev (fun k => l k (pre.length : Int) s) (g pre suf s) := by
    intro suf
    induction suf with
    | nil =>
      intro pre hx s hi
      rw [List.append_nil] at hx
      subst hx
      exact Ev.succ (hn s hi)
    | cons c suf ih =>
      intro pre hx s hi
      refine Ev.succ (hs pre c suf s hx hi fun s' hi' => ?_)
      have := ih (pre ++ [c]) (by rw [hx]; simp) s' hi'
      rw [List.length_append] at this
      exact this
  intro s hi
  exact key xs [] rfl s hi
end Go.Proofs.Ytfdfdifjkaaeoaa.L
end
section
namespace Go.Proofs.Ytfdfdifjkaaeoaa.L
open Go.RowKit Go.Proofs.YtfdfdifjkaaeoaaW.PrintWords Go.Proofs.YtfdfdifjkaaeoaaW.PrintLast Go.Proofs.YtfdfdifjkaaeoaaW.PrintMore Go.Proofs.Ytfdfdifjkaaeoaa.F
set_option linter.unusedVariables false
set_option linter.unusedSimpArgs false
abbrev Cell := S59
theorem in_eq (a b c : Int) : spec_l01In.f a b c = some (decide (b ≤ a ∧ a ≤ c)) := by
  unfold spec_l01In.f
  by_cases h : a ≥ b
  · rw [if_pos h]; simp [show b ≤ a from h]
  · rw [if_neg h]; simp [show ¬ b ≤ a from h]
theorem within_eq (a b c : Int) : impl_within.f a b c = some (decide (b ≤ a ∧ a ≤ c)) := by
  unfold impl_within.f
  by_cases h : a ≥ b
  · rw [if_pos h]; simp [show b ≤ a from h]
  · rw [if_neg h]; simp [show ¬ b ≤ a from h]
def ok1 (n : Int) : Prop := -100 ≤ n ∧ n ≤ 100
instance (n : Int) : Decidable (ok1 n) := by unfold ok1; infer_instance
def okC (c : Cell) : Prop := ok1 c.f0 ∧ ok1 c.f1
instance (c : Cell) : Decidable (okC c) := by unfold okC; infer_instance
def ltC (a b : Cell) : Prop := a.f1 < b.f1 ∨ a.f1 = b.f1 ∧ a.f0 < b.f0
instance (a b : Cell) : Decidable (ltC a b) := by unfold ltC; infer_instance
theorem isCoordinate_eq (n : Int) : impl_isCoordinate.f n = some (decide (ok1 n)) := by
  unfold impl_isCoordinate.f
  rw [within_eq]
  rfl
theorem l02Cell_eq (x y : Int) : spec_l02Cell.f x y = some (decide (ok1 x ∧ ok1 y)) := by
  unfold spec_l02Cell.f
  rw [in_eq, in_eq]
  simp only [Option.bind_some]
  by_cases h : -100 ≤ x ∧ x ≤ 100
  · have h' : ok1 x := h
    simp only [h, and_self, decide_true, if_true, true_and, h', ok1]
  · have h' : ¬ ok1 x := h
    simp [h, h']
def small {α : Type} (l : List α) : Prop := l.length ≤ 4611686018427387904
theorem pre_lt {α : Type} {xs pre suf : List α} {c : α} (h : xs = pre ++ c :: suf) : ((pre.length : Int) < (xs.length : Int)) = True := by
  subst h; simp; omega
theorem pre_w {α : Type} {xs pre suf : List α} {c : α} (h : xs = pre ++ c :: suf) (hs : small xs) : wrap64 ((pre.length : Int) + 1) = (pre.length : Int) + 1 := by
  subst h
  unfold small at hs
  rw [List.length_append, List.length_cons] at hs
  exact w64 (by omega) (by omega)
theorem pre_0 {α : Type} (pre : List α) : (0 ≤ (pre.length : Int)) = True := by simp
theorem len_lt {α : Type} (xs : List α) : ((xs.length : Int) < (xs.length : Int)) = False := by simp
theorem at_pre {xs pre suf : List Cell} {c : Cell} (h : xs = pre ++ c :: suf) : rd_T59 xs (pre.length : Int) = c := by
  subst h; exact getD_at pre suf c _
theorem pre_get {α : Type} {xs pre suf : List α} {c : α} (h : xs = pre ++ c :: suf) : xs[pre.length]? = some c := by
  subst h; simp
theorem pre_len {α : Type} {xs pre suf : List α} {c : α} (h : xs = pre ++ c :: suf) : pre.length < xs.length := by
  subst h; simp
def cmpI (a b : Int) : Int := if a < b then -1 else if a > b then 1 else 0
theorem compare_eq (a b : Int) : cmp_Compare_int64.f a b = some (cmpI a b) := by
  unfold cmp_Compare_int64.f cmp_isNaN_int64.f cmpI
  simp only [bne_self_eq_false, Option.bind_some, Bool.false_eq_true, if_false]
  split
  · rfl
  · split <;> rfl
end Go.Proofs.Ytfdfdifjkaaeoaa.L
end
section
namespace Go.Proofs.Ytfdfdifjkaaeoaa.L
open Go.RowKit Go.Proofs.YtfdfdifjkaaeoaaW.PrintWords Go.Proofs.YtfdfdifjkaaeoaaW.PrintLast Go.Proofs.YtfdfdifjkaaeoaaW.PrintMore Go.Proofs.Ytfdfdifjkaaeoaa.F
set_option linter.unusedVariables false
set_option linter.unusedSimpArgs false
theorem l02Less_eq (a b c d : Int) : spec_l02Less.f a b c d = some (decide (b < d ∨ b = d ∧ a < c)) := by
  unfold spec_l02Less.f
  by_cases h : b < d
  · simp [h]
  · by_cases h' : b = d <;> simp [h, h']
    
def cmpC (a b : Cell) : Int := if cmpI a.f1 b.f1 = 0 then cmpI a.f0 b.f0 else cmpI a.f1 b.f1
theorem compareCells_eq (a b : Cell) : impl_compareCells.f a.f0 a.f1 b.f0 b.f1 = some (cmpC a b) := by
  unfold impl_compareCells.f cmpC
  simp only [compare_eq, Option.bind_some]
  split <;> rfl
theorem cmpC_lt {a b : Cell} : cmpC a b < 0 ↔ ltC a b := by
  unfold cmpC cmpI ltC
  repeat' split
  all_goals constructor <;> intro h <;> omega
theorem cmpC_ge {a b : Cell} : cmpC a b ≥ 0 ↔ ¬ ltC a b := by
  rw [← cmpC_lt]; omega
theorem cmpC_zero {a b : Cell} : cmpC a b = 0 ↔ a = b := by
  obtain ⟨a0, a1⟩ := a
  obtain ⟨b0, b1⟩ := b
  unfold cmpC cmpI
  simp only [S59.mk.injEq]
  repeat' split
  all_goals constructor <;> intro h <;> omega
def goodFrom : Option Cell → List Cell → Bool
  | _, [] => true
  | p, c :: r => decide (okC c) && (match p with | none => true | some q => decide (ltC q c)) && goodFrom (some c) r
def shapeB (l : List Cell) : Bool := goodFrom none l && decide (1 ≤ (l.length : Int) ∧ (l.length : Int) ≤ 40)
theorem specIsShape_ev (l : List Cell) (hs : small l) : Ev (fun k => spec_IsShape.f k l) (shapeB l) := by
  unfold spec_IsShape.f
  refine loop_list l (fun k i (_ : Unit) => spec_IsShape.l0 k l i) (fun pre suf _ => goodFrom pre.getLast? suf && decide (1 ≤ (l.length : Int) ∧ (l.length : Int) ≤ 40)) (fun _ _ => True) ?_ ?_ () trivial
  · intro _ _
    simp only [spec_IsShape.l0, len_lt, if_false, in_eq, Option.bind_some]
    refine Ev.of_eq (Ev.now _) ?_
    simp [goodFrom]
  · intro pre c suf _ hx _ ih
    simp only [spec_IsShape.l0, pre_lt hx, pre_0, if_true, at_pre hx, l02Cell_eq, Option.bind_some, pre_w hx hs]
    by_cases hc : okC c
    · have hc' : ok1 c.f0 ∧ ok1 c.f1 := hc
      simp only [hc', and_self, decide_true, if_true]
      rcases List.eq_nil_or_concat pre with rfl | ⟨L, b, rfl⟩
      · refine Ev.neg (by simp) (Ev.of_eq (ih () trivial) ?_)
        simp [goodFrom, hc]
      · rw [List.concat_eq_append] at hx ih ⊢
        have hx2 : l = L ++ b :: (c :: suf) := by rw [hx]; simp
        have e1 : wrap64 (((L ++ [b]).length : Int) - 1) = (L.length : Int) := by
          unfold small at hs
          rw [hx2] at hs
          simp only [List.length_append, List.length_cons, List.length_nil] at hs ⊢
          rw [w64 (by omega) (by omega)]; omega
        refine Ev.pos (by simp <;> omega) ?_
        simp only [e1, pre_0, if_true, pre_lt hx2, at_pre hx2, l02Less_eq, Option.bind_some]
        by_cases hl : ltC b c
        · have hl' : b.f1 < c.f1 ∨ b.f1 = c.f1 ∧ b.f0 < c.f0 := hl
          refine Ev.pos (by simpa using hl') (Ev.of_eq (ih () trivial) ?_)
          simp [goodFrom, hc, hl]
        · have hl' : ¬ (b.f1 < c.f1 ∨ b.f1 = c.f1 ∧ b.f0 < c.f0) := hl
          refine Ev.neg (by simpa using hl') (Ev.of_eq (Ev.now _) ?_)
          simp [goodFrom, hc, hl]
    · have hc' : ¬ (ok1 c.f0 ∧ ok1 c.f1) := hc
      simp only [hc', decide_false, Bool.false_eq_true, if_false]
      refine Ev.of_eq (Ev.now _) ?_
      simp [goodFrom, hc]
theorem implIsShape_ev (l : List Cell) (hs : small l) : Ev (fun k => impl_IsShape.f k l) (shapeB l) := by
  unfold impl_IsShape.f
  refine loop_list l (fun k i (_ : Unit) => impl_IsShape.l0 k l l (l.length : Int) i) (fun pre suf _ => goodFrom pre.getLast? suf && decide (1 ≤ (l.length : Int) ∧ (l.length : Int) ≤ 40)) (fun _ _ => True) ?_ ?_ () trivial
  · intro _ _
    simp only [impl_IsShape.l0, len_lt, if_false]
    refine Ev.of_eq (Ev.if_ (fun _ => Ev.now _) (fun _ => Ev.now _)) ?_
    by_cases h : (l.length : Int) ≥ 1
    · rw [if_pos h]; simp [goodFrom, show 1 ≤ (l.length : Int) from h]
    · rw [if_neg h]; simp [goodFrom, show ¬ 1 ≤ (l.length : Int) from h]
  · intro pre c suf _ hx _ ih
    simp only [impl_IsShape.l0, pre_lt hx, pre_0, if_true, at_pre hx, isCoordinate_eq, Option.bind_some, pre_w hx hs]
    by_cases hc : okC c
    · have hc' : ok1 c.f0 ∧ ok1 c.f1 := hc
      simp only [hc'.1, hc'.2, decide_true, if_true]
      rcases List.eq_nil_or_concat pre with rfl | ⟨L, b, rfl⟩
      · refine Ev.neg (by simp) (Ev.of_eq (ih () trivial) ?_)
        simp [goodFrom, hc]
      · rw [List.concat_eq_append] at hx ih ⊢
        have hx2 : l = L ++ b :: (c :: suf) := by rw [hx]; simp
        have e1 : wrap64 (((L ++ [b]).length : Int) - 1) = (L.length : Int) := by
          unfold small at hs
          rw [hx2] at hs
          simp only [List.length_append, List.length_cons, List.length_nil] at hs ⊢
          rw [w64 (by omega) (by omega)]; omega
        refine Ev.pos (by simp <;> omega) ?_
        simp only [e1, pre_0, if_true, pre_lt hx2, at_pre hx2, compareCells_eq, Option.bind_some]
        by_cases hl : ltC b c
        · refine Ev.neg (fun h => cmpC_ge.1 h hl) (Ev.of_eq (ih () trivial) ?_)
          simp [goodFrom, hc, hl]
        · refine Ev.pos (cmpC_ge.2 hl) (Ev.of_eq (Ev.now _) ?_)
          simp [goodFrom, hc, hl]
    · by_cases h0 : ok1 c.f0
      · have h1 : ¬ ok1 c.f1 := fun h => hc ⟨h0, h⟩
        simp only [h0, h1, decide_true, if_true, decide_false, Bool.false_eq_true, if_false]
        refine Ev.of_eq (Ev.now _) ?_
        simp [goodFrom, hc]
      · simp only [h0, decide_false, Bool.false_eq_true, if_false]
        refine Ev.of_eq (Ev.now _) ?_
        simp [goodFrom, hc]
theorem goodFrom_ok : ∀ (l : List Cell) (p : Option Cell), goodFrom p l = true → ∀ c ∈ l, okC c
  | [], _, _, c, h => by simp at h
  | a :: r, p, hg, c, h => by
    simp only [goodFrom, Bool.and_eq_true, decide_eq_true_eq] at hg
    rcases List.mem_cons.1 h with rfl | h
    · exact hg.1.1
    · exact goodFrom_ok r _ hg.2 c h
theorem ltC_trans {a b c : Cell} (h : ltC a b) (h' : ltC b c) : ltC a c := by unfold ltC at *; omega
theorem goodFrom_lt : ∀ (l : List Cell) (p : Option Cell), goodFrom p l = true → (∀ q, p = some q → ∀ c ∈ l, ltC q c) ∧ l.Pairwise ltC
  | [], _, _ => ⟨fun _ _ c h => by simp at h, List.Pairwise.nil⟩
  | a :: r, p, hg => by
    simp only [goodFrom, Bool.and_eq_true, decide_eq_true_eq] at hg
    obtain ⟨h1, h2⟩ := goodFrom_lt r (some a) hg.2
    have h3 := h1 a rfl
    refine ⟨fun q hq c hc => ?_, List.pairwise_cons.2 ⟨h3, h2⟩⟩
    subst hq
    have h4 : ltC q a := by simpa using hg.1.2
    rcases List.mem_cons.1 hc with rfl | hc
    · exact h4
    · exact ltC_trans h4 (h3 c hc)
theorem goodFrom_of : ∀ (l : List Cell) (p : Option Cell), (∀ c ∈ l, okC c) → (∀ q, p = some q → ∀ c ∈ l, ltC q c) → l.Pairwise ltC → goodFrom p l = true
  | [], _, _, _, _ => rfl
  | a :: r, p, h0, h1, h2 => by
    obtain ⟨h3, h4⟩ := List.pairwise_cons.1 h2
    simp only [goodFrom, Bool.and_eq_true, decide_eq_true_eq]
    refine ⟨⟨h0 a List.mem_cons_self, ?_⟩, goodFrom_of r (some a) (fun c hc => h0 c (List.mem_cons_of_mem _ hc)) (fun q hq c hc => by injection hq with hq; subst hq; exact h3 c hc) h4⟩
    cases p with
    | none => rfl
    | some q => simpa using h1 q rfl a List.mem_cons_self
theorem shapeB_iff {l : List Cell} : shapeB l = true ↔ (∀ c ∈ l, okC c) ∧ l.Pairwise ltC ∧ 1 ≤ l.length ∧ l.length ≤ 40 := by
  unfold shapeB
  rw [Bool.and_eq_true, decide_eq_true_eq]
  constructor
  · rintro ⟨h, h'⟩
    exact ⟨goodFrom_ok l _ h, (goodFrom_lt l _ h).2, by omega, by omega⟩
  · rintro ⟨h1, h2, h3, h4⟩
    exact ⟨goodFrom_of l none h1 (fun _ h => by cases h) h2, by omega, by omega⟩
def minX : Int → List Cell → Int := fun z l => l.foldl (fun m c => mn m c.f0) z
def minY : Int → List Cell → Int := fun z l => l.foldl (fun m c => mn m c.f1) z
def maxX : Int → List Cell → Int := fun z l => l.foldl (fun m c => mx m c.f0) z
def maxY : Int → List Cell → Int := fun z l => l.foldl (fun m c => mx m c.f1) z
def leastOf (l : List Cell) : Int × Int := match l with | [] => (0, 0) | c :: r => (minX c.f0 r, minY c.f1 r)
def reachOf (l : List Cell) : Int × Int := match l with | [] => (0, 0) | c :: r => (maxX c.f0 r, maxY c.f1 r)
theorem implCorner_ev (l : List Cell) (hs : small l) (h0 : 0 < l.length) : Ev (fun k => impl_corner.f k l) (leastOf l) := by
  unfold impl_corner.f
  obtain ⟨c, r, rfl⟩ : ∃ c r, l = c :: r := by cases l with | nil => simp at h0 | cons c r => exact ⟨c, r, rfl⟩
  refine Ev.pos (by simp <;> omega) ?_
  have h1 : rd_T59 (c :: r) 0 = c := rfl
  rw [h1]
  have := loop_list (c :: r) (fun k i (s : Int × Int) => impl_corner.l0 k (c :: r) ((c :: r).length : Int) i s.1 s.2) (fun _ suf s => (minX s.1 suf, minY s.2 suf)) (fun _ _ => True) ?_ ?_ (c.f0, c.f1) trivial
  · refine Ev.of_eq this ?_
    simp [leastOf, minX, minY, mn]
  · rintro s _
    simp only [impl_corner.l0, len_lt, if_false]
    exact Ev.now _
  · rintro pre d suf s hx _ ih
    simp only [impl_corner.l0, pre_lt hx, pre_0, if_true, at_pre hx, pre_w hx hs]
    exact ih (mn s.1 d.f0, mn s.2 d.f1) trivial
theorem implReach_ev (l : List Cell) (hs : small l) (h0 : 0 < l.length) : Ev (fun k => impl_reach.f k l) (reachOf l) := by
  unfold impl_reach.f
  obtain ⟨c, r, rfl⟩ : ∃ c r, l = c :: r := by cases l with | nil => simp at h0 | cons c r => exact ⟨c, r, rfl⟩
  refine Ev.pos (by simp <;> omega) ?_
  have h1 : rd_T59 (c :: r) 0 = c := rfl
  rw [h1]
  have := loop_list (c :: r) (fun k i (s : Int × Int) => impl_reach.l0 k (c :: r) ((c :: r).length : Int) i s.1 s.2) (fun _ suf s => (maxX s.1 suf, maxY s.2 suf)) (fun _ _ => True) ?_ ?_ (c.f0, c.f1) trivial
  · refine Ev.of_eq this ?_
    simp [reachOf, maxX, maxY, mx]
  · rintro s _
    simp only [impl_reach.l0, len_lt, if_false]
    exact Ev.now _
  · rintro pre d suf s hx _ ih
    simp only [impl_reach.l0, pre_lt hx, pre_0, if_true, at_pre hx, pre_w hx hs]
    exact ih (mx s.1 d.f0, mx s.2 d.f1) trivial
theorem loop_tail {α σ ρ : Type} (c : α) (r : List α) (l : Nat → Int → σ → Option ρ) (g : List α → List α → σ → ρ) (Inv : List α → σ → Prop)
    (hn : ∀ s, Inv (c :: r) s → Ev (fun k => l (k + 1) ((c :: r).length : Int) s) (g (c :: r) [] s))
    (hs : ∀ (pre : List α) (d : α) (suf : List α) (s : σ), c :: r = pre ++ d :: suf → pre ≠ [] → Inv pre s → (∀ s', Inv (pre ++ [d]) s' → Ev (fun k => l k ((pre.length : Int) + 1) s') (g (pre ++ [d]) suf s')) → Ev (fun k => l (k + 1) (pre.length : Int) s) (g pre (d :: suf) s)) :
    ∀ s, Inv [c] s → Ev (fun k => l k 1 s) (g [c] r s) := by
  have key : ∀ (suf pre : List α), c :: r = pre ++ suf → pre ≠ [] → ∀ s, Inv pre s → Ev (fun k => l k (pre.length : Int) s) (g pre suf s) := by
    intro suf
    induction suf with
    | nil =>
      intro pre hx _ s hi
      rw [List.append_nil] at hx
      subst hx
      exact Ev.succ (hn s hi)
    | cons d suf ih =>
      intro pre hx hp s hi
      refine Ev.succ (hs pre d suf s hx hp hi fun s' hi' => ?_)
      have := ih (pre ++ [d]) (by rw [hx]; simp) (by simp) s' hi'
      rw [List.length_append] at this
      exact this
  intro s hi
  exact key r [c] rfl (by simp) s hi
end Go.Proofs.Ytfdfdifjkaaeoaa.L
end
